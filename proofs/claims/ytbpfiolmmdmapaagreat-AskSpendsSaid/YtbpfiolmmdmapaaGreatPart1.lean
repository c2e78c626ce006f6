import Derived.Test.YtbpfiolmmdmapaaGreatAm4
import Derived.Test.YtbpfiolmmdmapaaGreatProg
import Derived.Shelf.Strings.Repeat
import Derived.Shelf.Sort.Plain
import Derived.Shelf.Slices.CompactS
import Derived.Shelf.Slices.In.SortNone

/-! The functions that the laws of this seat reach, as plain functions, and what these answer; no condition. -/
set_option linter.unusedSimpArgs false
set_option linter.unusedVariables false
set_option linter.unusedSectionVars false

section
namespace Go.AM
theorem wrap64 {n : Int} (h1 : -9223372036854775808 <= n) (h2 : n < 9223372036854775808) : IntKind.i64.wrap n = n := by unfold IntKind.wrap; simp [IntKind.signed, IntKind.bits]; omega
theorem cond_pos {α : Type} {c : Bool} {a b : α} (h : c = true) : (bif c then a else b) = a := by rw [h]; rfl
theorem cond_neg {α : Type} {c : Bool} {a b : α} (h : c = false) : (bif c then a else b) = b := by rw [h]; rfl
theorem bK {α : Type} {p : Prop} {i : Decidable p} {a b : α} : (bif @decide p i then a else b) = if p then a else b := by by_cases h : p <;> simp [h]
theorem aN {n : Int} (h : n < 9223372036854775808) : ay n = true := by unfold ay; rw [Nat.blt_eq]; omega
theorem aF {i n : Int} (h1 : 0 <= i) (h2 : i < n) : inB i n = true := by simp [inB, h1, h2]
theorem dI {α β : Type} {f : α -> Option β} (st : Nat -> α) {n : Nat} (h : ∀ k, k < n -> f (st k) = f (st (k + 1))) : f (st 0) = f (st n) := by
 induction n with
 | zero => rfl
 | succ n ih => exact (ih fun k hk => h k (by omega)).trans (h n (by omega))
theorem Hu {α β : Type} {f : α -> Option β} (st : Nat -> α) {n : Nat} {c : Nat -> Bool} {e : Nat -> Option β} (h : ∀ k, k < n -> f (st k) = bif c k then e k else f (st (k + 1))) :
  (f (st 0) = f (st n) /\ ∀ k, k < n -> c k = false) \/ ∃ k, k < n /\ c k = true /\ (∀ j, j < k -> c j = false) /\ f (st 0) = e k := by
 induction n with
 | zero => exact .inl ⟨rfl, fun k hk => absurd hk (by omega)⟩
 | succ n ih =>
  rcases ih fun k hk => h k (by omega) with ⟨h1, h2⟩ | ⟨k, hk, h1⟩
  ·cases hc : c n with
   | false =>
    refine .inl ⟨h1.trans ((h n (by omega)).trans (by rw [hc]; rfl)), fun k hk => ?_⟩;rcases Nat.lt_succ_iff_lt_or_eq.1 hk with hk | rfl
    ·exact h2 k hk
    ·exact hc
   | true => exact .inr ⟨n, by omega, hc, h2, h1.trans ((h n (by omega)).trans (by rw [hc]; rfl))⟩
  ·exact .inr ⟨k, by omega, h1⟩
def acc (g : Nat -> Int) : Nat -> Int
 | 0 => 0
 | k + 1 => acc g k + g k
theorem jc {α : Type} {d : α} {xs : List α} {i : Int} (h1 : 0 <= i) (h2 : i < xs.length) : rd d xs i ∈ xs := by unfold rd; rw [List.getD_eq_getElem?_getD, List.getElem?_eq_getElem (show i.toNat < xs.length by omega), Option.getD_some]; exact List.getElem_mem _
theorem eU (x y : Int) : mx x y = max x y := by unfold mx; split <;> omega
theorem dR (x y : Int) : mn x y = min x y := by unfold mn; split <;> omega
theorem au {p : Prop} {i : Decidable p} (h : p) : @decide p i = true := decide_eq_true h
theorem aA {p : Prop} {i : Decidable p} (h : ¬p) : @decide p i = false := decide_eq_false h
theorem dec_not {p : Prop} {i : Decidable p} : (!@decide p i) = decide (¬p) := by by_cases h : p <;> simp [h]
theorem dec_and {p q : Prop} {i : Decidable p} {j : Decidable q} : (@decide p i && @decide q j) = decide (p /\ q) := by by_cases h : p <;> simp [h]
theorem dD {p q : Prop} {i : Decidable p} {j : Decidable q} : (@decide p i || @decide q j) = decide (p \/ q) := by by_cases h : p <;> simp [h]
theorem aY {l h n : Int} (h1 : 0 <= l) (h2 : l <= h) (h3 : h <= n) : eX l h n = true := by simp [eX, h1, h2, h3]
theorem kN {α : Type} {d : α} {xs : List α} {k : Nat} (h : k < xs.length) : rd d xs (k : Int) = xs[k] := by unfold rd; rw [Int.toNat_natCast, List.getD_eq_getElem?_getD, List.getElem?_eq_getElem h, Option.getD_some]
theorem Uf {α : Type} {d : α} {xs : List α} {n k : Nat} (hk : k < n) : rd d (xs.take n) (k : Int) = rd d xs (k : Int) := by unfold rd; rw [Int.toNat_natCast, List.getD_eq_getElem?_getD, List.getD_eq_getElem?_getD, List.getElem?_take_of_lt hk]
theorem Ba {α : Type} {d : α} {xs : List α} {k : Nat} (h : k < xs.length) : xs.take (k + 1) = xs.take k ++ [rd d xs (k : Int)] := by rw [kN h, List.take_succ_eq_append_getElem h]
end Go.AM
end
section
namespace Go.AM
theorem Dz {α β : Type} {f : α -> Option β} (st : Nat -> α) (n : Nat) (c : Nat -> Bool) (e : Nat -> Option β) (h : ∀ k, k < n -> f (st k) = bif c k then e k else f (st (k + 1))) :
  f (st 0) = match (List.range n).find? c with | some k => e k | none => f (st n) := by
 rcases Hu st h with ⟨h1, h2⟩ | ⟨k, hk, h1, h2, h3⟩
 ·have : (List.range n).find? c = none := List.find?_eq_none.2 fun k hk => by rw [h2 k (List.mem_range.1 hk)]; simp
  rw [this, h1]
 ·have : (List.range n).find? c = some k := by
   rw [List.find?_range_eq_some];exact ⟨h1, List.mem_range.2 hk, fun j hj => by rw [h2 j hj]; rfl⟩
  rw [this, h3]
theorem mO {α β : Type} {f : α -> Option β} (st : Nat -> α) (n : Nat) (c : Nat -> Bool) (e : Option β) (h : ∀ k, k < n -> f (st k) = bif c k then e else f (st (k + 1))) :
  f (st 0) = bif (List.range n).any c then e else f (st n) := by
 rcases Hu st h with ⟨h1, h2⟩ | ⟨k, hk, h1, h2, h3⟩
 ·have : (List.range n).any c = false := by rw [List.any_eq_false]; intro k hk; rw [h2 k (List.mem_range.1 hk)]; simp
  rw [this, h1]; rfl
 ·have : (List.range n).any c = true := List.any_eq_true.2 ⟨k, List.mem_range.2 hk, h1⟩;rw [this, h3]; rfl
theorem QX {α β : Type} {f : α -> Option β} (st : Nat -> α) (n : Nat) (c : Nat -> Bool) (e : Nat -> Option β) (h : ∀ k, k < n -> f (st k) = bif c k then e k else f (st (k + 1))) :
  ∃ k, ((List.range n).any c = true -> k < n /\ c k = true /\ ∀ j, j < k -> c j = false) /\ f (st 0) = bif (List.range n).any c then e k else f (st n) := by
 rcases Hu st h with ⟨h1, h2⟩ | ⟨k, hk, h1, h2, h3⟩
 ·have : (List.range n).any c = false := by rw [List.any_eq_false]; intro k hk; rw [h2 k (List.mem_range.1 hk)]; simp
  exact ⟨0, fun q => by rw [this] at q; simp at q, by rw [this, h1]; rfl⟩
 ·have : (List.range n).any c = true := List.any_eq_true.2 ⟨k, List.mem_range.2 hk, h1⟩;exact ⟨k, fun _ => ⟨hk, h1, h2⟩, by rw [this, h3]; rfl⟩
theorem any_congr {n : Nat} {c d : Nat -> Bool} (h : ∀ k, k < n -> c k = d k) : (List.range n).any c = (List.range n).any d := by
 rw [Bool.eq_iff_iff, List.any_eq_true, List.any_eq_true];exact ⟨fun ⟨k, hk, q⟩ => ⟨k, hk, by rw [<- h k (List.mem_range.1 hk)]; exact q⟩, fun ⟨k, hk, q⟩ => ⟨k, hk, by rw [h k (List.mem_range.1 hk)]; exact q⟩⟩
theorem QY {α : Type} {d : α} {a b : List α} (hl : a.length = b.length) (h : ∀ k : Nat, k < a.length -> rd d a (k : Int) = rd d b (k : Int)) : a = b := by
 apply List.ext_getElem hl
 intro k h1 h2;have := h k h1
 rwa [kN h1, kN h2] at this
theorem Hw {α : Type} [DecidableEq α] {d : α} {a b : List α} (hl : a.length = b.length) : ((List.range a.length).any fun k => !decide (rd d a (k : Int) = rd d b (k : Int))) = !decide (a = b) := by
 by_cases h : a = b
 ·subst h;rw [show (!decide (a = a)) = false by simp, List.any_eq_false];intro k _; simp
 ·rw [aA h];cases hq : (List.range a.length).any fun k => !decide (rd d a (k : Int) = rd d b (k : Int)) with
  | true => rfl
  | false =>
   rw [List.any_eq_false] at hq;exact (h (QY hl fun k hk => by have := hq k (List.mem_range.2 hk); simpa using this)).elim
theorem aI {n : Nat} (h : n < 9223372036854775808) : ay (n : Int) = true := aN (by omega)
theorem kV (n : Int) : IntKind.u8.wrap n = n % 256 := by unfold IntKind.wrap; simp [IntKind.signed, IntKind.bits]
theorem zk {n : Int} : -9223372036854775808 <= IntKind.i64.wrap n /\ IntKind.i64.wrap n < 9223372036854775808 := by unfold IntKind.wrap; simp [IntKind.signed, IntKind.bits]; omega
end Go.AM
end
section
namespace Go.AM
abbrev B8 (x : Int) : Prop := 0 <= x /\ x < 256
theorem tV (n : Int) : B8 (IntKind.u8.wrap n) := by rw [kV]; unfold B8; omega
theorem pX {n : Int} (h : B8 n) : IntKind.u8.wrap n = n := by rw [kV]; unfold B8 at h; omega
theorem Ac (a b : Int) : B8 (dX .u8 a b) := by unfold dX qX; exact tV _
theorem ZJ (a b : Int) : B8 (Et .u8 a b) := by unfold Et qX; exact tV _
theorem NK (a b : Int) : B8 (jP .u8 a b) := by unfold jP; exact tV _
theorem WH {a k : Int} : iR .u8 a k = a / 2 ^ min k.toNat 8 := by
 unfold iR;rw [Int.fdiv_eq_ediv_of_nonneg _ (Int.le_of_lt (Int.pow_pos (by omega)))];rfl
theorem xor_zero {a : Int} (h : B8 a) : dX .u8 a 0 = a := by
 show IntKind.u8.wrap (BitVec.ofInt 8 a ^^^ BitVec.ofInt 8 0).toNat = a;rw [show BitVec.ofInt 8 0 = 0#8 from rfl, BitVec.xor_zero, BitVec.toNat_ofInt, kV];unfold B8 at h;omega
theorem jd {p : Int -> Prop} (h : ∀ n : Nat, n < 256 -> p n) {a : Int} (ha : B8 a) : p a := by
 have := h a.toNat (by unfold B8 at ha; omega)
 rwa [show ((a.toNat : Nat) : Int) = a by unfold B8 at ha; omega] at this
def tab (n : Nat) (g : Nat -> Int) : List Int := (List.range n).map g
@[simp] theorem jm {n : Nat} {g : Nat -> Int} : (tab n g).length = n := by simp [tab]
theorem qL {n : Nat} {g : Nat -> Int} {k : Nat} (h : k < n) : rd 0 (tab n g) (k : Int) = g k := by rw [kN (by simpa using h)]; simp [tab]
theorem NM {n : Nat} {g : Nat -> Int} {k : Int} (h0 : 0 <= k) (h : k < n) : rd 0 (tab n g) k = g k.toNat := by
 have := qL (n := n) (g := g) (k := k.toNat) (by omega)
 rwa [show ((k.toNat : Nat) : Int) = k by omega] at this
theorem jg {n : Nat} {g h : Nat -> Int} (e : ∀ k, k < n -> g k = h k) : tab n g = tab n h := by unfold tab; exact List.map_congr_left fun k hk => e k (List.mem_range.1 hk)
theorem Bc {n : Nat} {g : Nat -> Int} {k : Nat} {v : Int} : (tab n g).set k v = tab n fun i => if i = k then v else g i := by
 unfold tab;apply List.ext_getElem (by simp)
 intro i h1 h2;simp only [List.getElem_set, List.getElem_map, List.getElem_range];by_cases h : k = i
 ·rw [if_pos h, if_pos h.symm]
 ·rw [if_neg h, if_neg (Ne.symm h)]
theorem Hy {m : List Int} {n : Nat} (h : m.length = n) : m = tab n fun i => rd 0 m (i : Int) := by
 apply QY (d := 0) (by simp [h])
 intro k hk;rw [qL (by omega)]
def zl (n k : Nat) (g : Nat -> Int) : List Int := tab n fun i => if i < k then g i else 0
@[simp] theorem Yr {n k : Nat} {g : Nat -> Int} : (zl n k g).length = n := jm
theorem zn {n : Nat} {g : Nat -> Int} : zl n 0 g = List.replicate n 0 := by
 unfold zl tab;rw [List.eq_replicate_iff];exact ⟨by simp, fun b hb => by obtain ⟨i, _, rfl⟩ := List.mem_map.1 hb; simp⟩
theorem Jv {n : Nat} {g : Nat -> Int} : zl n n g = tab n g := jg fun k hk => by rw [if_pos hk]
theorem DC {n k : Nat} {g : Nat -> Int} {v : Int} (h : v = g k) : (zl n k g).set k v = zl n (k + 1) g := by
 unfold zl;rw [Bc];refine jg fun i _ => ?_
 by_cases h1 : i = k
 ·subst h1; rw [if_pos rfl, if_pos (by omega), h]
 ·rw [if_neg h1];by_cases h2 : i < k
  ·rw [if_pos h2, if_pos (by omega)]
  ·rw [if_neg h2, if_neg (by omega)]
theorem zo {m : List Int} {k : Nat} {v : Int} (h : k < m.length) : rd 0 (m.set k v) (k : Int) = v := by rw [kN (by simpa using h)]; simp
theorem iP {α β : Type} {f : α -> Option β} (st : Nat -> List Int -> α) (g : Nat -> Int -> Int) (m : List Int) {n : Nat} (hn : m.length = n)
  (h : ∀ k, k < n -> ∀ m' : List Int, m'.length = n -> (∀ j, k <= j -> rd 0 m' (j : Int) = rd 0 m (j : Int)) -> f (st k m') = f (st (k + 1) (m'.set k (g k (rd 0 m (k : Int)))))) :
  f (st 0 m) = f (st n (tab n fun i => g i (rd 0 m (i : Int)))) := by
 have key : ∀ k, k <= n -> f (st 0 m) = f (st k (tab n fun i => if i < k then g i (rd 0 m (i : Int)) else rd 0 m (i : Int))) := by
  intro k
  induction k with
  | zero =>
   intro _;rw [show (tab n fun i => if i < 0 then g i (rd 0 m (i : Int)) else rd 0 m (i : Int)) = m from by
    conv => rhs; rw [Hy hn]
    exact jg fun i _ => by rw [if_neg (by omega)]]
  | succ k ih =>
   intro hk;rw [ih (by omega), h k (by omega) _ (by simp) fun j hj => by
    by_cases hjn : j < n
    ·rw [qL hjn, if_neg (by omega)]
    ·unfold rd;rw [Int.toNat_natCast, List.getD_eq_getElem?_getD, List.getD_eq_getElem?_getD, List.getElem?_eq_none (by simp; omega), List.getElem?_eq_none (by omega)]]
   congr 2;rw [Bc];refine jg fun i _ => ?_
   by_cases h1 : i = k
   ·subst h1; rw [if_pos rfl, if_pos (by omega)]
   ·rw [if_neg h1];by_cases h2 : i < k
    ·rw [if_pos h2, if_pos (by omega)]
    ·rw [if_neg h2, if_neg (by omega)]
 rw [key n (Nat.le_refl _)];congr 2;exact jg fun i hi => by rw [if_pos hi]
theorem list4 {t : List Int} (h : t.length = 4) : t = [rd 0 t 0, rd 0 t 1, rd 0 t 2, rd 0 t 3] := by
 match t, h with
 | [a, b, c, d], _ => rfl
theorem oh (k : Nat) (h : k < 4611686018427387904) : IntKind.i64.wrap ((k : Int) + 1) = ((k + 1 : Nat) : Int) := by rw [wrap64 (by omega) (by omega)]; omega
end Go.AM
end
section
namespace Go.Proofs
def Tryz.lays105_ren : Go.Shelf.Ren := ⟨fun | 105 => 33 | 212 => 67 | 99 => 68 | 165 => 69 | 166 => 70 | 170 => 71 | 169 => 72 | 263 => 106 | 264 => 107 | 206 => 108 | 240 => 109 | 241 => 110 | 276 => 140 | 277 => 141 | n => n, fun | 9 => 9 | 3 => 3 | 4 => 4 | 20 => 20 | 0 => 0 | 46 => 96 | 109 => 136 | 5 => 5 | 72 => 141 | 76 => 145 | 51 => 38 | 146 => 185 | 53 => 28 | 148 => 187 | 70 => 139 | 37 => 82 | 75 => 144 | 127 => 189 | 164 => 233 | 80 => 148 | n => n, fun | n => n⟩
theorem Tryz.lays105 : Go.Proofs.Lays.n105 Tryz.prog Tryz.lays105_ren := {
  mixed := by kernel_rfl
  f99 := Tryz.func68.trans (congrArg some (by kernel_rfl))
  f105 := Tryz.func33.trans (congrArg some (by kernel_rfl))
  f165 := Tryz.func69.trans (congrArg some (by kernel_rfl))
  f166 := Tryz.func70.trans (congrArg some (by kernel_rfl))
  f169 := Tryz.func72.trans (congrArg some (by kernel_rfl))
  f170 := Tryz.func71.trans (congrArg some (by kernel_rfl))
  f206 := Tryz.func108.trans (congrArg some (by kernel_rfl))
  f212 := Tryz.func67.trans (congrArg some (by kernel_rfl))
  f240 := Tryz.func109.trans (congrArg some (by kernel_rfl))
  f241 := Tryz.func110.trans (congrArg some (by kernel_rfl))
  f263 := Tryz.func106.trans (congrArg some (by kernel_rfl))
  f264 := Tryz.func107.trans (congrArg some (by kernel_rfl))
  f276 := Tryz.func140.trans (congrArg some (by kernel_rfl))
  f277 := Tryz.func141.trans (congrArg some (by kernel_rfl))
  t0 := Tryz.underlying0
  a0 := Tryz.isAgg0
  z0 := Tryz.sizeOf0
  v0 := Tryz.zeroValue0
  t3 := Tryz.underlying3
  a3 := Tryz.isAgg3
  z3 := Tryz.sizeOf3
  v3 := Tryz.zeroValue3
  t4 := Tryz.underlying4
  a4 := Tryz.isAgg4
  z4 := Tryz.sizeOf4
  v4 := Tryz.zeroValue4
  t5 := Tryz.underlying5
  a5 := Tryz.isAgg5
  z5 := Tryz.sizeOf5
  v5 := Tryz.zeroValue5
  t9 := Tryz.underlying9
  a9 := Tryz.isAgg9
  z9 := Tryz.sizeOf9
  v9 := Tryz.zeroValue9
  t20 := Tryz.underlying20
  a20 := Tryz.isAgg20
  z20 := Tryz.sizeOf20
  v20 := Tryz.zeroValue20
  t37 := Tryz.underlying82
  a37 := Tryz.isAgg82
  z37 := Tryz.sizeOf82
  v37 := Tryz.zeroValue82
  t46 := Tryz.underlying96
  a46 := Tryz.isAgg96
  z46 := Tryz.sizeOf96
  v46 := Tryz.zeroValue96
  t51 := Tryz.underlying38
  a51 := Tryz.isAgg38
  z51 := Tryz.sizeOf38
  v51 := Tryz.zeroValue38
  t53 := Tryz.underlying28
  a53 := Tryz.isAgg28
  z53 := Tryz.sizeOf28
  v53 := Tryz.zeroValue28
  t70 := Tryz.underlying139
  a70 := Tryz.isAgg139
  z70 := Tryz.sizeOf139
  v70 := Tryz.zeroValue139
  t72 := Tryz.underlying141
  a72 := Tryz.isAgg141
  z72 := Tryz.sizeOf141
  v72 := Tryz.zeroValue141
  t75 := Tryz.underlying144
  a75 := Tryz.isAgg144
  z75 := Tryz.sizeOf144
  v75 := Tryz.zeroValue144
  t76 := Tryz.underlying145
  a76 := Tryz.isAgg145
  z76 := Tryz.sizeOf145
  v76 := Tryz.zeroValue145
  t109 := Tryz.underlying136
  a109 := Tryz.isAgg136
  z109 := Tryz.sizeOf136
  v109 := Tryz.zeroValue136
  t127 := Tryz.underlying189
  a127 := Tryz.isAgg189
  z127 := Tryz.sizeOf189
  v127 := Tryz.zeroValue189
  t146 := Tryz.underlying185
  a146 := Tryz.isAgg185
  z146 := Tryz.sizeOf185
  v146 := Tryz.zeroValue185
  t148 := Tryz.underlying187
  a148 := Tryz.isAgg187
  z148 := Tryz.sizeOf187
  v148 := Tryz.zeroValue187
  t164 := Tryz.underlying233
  a164 := Tryz.isAgg233
  z164 := Tryz.sizeOf233
  v164 := Tryz.zeroValue233 }
theorem Tryz.Builder_Extra_105 : Builder.Extra Tryz.prog Tryz.lays105_ren := {
  sizeBuilder := by kernel_rfl
  liesBuilder := by kernel_rfl
  t5 := Tryz.underlying5
  a5 := Tryz.isAgg5
  z5 := Tryz.sizeOf5
  v5 := Tryz.zeroValue5
  infoByte := by kernel_rfl
  cellsByte := by kernel_rfl
  sizeByte := by kernel_rfl
  neB5 := by decide }
def Tryz.lays190_ren : Go.Shelf.Ren := ⟨fun | 190 => 146 | 125 => 153 | 258 => 152 | 128 => 171 | 129 => 172 | 302 => 162 | 303 => 163 | 304 => 164 | 305 => 165 | 306 => 166 | 307 => 167 | 308 => 168 | 309 => 169 | 310 => 170 | 333 => 180 | 329 => 181 | 330 => 182 | 334 => 183 | 335 => 184 | 336 => 185 | 344 => 186 | n => n, fun | 31 => 27 | 9 => 9 | 3 => 3 | 46 => 96 | 0 => 0 | 51 => 38 | 53 => 28 | 4 => 4 | 183 => 254 | 182 => 253 | 131 => 258 | 5 => 5 | 218 => 268 | 222 => 272 | 228 => 274 | 229 => 275 | n => n, fun | n => n⟩
theorem Tryz.lays190 : Go.Proofs.Lays.n190 Tryz.prog Tryz.lays190_ren := {
  mixed := by kernel_rfl
  f125 := Tryz.func153.trans (congrArg some (by kernel_rfl))
  f128 := Tryz.func171.trans (congrArg some (by kernel_rfl))
  f129 := Tryz.func172.trans (congrArg some (by kernel_rfl))
  f190 := Tryz.func146.trans (congrArg some (by kernel_rfl))
  f258 := Tryz.func152.trans (congrArg some (by kernel_rfl))
  f302 := Tryz.func162.trans (congrArg some (by kernel_rfl))
  f303 := Tryz.func163.trans (congrArg some (by kernel_rfl))
  f304 := Tryz.func164.trans (congrArg some (by kernel_rfl))
  f305 := Tryz.func165.trans (congrArg some (by kernel_rfl))
  f306 := Tryz.func166.trans (congrArg some (by kernel_rfl))
  f307 := Tryz.func167.trans (congrArg some (by kernel_rfl))
  f308 := Tryz.func168.trans (congrArg some (by kernel_rfl))
  f309 := Tryz.func169.trans (congrArg some (by kernel_rfl))
  f310 := Tryz.func170.trans (congrArg some (by kernel_rfl))
  f329 := Tryz.func181.trans (congrArg some (by kernel_rfl))
  f330 := Tryz.func182.trans (congrArg some (by kernel_rfl))
  f333 := Tryz.func180.trans (congrArg some (by kernel_rfl))
  f334 := Tryz.func183.trans (congrArg some (by kernel_rfl))
  f335 := Tryz.func184.trans (congrArg some (by kernel_rfl))
  f336 := Tryz.func185.trans (congrArg some (by kernel_rfl))
  f344 := Tryz.func186.trans (congrArg some (by kernel_rfl))
  t0 := Tryz.underlying0
  a0 := Tryz.isAgg0
  z0 := Tryz.sizeOf0
  v0 := Tryz.zeroValue0
  t3 := Tryz.underlying3
  a3 := Tryz.isAgg3
  z3 := Tryz.sizeOf3
  v3 := Tryz.zeroValue3
  t4 := Tryz.underlying4
  a4 := Tryz.isAgg4
  z4 := Tryz.sizeOf4
  v4 := Tryz.zeroValue4
  t5 := Tryz.underlying5
  a5 := Tryz.isAgg5
  z5 := Tryz.sizeOf5
  v5 := Tryz.zeroValue5
  t9 := Tryz.underlying9
  a9 := Tryz.isAgg9
  z9 := Tryz.sizeOf9
  v9 := Tryz.zeroValue9
  t31 := Tryz.underlying27
  a31 := Tryz.isAgg27
  z31 := Tryz.sizeOf27
  v31 := Tryz.zeroValue27
  t46 := Tryz.underlying96
  a46 := Tryz.isAgg96
  z46 := Tryz.sizeOf96
  v46 := Tryz.zeroValue96
  t51 := Tryz.underlying38
  a51 := Tryz.isAgg38
  z51 := Tryz.sizeOf38
  v51 := Tryz.zeroValue38
  t53 := Tryz.underlying28
  a53 := Tryz.isAgg28
  z53 := Tryz.sizeOf28
  v53 := Tryz.zeroValue28
  t131 := Tryz.underlying258
  a131 := Tryz.isAgg258
  z131 := Tryz.sizeOf258
  v131 := Tryz.zeroValue258
  t182 := Tryz.underlying253
  a182 := Tryz.isAgg253
  z182 := Tryz.sizeOf253
  v182 := Tryz.zeroValue253
  t183 := Tryz.underlying254
  a183 := Tryz.isAgg254
  z183 := Tryz.sizeOf254
  v183 := Tryz.zeroValue254
  t218 := Tryz.underlying268
  a218 := Tryz.isAgg268
  z218 := Tryz.sizeOf268
  v218 := Tryz.zeroValue268
  t222 := Tryz.underlying272
  a222 := Tryz.isAgg272
  z222 := Tryz.sizeOf272
  v222 := Tryz.zeroValue272
  t228 := Tryz.underlying274
  a228 := Tryz.isAgg274
  z228 := Tryz.sizeOf274
  v228 := Tryz.zeroValue274
  t229 := Tryz.underlying275
  a229 := Tryz.isAgg275
  z229 := Tryz.sizeOf275
  v229 := Tryz.zeroValue275 }
def Tryz.lays194_ren : Go.Shelf.Ren := ⟨fun | 194 => 136 | n => n, fun | 31 => 27 | 9 => 9 | 3 => 3 | 4 => 4 | 0 => 0 | n => n, fun | n => n⟩
theorem Tryz.lays194 : Go.Proofs.Lays.n194 Tryz.prog Tryz.lays194_ren := {
  mixed := by kernel_rfl
  f194 := Tryz.func136.trans (congrArg some (by kernel_rfl))
  t0 := Tryz.underlying0
  a0 := Tryz.isAgg0
  z0 := Tryz.sizeOf0
  v0 := Tryz.zeroValue0
  t3 := Tryz.underlying3
  a3 := Tryz.isAgg3
  z3 := Tryz.sizeOf3
  v3 := Tryz.zeroValue3
  t4 := Tryz.underlying4
  a4 := Tryz.isAgg4
  z4 := Tryz.sizeOf4
  v4 := Tryz.zeroValue4
  t9 := Tryz.underlying9
  a9 := Tryz.isAgg9
  z9 := Tryz.sizeOf9
  v9 := Tryz.zeroValue9
  t31 := Tryz.underlying27
  a31 := Tryz.isAgg27
  z31 := Tryz.sizeOf27
  v31 := Tryz.zeroValue27 }
end Go.Proofs
section
set_option maxRecDepth 100000
namespace Go.Proofs
open Go.Shelf Go.RowKit
def Tryz.bld_ren : Go.Shelf.Ren := ⟨fun | 166 => 70 | 169 => 72 | 170 => 71 | 240 => 109 | n => n, fun | 70 => 139 | 9 => 9 | 0 => 0 | 72 => 141 | 37 => 82 | 127 => 189 | 3 => 3 | 5 => 5 | 4 => 4 | 20 => 20 | 46 => 96 | 109 => 136 | 76 => 145 | 51 => 38 | 146 => 185 | 53 => 28 | 148 => 187 | 75 => 144 | 164 => 233 | 80 => 148 | n => n, fun | n => n⟩
theorem Tryz.bld169 : Go.Proofs.Lays.n169 Tryz.prog Tryz.bld_ren := {
  mixed := by kernel_rfl
  f169 := Tryz.func72.trans (congrArg some (by kernel_rfl))
  t0 := Tryz.underlying0
  a0 := Tryz.isAgg0
  z0 := Tryz.sizeOf0
  v0 := Tryz.zeroValue0
  t3 := Tryz.underlying3
  a3 := Tryz.isAgg3
  z3 := Tryz.sizeOf3
  v3 := Tryz.zeroValue3
  t9 := Tryz.underlying9
  a9 := Tryz.isAgg9
  z9 := Tryz.sizeOf9
  v9 := Tryz.zeroValue9
  t37 := Tryz.underlying82
  a37 := Tryz.isAgg82
  z37 := Tryz.sizeOf82
  v37 := Tryz.zeroValue82
  t70 := Tryz.underlying139
  a70 := Tryz.isAgg139
  z70 := Tryz.sizeOf139
  v70 := Tryz.zeroValue139
  t72 := Tryz.underlying141
  a72 := Tryz.isAgg141
  z72 := Tryz.sizeOf141
  v72 := Tryz.zeroValue141
  t127 := Tryz.underlying189
  a127 := Tryz.isAgg189
  z127 := Tryz.sizeOf189
  v127 := Tryz.zeroValue189 }
theorem Tryz.bld170 : Go.Proofs.Lays.n170 Tryz.prog Tryz.bld_ren := {
  mixed := by kernel_rfl
  f170 := Tryz.func71.trans (congrArg some (by kernel_rfl))
  t0 := Tryz.underlying0
  a0 := Tryz.isAgg0
  z0 := Tryz.sizeOf0
  v0 := Tryz.zeroValue0
  t3 := Tryz.underlying3
  a3 := Tryz.isAgg3
  z3 := Tryz.sizeOf3
  v3 := Tryz.zeroValue3
  t37 := Tryz.underlying82
  a37 := Tryz.isAgg82
  z37 := Tryz.sizeOf82
  v37 := Tryz.zeroValue82
  t70 := Tryz.underlying139
  a70 := Tryz.isAgg139
  z70 := Tryz.sizeOf139
  v70 := Tryz.zeroValue139
  t72 := Tryz.underlying141
  a72 := Tryz.isAgg141
  z72 := Tryz.sizeOf141
  v72 := Tryz.zeroValue141 }
theorem Tryz.bldX : Builder.Extra Tryz.prog Tryz.bld_ren := {
  sizeBuilder := by kernel_rfl
  liesBuilder := by kernel_rfl
  t5 := Tryz.underlying5
  a5 := Tryz.isAgg5
  z5 := Tryz.sizeOf5
  v5 := Tryz.zeroValue5
  infoByte := by kernel_rfl
  cellsByte := by kernel_rfl
  sizeByte := by kernel_rfl
  neB5 := by decide }
theorem Tryz.bld166 : Tryz.prog.funcs[Tryz.bld_ren.f 166]? = some (Body.n166 Tryz.bld_ren) := Tryz.func70.trans (congrArg some (by kernel_rfl))
theorem Tryz.bld240 : ∀ args w, (callFunc (Tryz.bld_ren.f 240) args).run Tryz.prog w = .ok (.enter (Tryz.bld_ren.f 240) args) w := enters_of Tryz.func109 (by kernel_rfl) rfl
set_option maxHeartbeats 1000000 in
theorem Tryz.bld_used (b : Nat) (w : World) (h0 : w.cell? ⟨b, 0, none⟩ = some (.pointer (some ⟨b, 0, none⟩))) :
    Calls Tryz.prog 109 #[.pointer (some ⟨b, 0, none⟩)] w fun e w' => e = .returned (.tuple #[]) /\ w' = w := by
  obtain ⟨j, hj, hjs⟩ := Option.map_eq_some_iff.1 Tryz.bldX.sizeBuilder;have hj : Tryz.prog.info? 141 = some j := hj;have mixed := Tryz.bld169.mixed;have t72 := Tryz.underlying141; have a72 := Tryz.isAgg141; have z72 := Tryz.sizeOf141; have v72 := Tryz.zeroValue141; have u72 := run_underlying Tryz.underlying141;have t70 := Tryz.underlying139; have a70 := Tryz.isAgg139; have z70 := Tryz.sizeOf139; have v70 := Tryz.zeroValue139; have u70 := run_underlying Tryz.underlying139;have t9 := Tryz.underlying9; have a9 := Tryz.isAgg9; have z9 := Tryz.sizeOf9; have v9 := Tryz.zeroValue9; have u9 := run_underlying Tryz.underlying9;have t4 := Tryz.underlying4; have a4 := Tryz.isAgg4; have z4 := Tryz.sizeOf4; have v4 := Tryz.zeroValue4; have u4 := run_underlying Tryz.underlying4;have t164 := Tryz.underlying233; have a164 := Tryz.isAgg233; have z164 := Tryz.sizeOf233; have v164 := Tryz.zeroValue233; have u164 := run_underlying Tryz.underlying233
  go_enter Tryz.func109, (show Tryz.f109.ntmps = 20 by kernel_rfl)
  go_wp2
  rw [Lib.run_neq_ptr_same w _ t70 hj]
  go_wp2
  go_end0
  exact ⟨rfl, rfl⟩
set_option maxHeartbeats 1000000 in
theorem Tryz.bld_fresh (b : Nat) (w : World) (h0 : w.cell? ⟨b, 0, none⟩ = some (.pointer none)) (hsh : w.shape? b = some (141, 2)) (hfz : w.frozen? ⟨b, 0, none⟩ = false) :
    Calls Tryz.prog 109 #[.pointer (some ⟨b, 0, none⟩)] w fun e w' => e = .returned (.tuple #[]) /\ w' = w.setCell ⟨b, 0, none⟩ (.pointer (some ⟨b, 0, none⟩)) := by
  obtain ⟨j, hj, hjs⟩ := Option.map_eq_some_iff.1 Tryz.bldX.sizeBuilder;have hj : Tryz.prog.info? 141 = some j := hj;have mixed := Tryz.bld169.mixed;have t72 := Tryz.underlying141; have a72 := Tryz.isAgg141; have z72 := Tryz.sizeOf141; have v72 := Tryz.zeroValue141; have u72 := run_underlying Tryz.underlying141;have t70 := Tryz.underlying139; have a70 := Tryz.isAgg139; have z70 := Tryz.sizeOf139; have v70 := Tryz.zeroValue139; have u70 := run_underlying Tryz.underlying139;have t9 := Tryz.underlying9; have a9 := Tryz.isAgg9; have z9 := Tryz.sizeOf9; have v9 := Tryz.zeroValue9; have u9 := run_underlying Tryz.underlying9;have t4 := Tryz.underlying4; have a4 := Tryz.isAgg4; have z4 := Tryz.sizeOf4; have v4 := Tryz.zeroValue4; have u4 := run_underlying Tryz.underlying4;have t164 := Tryz.underlying233; have a164 := Tryz.isAgg233; have z164 := Tryz.sizeOf233; have v164 := Tryz.zeroValue233; have u164 := run_underlying Tryz.underlying233
  go_enter Tryz.func109, (show Tryz.f109.ntmps = 20 by kernel_rfl)
  go_wp2
  rw [Lib.run_to_unsafe w ⟨b, 0, none⟩ t70 t164 hj (by rw [hjs]; decide) hsh (Nat.zero_lt_succ 1)];simp only [Result.andThen];rw [Oper.upon_value]
  go_wp2
  rw [run_callFunc_extern Tryz.func140 (by kernel_rfl) (by kernel_rfl) (by kernel_rfl) (e := Extern.AbiNoEscape.same) (by kernel_rfl)];rw [Lib.run_noEscape];simp only [Result.andThen];rw [Oper.upon_value]
  go_wp2
  rw [Lib.run_from_unsafe w ⟨b, 0, none⟩ t164 t70 hj hsh Tryz.bldX.liesBuilder];simp only [Result.andThen];rw [Oper.upon_value]
  go_wp2
  go_end0
  exact ⟨rfl, rfl⟩
open Go.AM in
theorem Tryz.bld_cc (b : Nat) (v : Value) (bs : List Value) (w : World) (h : vT 141 5 b v bs w) : Calls Tryz.prog 109 #[.pointer (some ⟨b, 0, none⟩)] w (Gm 141 5 b v bs w) := XY h (fun h1 h2 h3 => Tryz.bld_fresh b w h1 h2 h3) (fun h1 => Tryz.bld_used b w h1)
open Go.AM in
theorem Tryz.bld_ws (b : Nat) (v : Value) (bs : List Value) (s : ByteArray) (w : World) (h : vT 141 5 b v bs w) (hlen : bs.length + s.size <= 140737488355328) :
    Calls Tryz.prog 70 #[.pointer (some ⟨b, 0, none⟩), .string s] w fun e w' => e = .returned (.tuple #[.int .i64 s.size, .nilIface]) /\ Only b v.ownBlock w w' /\ ∃ v', vT 141 5 b v' (bs ++ Lib.strCells s) w' /\ ∀ k, v'.ownBlock = some k -> v.ownBlock = some k \/ w.heap.size <= k :=
  Ah (ρ := Tryz.bld_ren) Tryz.bld169 Tryz.bldX Tryz.bld166 Tryz.bld240 Tryz.bld_cc b v bs s w h hlen
open Go.AM in
theorem Tryz.bld_str (b : Nat) (v : Value) (l : List UInt8) (w : World) (h : vT 141 5 b v (Lib.byteCells l) w) :
    Calls Tryz.prog 72 #[.pointer (some ⟨b, 0, none⟩)] w fun e w' => e = .returned (.string ⟨l.toArray⟩) /\ Only b v.ownBlock w w' /\ vT 141 5 b v (Lib.byteCells l) w' := Kr (ρ := Tryz.bld_ren) Tryz.bld169 Tryz.bldX b v l w h
open Go.AM in
theorem Tryz.bld_len (b : Nat) (v : Value) (bs : List Value) (w : World) (h : vT 141 5 b v bs w) :
    Calls Tryz.prog 71 #[.pointer (some ⟨b, 0, none⟩)] w fun e w' => e = .returned (.int .i64 bs.length) /\ w' = w := TF (ρ := Tryz.bld_ren) Tryz.bld170 b v bs w h
end Go.Proofs
end
namespace Go.AM
open Go.Proofs
noncomputable abbrev P := Tryz.prog
instance tb : Tabs := ⟨fun _ => none⟩
universe u
theorem an {α : Type u} {p : α -> Prop} : ∀ k ∈ ([] : List α), p k := fun k h => nomatch h
theorem ac {α : Type u} {p : α -> Prop} {a : α} {l : List α} (h : p a) (k : ∀ x ∈ l, p x) : ∀ x ∈ a :: l, p x := fun x hx => by
  rcases List.mem_cons.1 hx with rfl | hx
  · exact h
  · exact k x hx
set_option maxRecDepth 100000
set_option linter.unusedVariables false
noncomputable section
variable (m_ : aO)
def ZK : BK := ⟨141, 5, 70, 72, 71⟩
theorem WI : ZK.OK P := ⟨by kernel_rfl, by kernel_rfl, by kernel_rfl, Go.Proofs.Tryz.bld_ws, Go.Proofs.Tryz.bld_str, Go.Proofs.Tryz.bld_len⟩
def ZL : SK := ⟨146, 136⟩
theorem WJ : ZL.OK P := ⟨by kernel_rfl, by kernel_rfl, fun b o c ss w h1 h2 h3 => Go.Proofs.Any.slices_Sort_string Go.Proofs.Tryz.lays190 b o c ss w h1 h2 h3, fun p c w => Go.Proofs.Any.slices_Sort_string_none Go.Proofs.Tryz.lays190 p c w, fun b o c ss w h1 h2 h3 => Go.Proofs.Any.slices_Compact_string Go.Proofs.Tryz.lays194 b o c ss w h1 h2 h3, fun p c w => Go.Proofs.Any.slices_Compact_string_empty Go.Proofs.Tryz.lays194 p c w⟩
abbrev tY0 : Ty := .lst (.int .u8)
abbrev ZM : Ty := .pair .str .str
abbrev JV : Ty := .arr 4 (.int .u8)
abbrev rH : Ty := .arr 16 (.int .u8)
abbrev ZN : Ty := .arr 3 (.int .u32)
abbrev qM : Ty := .arr 256 (.int .u8)
abbrev Yt : Ty := .lst tY0
abbrev QZ : Ty := .pair (.int .i64) .str
abbrev Zc : Ty := .pair .str ZM
abbrev tY9 : Ty := .pair (.int .u64) (.int .u64)
abbrev zq : Ty := .lst QZ
abbrev ZO : Ty := .pair (.int .i64) (.int .i64)
abbrev qN : Ty := .arr 16 qM
abbrev Ug : Ty := .pair (.int .i64) ZM
abbrev ZP : Ty := .pair (.lst .str) ZM
abbrev Hz : Ty := .pair .str ZP
abbrev ZQ : Ty := .pair (.int .u64) tY9
abbrev ZR : Ty := .pair (.int .u64) zq
abbrev HY : Ty := .lst Hz
abbrev ZT : Ty := .pair (.int .u64) ZQ
abbrev ZU : Ty := .pair (.int .u64) ZR
abbrev yh : Ty := .pair .bool HY
abbrev ZV : Ty := .pair (.int .u64) ZT
abbrev ZW : Ty := .pair (.int .u64) ZU
abbrev ZX : Ty := .pair .str ZV
abbrev ZY : Ty := .pair (.int .u64) ZW
abbrev Z4 : Ty := .pair .str ZX
abbrev Z5 : Ty := .pair (.int .u32) ZY
abbrev Z7 : Ty := .pair (.lst .str) Z4
abbrev Z8 : Ty := .pair (.int .u32) Z5
abbrev Z9 : Ty := .pair (.int .u32) Z8
abbrev Jw : Ty := .pair Ug Z7
abbrev Z_ : Ty := .pair (.int .i64) Z9
abbrev aac : Ty := .pair (.int .i64) Z_
abbrev aad : Ty := .pair (.int .i64) aac
abbrev aae : Ty := .pair (.int .i64) aad
abbrev aaf : Ty := .pair (.int .i64) aae
abbrev Uh : Ty := .pair (.int .i64) aaf
abbrev aag : Ty := .pair Uh ZO
abbrev aah : Ty := .pair .str aag
abbrev aai : Ty := .pair .str aah
abbrev tY41 : Ty := .pair (.int .i64) aai
abbrev Ui : Type := (List Int × (List Int × List Int))
abbrev qO : Type := (List Int × (List (List Int) × (List Int × List Int)))
abbrev yj : Type := (Bool × List (List Int × (List (List Int) × (List Int × List Int))))
abbrev VA : Type := ((Int × (List Int × List Int)) × (List (List Int) × (List Int × (List Int × (Int × (Int × (Int × (Int × Int))))))))
abbrev DT5 : Type := (Int × (Int × (Int × (Int × (Int × (Int × (Int × (Int × (Int × (Int × (Int × (Int × (Int × List (Int × List Int))))))))))))))
abbrev DT1 : Type := (Int × (List Int × (List Int × ((Int × (Int × (Int × (Int × (Int × (Int × (Int × (Int × (Int × (Int × (Int × (Int × (Int × List (Int × List Int)))))))))))))) × (Int × Int)))))
abbrev iH : (List Int × (List (List Int) × (List Int × List Int))) := (([] : List Int), (([] : List (List Int)), (([] : List Int), ([] : List Int))))
abbrev dz21 : (List (Int × List Int) × List (Int × List Int)) := (([] : List (Int × List Int)), ([] : List (Int × List Int)))
abbrev WL : (List Int × (List Int × List Int)) := (([] : List Int), (([] : List Int), ([] : List Int)))
namespace aK
def O (m_ : aO) : OO P := f_ []
def o0 : bJ := .c [.b, .dat HY]
def e0 : Spec := ⟨[fs 29 [.q 29852, .z 29852, .b 2, .b 1, .q 467, .z 116, .b 0, .q 15] [(1, .ptr 0 0), (3, .w), (4, .w), (5, .ptr 1 0), (6, .w)]], [(0, o0), (1, .c [.s, .t, .s, .s])], 2⟩
def x0 : List Spec := [⟨[fs 29 [.q 467, .z 116, .b 0, .q 15] [(1, .ptr 0 0), (3, .w), (4, .w)]], [(0, o0)], 1⟩]
abbrev A0 : Type := Int × Int × Int × Bool × (List (List Int × (List LI × (List Int × List Int)))) × LI × LL × LI × LI × Unit
abbrev B0 : Type := (Int × Int × Bool × (List (List Int × (List LI × (List Int × List Int)))) × Unit)
def b0 (m_ : aO) (self : A0 -> Option B0) : A0 -> Option B0 := fun v_ => match v_ with
| (left, i, j, m, m1, m2, m3, m4, m5, ()) =>
 bif ay (m3.length : Int) then
 bif ((decide (j < (m3.length : Int))) && (decide (left >= 0))) then
  bif inB j (m3.length : Int) then
  bif ay ((rd ([] : List Int) m3 j).length : Int) then
  self ((IntKind.i64.wrap (left - ((rd ([] : List Int) m3 j).length : Int))), i, (IntKind.i64.wrap (j + 1)), m, m1, m2, m3, m4, m5, ()) else none else none
 else
  some (left, i, m, m1, ()) else none
theorem k0 : KQ 29 (O m_) [] e0 x0 [] (b0 m_) := fun _ _ => by kernel_rfl
def l0 := loop m_ (b0 m_)
theorem q0 (v) : l0 .lim v = b0 .lim (l0 .lim) v := KS.q (k0 .lim) v
def s0 := so m_ (k0 m_)
def e1 : Spec := ⟨[fs 29 [.q 116, .z 116, .b 0, .q 15] [(1, .ptr 0 0), (3, .w), (4, .w)]], [(0, o0)], 1⟩
def x1 : List Spec := [⟨[fs 29 [.q 15] [(1, .ptr 0 0), (3, .w)]], [(0, o0)], 1⟩]
abbrev A1 : Type := Int × Int × Bool × (List (List Int × (List LI × (List Int × List Int)))) × Unit
abbrev B1 : Type := (Int × Bool × (List (List Int × (List LI × (List Int × List Int)))) × Unit)
def b1 (self : A1 -> Option B1) : A1 -> Option B1 := fun v_ => match v_ with
| (left, i, m, m1, ()) =>
 bif ay (m1.length : Int) then
 bif ((decide (i < (m1.length : Int))) && (decide (left >= 0))) then
  bif inB i (m1.length : Int) then
  bif ay (((rd iH m1 i).1).length : Int) then
  bif ay (((((rd iH m1 i).2).2).1).length : Int) then
  bif ay (((((rd iH m1 i).2).2).2).length : Int) then
  bif ay ((((rd iH m1 i).2).1).length : Int) then
  (aK.l0 m_ ((IntKind.i64.wrap ((IntKind.i64.wrap ((IntKind.i64.wrap ((IntKind.i64.wrap ((IntKind.i64.wrap (left - 10)) - (((rd iH m1 i).1).length : Int))) - (((((rd iH m1 i).2).2).1).length : Int))) - (((((rd iH m1 i).2).2).2).length : Int))) - ((((rd iH m1 i).2).1).length : Int))), i, 0, m, m1, (rd iH m1 i).1, ((rd iH m1 i).2).1, (((rd iH m1 i).2).2).1, (((rd iH m1 i).2).2).2, ())).bind fun (left1, i1, m2, m3, ()) =>
  self (left1, (IntKind.i64.wrap (i1 + 1)), m2, m3, ()) else none else none else none else none else none
 else
  some (left, m, m1, ()) else none
theorem k1 : KQ 29 (O m_) [] e1 x1 [s0 m_] (b1 m_) := fun _ _ => by kernel_rfl
def l1 := loop m_ (b1 m_)
theorem q1 (v) : l1 .lim v = b1 .lim (l1 .lim) v := KS.q (k1 .lim) v
def s1 := so m_ (k1 m_)
def run : yj × Unit -> Option (Bool) := fun v_ => match v_ with
| (v, ()) =>
 (aK.l1 m_ (400000, 0, v.1, v.2, ())).bind fun (left, m, m1, ()) =>
 bif ((!(decide (left >= 0))) || (ay (m1.length : Int))) then
 some ((decide (left >= 0)) && (decide ((m1.length : Int) <= 300))) else none
theorem k : KT (O m_) [] ⟨29, [.ag yh], .one (.sh (.one .bool)), run m_⟩ [s1 m_] := fun _ => by kernel_rfl
def c := co (k m_)
end aK

namespace bV
def O (m_ : aO) : OO P := f_ []
def e0 : Spec := ⟨[fs 65 [.q 116, .z 116, .b 0, .q 15] [(0, .w), (5, .oy 0), (6, .w)]], [(0, .c [.ry])], 1⟩
def x0 : List Spec := [⟨[fs 65 [.q 15] [(5, .oy 0)]], [(0, .c [.ry])], 1⟩]
abbrev A0 : Type := Int × Int × LI × Unit
abbrev B0 : Type := (LI × Unit)
def b0 (m_ : aO) (self : A0 -> Option B0) : A0 -> Option B0 := fun v_ => match v_ with
| (n, i, m, ()) =>
 bif decide (i >= 0) then
  bif inB i (m.length : Int) then
  self ((IntKind.i64.wrap (n.tdiv 256)), (IntKind.i64.wrap (i - 1)), (m.set i.toNat (IntKind.u8.wrap (n.tmod 256))), ()) else none
 else
  some (m, ())
theorem k0 : KQ 65 (O m_) [] e0 x0 [] (b0 m_) := fun _ _ => by kernel_rfl
def l0 := loop m_ (b0 m_)
theorem q0 (v) : l0 .lim v = b0 .lim (l0 .lim) v := KS.q (k0 .lim) v
def s0 := so m_ (k0 m_)
def run : Int × (List Int) × Unit -> Option (List Int) := fun v_ => match v_ with
| (n, plain, ()) =>
 bif ay (plain.length : Int) then
 bif (((decide (0 <= (IntKind.i64.wrap (16 + (plain.length : Int))))) && (decide ((IntKind.i64.wrap (16 + (plain.length : Int))) <= (IntKind.i64.wrap (16 + (plain.length : Int)))))) && (Nat.blt ((IntKind.i64.wrap (16 + (plain.length : Int))).toNat) 70368744177664)) then
 (bV.l0 m_ (n, 15, (List.replicate ((IntKind.i64.wrap (16 + (plain.length : Int))).toNat) 0), ())).bind fun (m, ()) =>
 some m else none else none
theorem k : KT (O m_) [] ⟨65, [.one (.int .i64), .one .str], .one (.sh (.one .str)), run m_⟩ [s0 m_] := fun _ => by kernel_rfl
def c := co (k m_)
end bV

namespace bT
def O (m_ : aO) : OO P := f_ []
def e0 : Spec := ⟨[fs 79 [.q 116, .z 116, .b 0, .q 15] [(0, .t), (1, .t), (5, .w)]], [], 0⟩
def x0 : List Spec := [⟨[fs 79 [.q 7461, .b 1, .q 467, .z 116, .b 0, .q 15] [(4, .b)]], [], 0⟩, ⟨[fs 79 [.q 15] []], [], 0⟩]
abbrev A0 : Type := LL × LL × Int × Unit
abbrev B0 : Type := (Bool × Unit) ⊕ (Unit)
def b0 (m_ : aO) (self : A0 -> Option B0) : A0 -> Option B0 := fun v_ => match v_ with
| (a, b, i, ()) =>
 bif ay (a.length : Int) then
 bif decide (i < (a.length : Int)) then
  bif inB i (a.length : Int) then
  bif inB i (b.length : Int) then
  bif !(decide ((rd ([] : List Int) a i) = (rd ([] : List Int) b i))) then
   some (.inl (false, ()))
  else
   self (a, b, (IntKind.i64.wrap (i + 1)), ()) else none else none
 else
  some (.inr (())) else none
theorem k0 : KQ 79 (O m_) [] e0 x0 [] (b0 m_) := fun _ _ => by kernel_rfl
def l0 := loop m_ (b0 m_)
theorem q0 (v) : l0 .lim v = b0 .lim (l0 .lim) v := KS.q (k0 .lim) v
def s0 := so m_ (k0 m_)
def run : (List (List Int)) × (List (List Int)) × Unit -> Option (Bool) := fun v_ => match v_ with
| (a, b, ()) =>
 bif ay (a.length : Int) then
 bif ay (b.length : Int) then
 bif !(decide ((a.length : Int) = (b.length : Int))) then
  some false
 else
  (bT.l0 m_ (a, b, 0, ())).bind fun g_ => match g_ with
  | .inl (t, ()) =>
   some t
  | .inr (()) =>
   some true else none else none
theorem k : KT (O m_) [] ⟨79, [.one (.lst .str), .one (.lst .str)], .one (.sh (.one .bool)), run m_⟩ [s0 m_] := fun _ => by kernel_rfl
def c := co (k m_)
end bT

namespace dH
def O : OO P := f_ [bT.c m_]
def run : qO × qO × Unit -> Option (Bool) := fun v_ => match v_ with
| (a, b, ()) =>
 ((bif ((decide (a.1 = b.1)) && (decide (a.2.2.1 = b.2.2.1))) then bT.run m_ (a.2.1, b.2.1, ()) else some false)).bind fun r =>
 some (((decide (a.1 = b.1)) && (decide (a.2.2.1 = b.2.2.1))) && r)
theorem k : KT (O m_) [] ⟨37, [.ag Hz, .ag Hz], .one (.sh (.one .bool)), run m_⟩ [] := fun _ => by kernel_rfl
def c := co (k m_)
end dH

namespace aX
def O : OO P := f_ [dH.c m_, bV.c m_]
def o0 : bJ := .c [.b, .dat HY]
def f1 : bM := fs 30 [.q 4007717, .b 3, .q 250483, .z 62620, .b 2, .b 1, .q 979, .z 244, .b 0, .q 31] [(2, .b)]
def e0 : Spec := ⟨[fs 30 [.q 62620, .z 62620, .b 2, .b 1, .q 979, .z 244, .b 0, .q 31] [(1, .ptr 0 0), (3, .w), (4, .ptr 1 0), (5, .w)]], [(0, o0), (1, .c [.s, .t, .s, .s])], 2⟩
def x0 : List Spec := [⟨[f1], [], 0⟩, ⟨[fs 30 [.q 979, .z 244, .b 0, .q 31] [(1, .ptr 0 0), (3, .w)]], [(0, o0)], 1⟩]
abbrev A0 : Type := Int × Int × Bool × (List (List Int × (List LI × (List Int × List Int)))) × LI × LL × LI × LI × Unit
abbrev B0 : Type := (Bool × Unit) ⊕ (Int × Bool × (List (List Int × (List LI × (List Int × List Int)))) × Unit)
def b0 (self : A0 -> Option B0) : A0 -> Option B0 := fun v_ => match v_ with
| (i, j, m, m1, m2, m3, m4, m5, ()) =>
 bif decide (j < i) then
  bif inB j (m1.length : Int) then
  (dH.run m_ ((m2, (m3, (m4, m5))), (rd iH m1 j), ())).bind fun r =>
  bif r then
   some (.inl (false, ()))
  else
   self (i, (IntKind.i64.wrap (j + 1)), m, m1, m2, m3, m4, m5, ()) else none
 else
  some (.inr (i, m, m1, ()))
theorem k0 : KQ 30 (O m_) [] e0 x0 [] (b0 m_) := fun _ _ => by kernel_rfl
def l0 := loop m_ (b0 m_)
theorem q0 (v) : l0 .lim v = b0 .lim (l0 .lim) v := KS.q (k0 .lim) v
def s0 := so m_ (k0 m_)
def e1 : Spec := ⟨[fs 30 [.q 244, .z 244, .b 0, .q 31] [(1, .ptr 0 0), (3, .w)]], [(0, o0)], 1⟩
def x1 : List Spec := [⟨[fs 30 [.q 62613, .q 7827, .b 1, .q 979, .z 244, .b 0, .q 31] [(2, .b)]], [], 0⟩, ⟨[f1], [], 0⟩, ⟨[fs 30 [.q 31] []], [], 0⟩]
abbrev A1 : Type := Int × Bool × (List (List Int × (List LI × (List Int × List Int)))) × Unit
abbrev B1 : Type := (Bool × Unit) ⊕ (Bool × Unit) ⊕ (Unit)
def b1 (self : A1 -> Option B1) : A1 -> Option B1 := fun v_ => match v_ with
| (i, m, m1, ()) =>
 bif ay (m1.length : Int) then
 bif decide (i < (m1.length : Int)) then
  bif inB i (m1.length : Int) then
  bif ay (((rd iH m1 i).1).length : Int) then
  bif ((!(!(decide ((((rd iH m1 i).1).length : Int) = 32)))) || (ay (((rd iH m1 i).1).length : Int))) then
  bif ((!(!((!(decide ((((rd iH m1 i).1).length : Int) = 32))) && (!(decide ((((rd iH m1 i).1).length : Int) = 64)))))) || (ay ((((rd iH m1 i).2).1).length : Int))) then
  bif ((!(!(((!(decide ((((rd iH m1 i).1).length : Int) = 32))) && (!(decide ((((rd iH m1 i).1).length : Int) = 64)))) || (decide (((((rd iH m1 i).2).1).length : Int) > 126))))) || (ay (((((rd iH m1 i).2).2).1).length : Int))) then
  ((bif !((((!(decide ((((rd iH m1 i).1).length : Int) = 32))) && (!(decide ((((rd iH m1 i).1).length : Int) = 64)))) || (decide (((((rd iH m1 i).2).1).length : Int) > 126))) || (decide ((((((rd iH m1 i).2).2).1).length : Int) > 65536))) then bV.run m_ ((IntKind.i64.wrap (i + 1)), (((rd iH m1 i).2).2).1, ()) else some ([] : List Int))).bind fun r =>
  bif (((((!(decide ((((rd iH m1 i).1).length : Int) = 32))) && (!(decide ((((rd iH m1 i).1).length : Int) = 64)))) || (decide (((((rd iH m1 i).2).1).length : Int) > 126))) || (decide ((((((rd iH m1 i).2).2).1).length : Int) > 65536))) || (!(decide (((((rd iH m1 i).2).2).2) = r)))) then
   some (.inl (false, ()))
  else
   (aX.l0 m_ (i, 0, m, m1, (rd iH m1 i).1, ((rd iH m1 i).2).1, (((rd iH m1 i).2).2).1, (((rd iH m1 i).2).2).2, ())).bind fun g_ => match g_ with
   | .inl (t, ()) =>
    some (.inr (.inl (t, ())))
   | .inr (i1, m2, m3, ()) =>
    self ((IntKind.i64.wrap (i1 + 1)), m2, m3, ()) else none else none else none else none else none
 else
  some (.inr (.inr (()))) else none
theorem k1 : KQ 30 (O m_) [] e1 x1 [s0 m_] (b1 m_) := fun _ _ => by kernel_rfl
def l1 := loop m_ (b1 m_)
theorem q1 (v) : l1 .lim v = b1 .lim (l1 .lim) v := KS.q (k1 .lim) v
def s1 := so m_ (k1 m_)
def run : yj × Unit -> Option (Bool) := fun v_ => match v_ with
| (v, ()) =>
 bif !v.1 then
  bif ay (v.2.length : Int) then
  some (decide ((v.2.length : Int) = 0)) else none
 else
  bif ay (v.2.length : Int) then
  bif decide ((v.2.length : Int) > 2048) then
   some false
  else
   (aX.l1 m_ (0, v.1, v.2, ())).bind fun g_ => match g_ with
   | .inl (t, ()) =>
    some t
   | .inr (.inl (t1, ())) =>
    some t1
   | .inr (.inr (())) =>
    some true else none
theorem k : KT (O m_) [] ⟨30, [.ag yh], .one (.sh (.one .bool)), run m_⟩ [s1 m_] := fun _ => by kernel_rfl
def c := co (k m_)
end aX

namespace fB
def O (m_ : aO) : OO P := f_ []
def run (m_ : aO) : Int × Unit -> Option (Int) := fun v_ => match v_ with
| (Q5, ()) =>
 bif decide (Q5 = 15) then
  some 32
 else
  bif decide (Q5 = 17) then
   some 64
  else
   some 0
theorem k : KT (O m_) [] ⟨54, [.one (.int .i64)], .one (.sh (.one (.int .i64))), run m_⟩ [] := fun _ => by kernel_rfl
def c := co (k m_)
end fB

namespace iD
def O : OO P := f_ [fB.c m_]
def run : (Int × (List Int × List Int)) × Unit -> Option (Bool) := fun v_ => match v_ with
| (k, ()) =>
 (fB.run m_ (k.1, ())).bind fun r =>
 bif ((!(decide (r > 0))) || (ay (k.2.1.length : Int))) then
 bif ((!((decide (r > 0)) && (decide ((k.2.1.length : Int) = r)))) || (ay (k.2.2.length : Int))) then
 some (((decide (r > 0)) && (decide ((k.2.1.length : Int) = r))) && (decide ((k.2.2.length : Int) = r))) else none else none
theorem k : KT (O m_) [] ⟨23, [.ag Ug], .one (.sh (.one .bool)), run m_⟩ [] := fun _ => by kernel_rfl
def c := co (k m_)
end iD

namespace iE
def O (m_ : aO) : OO P := f_ []
def run (m_ : aO) : (List Int) × Unit -> Option (Bool) := fun v_ => match v_ with
| (s, ()) =>
 bif ay (s.length : Int) then
 bif ((!(decide ((s.length : Int) >= 12))) || (ay (s.length : Int))) then
 bif ((!((decide ((s.length : Int) >= 12)) && (decide ((s.length : Int) <= 256)))) || (ay (s.length : Int))) then
 bif ((!((decide ((s.length : Int) >= 12)) && (decide ((s.length : Int) <= 256)))) || true) then
 some (((decide ((s.length : Int) >= 12)) && (decide ((s.length : Int) <= 256))) && (decide (((s.length : Int).tmod 4) = 0))) else none else none else none else none
theorem k : KT (O m_) [] ⟨51, [.one .str], .one (.sh (.one .bool)), run m_⟩ [] := fun _ => by kernel_rfl
def c := co (k m_)
end iE

namespace bU
def O (m_ : aO) : OO P := f_ []
def e0 : Spec := ⟨[fs 52 [.q 52, .z 52, .b 0, .q 7] [(0, .t), (1, .s), (5, .w)]], [], 0⟩
def x0 : List Spec := [⟨[fs 52 [.q 3365, .b 1, .q 211, .z 52, .b 0, .q 7] [(4, .b)]], [], 0⟩, ⟨[fs 52 [.q 7] []], [], 0⟩]
abbrev A0 : Type := LL × LI × Int × Unit
abbrev B0 : Type := (Bool × Unit) ⊕ (Unit)
def b0 (m_ : aO) (self : A0 -> Option B0) : A0 -> Option B0 := fun v_ => match v_ with
| (l, s, i, ()) =>
 bif ay (l.length : Int) then
 bif decide (i < (l.length : Int)) then
  bif inB i (l.length : Int) then
  bif decide ((rd ([] : List Int) l i) = s) then
   some (.inl (true, ()))
  else
   self (l, s, (IntKind.i64.wrap (i + 1)), ()) else none
 else
  some (.inr (())) else none
theorem k0 : KQ 52 (O m_) [] e0 x0 [] (b0 m_) := fun _ _ => by kernel_rfl
def l0 := loop m_ (b0 m_)
theorem q0 (v) : l0 .lim v = b0 .lim (l0 .lim) v := KS.q (k0 .lim) v
def s0 := so m_ (k0 m_)
def run : (List (List Int)) × (List Int) × Unit -> Option (Bool) := fun v_ => match v_ with
| (l, s, ()) =>
 (bU.l0 m_ (l, s, 0, ())).bind fun g_ => match g_ with
 | .inl (t, ()) =>
  some t
 | .inr (()) =>
  some false
theorem k : KT (O m_) [] ⟨52, [.one (.lst .str), .one .str], .one (.sh (.one .bool)), run m_⟩ [s0 m_] := fun _ => by kernel_rfl
def c := co (k m_)
end bU

namespace aV
def O : OO P := f_ [iE.c m_, bU.c m_]
def e0 : Spec := ⟨[fs 41 [.q 116, .z 116, .b 0, .q 15] [(0, .t), (3, .w)]], [], 0⟩
def x0 : List Spec := [⟨[fs 41 [.q 7461, .b 1, .q 467, .z 116, .b 0, .q 15] [(2, .w)]], [], 0⟩, ⟨[fs 41 [.q 15] [(0, .t)]], [], 0⟩]
abbrev A0 : Type := LL × Int × Unit
abbrev B0 : Type := (Int × Unit) ⊕ (LL × Unit)
def b0 (self : A0 -> Option B0) : A0 -> Option B0 := fun v_ => match v_ with
| (l, i, ()) =>
 bif ay (l.length : Int) then
 bif decide (i < (l.length : Int)) then
  bif inB i (l.length : Int) then
  (iE.run m_ ((rd ([] : List Int) l i), ())).bind fun r =>
  bif !r then
   some (.inl (12, ()))
  else
   self (l, (IntKind.i64.wrap (i + 1)), ()) else none
 else
  some (.inr (l, ())) else none
theorem k0 : KQ 41 (O m_) [] e0 x0 [] (b0 m_) := fun _ _ => by kernel_rfl
def l0 := loop m_ (b0 m_)
theorem q0 (v) : l0 .lim v = b0 .lim (l0 .lim) v := KS.q (k0 .lim) v
def s0 := so m_ (k0 m_)
def e1 : Spec := ⟨[fs 41 [.q 244, .z 244, .b 2, .q 31] [(0, .t), (4, .w)]], [], 0⟩
def x1 : List Spec := [⟨[fs 41 [.q 15653, .b 3, .q 979, .z 244, .b 2, .q 31] [(2, .w)]], [], 0⟩, ⟨[fs 41 [.q 31] []], [], 0⟩]
abbrev A1 : Type := LL × Int × Unit
abbrev B1 : Type := (Int × Unit) ⊕ (Unit)
def b1 (self : A1 -> Option B1) : A1 -> Option B1 := fun v_ => match v_ with
| (l, i, ()) =>
 bif ay (l.length : Int) then
 bif decide (i < (l.length : Int)) then
  bif eX 0 i (l.length : Int) then
  bif inB i (l.length : Int) then
  (bU.run m_ ((cut l 0 i), (rd ([] : List Int) l i), ())).bind fun r =>
  bif r then
   some (.inl (24, ()))
  else
   self (l, (IntKind.i64.wrap (i + 1)), ()) else none else none
 else
  some (.inr (())) else none
theorem k1 : KQ 41 (O m_) [] e1 x1 [] (b1 m_) := fun _ _ => by kernel_rfl
def l1 := loop m_ (b1 m_)
theorem q1 (v) : l1 .lim v = b1 .lim (l1 .lim) v := KS.q (k1 .lim) v
def s1 := so m_ (k1 m_)
def run : (List (List Int)) × Unit -> Option (Int) := fun v_ => match v_ with
| (l, ()) =>
 bif ay (l.length : Int) then
 bif decide ((l.length : Int) > 8) then
  some 18
 else
  (aV.l0 m_ (l, 0, ())).bind fun g_ => match g_ with
  | .inl (t, ()) =>
   some t
  | .inr (l1, ()) =>
   (aV.l1 m_ (l1, 0, ())).bind fun g_ => match g_ with
   | .inl (t1, ()) =>
    some t1
   | .inr (()) =>
    some 0 else none
theorem k : KT (O m_) [] ⟨41, [.one (.lst .str)], .one (.sh (.one (.int .i64))), run m_⟩ [s0 m_, s1 m_] := fun _ => by kernel_rfl
def c := co (k m_)
end aV

namespace eG
def O : OO P := f_ [iD.c m_, aV.c m_]
def run : VA × Unit -> Option (Bool) := fun v_ => match v_ with
| (x, ()) =>
 (iD.run m_ (x.1, ())).bind fun r =>
 ((bif !!r then aV.run m_ (x.2.1, ()) else some (0 : Int))).bind fun r1 =>
 bif (!r || (!(decide (r1 = 0)))) then
  some false
 else
  bif decide (x.2.2.1 = ([] : List Int)) then
   some ((decide (x.2.2.2.1 = ([] : List Int))) && (decide (x.2.2.2.2.1 = 0)))
  else
   bif ay (x.2.2.1.length : Int) then
   some (decide ((x.2.2.1.length : Int) = 32)) else none
theorem k : KT (O m_) [] ⟨13, [.ag Jw], .one (.sh (.one .bool)), run m_⟩ [] := fun _ => by kernel_rfl
def c := co (k m_)
end eG

namespace gV
def O : OO P := f_ [eG.c m_, aK.c m_, aX.c m_]
def run : yj × VA × (List Int) × Unit -> Option (Bool) := fun v_ => match v_ with
| (v, x, s, ()) =>
 (aK.run m_ (v, ())).bind fun r =>
 ((bif r then aX.run m_ (v, ()) else some false)).bind fun r1 =>
 ((bif (r && r1) then eG.run m_ (x, ()) else some false)).bind fun r2 =>
 bif ((!((r && r1) && r2)) || (ay (s.length : Int))) then
 some (((r && r1) && r2) && (decide ((s.length : Int) <= 4000))) else none
theorem k : KT (O m_) [] ⟨7, [.ag yh, .ag Jw, .one .str], .one (.sh (.one .bool)), run m_⟩ [] := fun _ => by kernel_rfl
def c := co (k m_)
end gV

namespace kW
def O (m_ : aO) : OO P := f_ []
def run (m_ : aO) : Int × Unit -> Option (Int) := fun v_ => match v_ with
| (Q5, ()) =>
 bif decide (Q5 = 15) then
  some 32
 else
  bif decide (Q5 = 17) then
   some 64
  else
   some 0
theorem k : KT (O m_) [] ⟨99, [.one (.int .i64)], .one (.sh (.one (.int .i64))), run m_⟩ [] := fun _ => by kernel_rfl
def c := co (k m_)
end kW

namespace tX
def O : OO P := f_ [kW.c m_]
def run : (Int × (List Int × List Int)) × Unit -> Option (Bool) := fun v_ => match v_ with
| (k, ()) =>
 (kW.run m_ (k.1, ())).bind fun r =>
 bif ((!(decide (r > 0))) || (ay (k.2.1.length : Int))) then
 bif ((!((decide (r > 0)) && (decide ((k.2.1.length : Int) = r)))) || (ay (k.2.2.length : Int))) then
 some (((decide (r > 0)) && (decide ((k.2.1.length : Int) = r))) && (decide ((k.2.2.length : Int) = r))) else none else none
theorem k : KT (O m_) [] ⟨56, [.ag Ug], .one (.sh (.one .bool)), run m_⟩ [] := fun _ => by kernel_rfl
def c := co (k m_)
end tX

namespace kX
def O (m_ : aO) : OO P := f_ []
def run (m_ : aO) : Int × Bool × Unit -> Option (Bool × Int × Unit) := fun v_ => match v_ with
| (e, is, ()) =>
 some (is, e, ())
theorem k : KT (O m_) [] ⟨32, [.one (.int .i64), .one .bool], .one (.clo 66 [.bool, (.int .i64)]), run m_⟩ [] := fun _ => by kernel_rfl
def c := co (k m_)
end kX

namespace yt
def O (m_ : aO) : OO P := f_ []
def run (m_ : aO) : (List Int) × Unit -> Option (Bool) := fun v_ => match v_ with
| (s, ()) =>
 bif ay (s.length : Int) then
 bif ((!(decide ((s.length : Int) >= 12))) || (ay (s.length : Int))) then
 bif ((!((decide ((s.length : Int) >= 12)) && (decide ((s.length : Int) <= 256)))) || (ay (s.length : Int))) then
 some (((decide ((s.length : Int) >= 12)) && (decide ((s.length : Int) <= 256))) && (decide ((h_ .i64 (s.length : Int) 3) = 0))) else none else none else none
theorem k : KT (O m_) [] ⟨92, [.one .str], .one (.sh (.one .bool)), run m_⟩ [] := fun _ => by kernel_rfl
def c := co (k m_)
end yt

namespace pY
def O : OO P := f_ [yt.c m_]
def run : (List Int) × Unit -> Option (Bool) := fun v_ => match v_ with
| (s, ()) =>
 (yt.run m_ (s, ())).bind fun r =>
 some !r
theorem k : KT (O m_) [] ⟨101, [.one .str], .one (.sh (.one .bool)), run m_⟩ [] := fun _ => by kernel_rfl
def c := co (k m_)
end pY

namespace gJ
def O (m_ : aO) : OO P := ors WJ
def f0 : bM := fs 145 [.v 6 [1,2], .q 7] []
def f1 : bM := fs 134 [.v 6 [1,2], .q 7] []
def f2 : bM := fs 102 [.v 6 [2,3], .q 7] [(0, .t)]
def e0 : Spec := ⟨[fs 147 [.q 12, .z 12, .b 0] [(0, .fn (.yield 0) []), (5, .t), (6, .w), (7, .w)], ⟨151, [.inRange 0, .b 0, .q 7], [(2, .ptr 1 0)], none, [.mark 2], false⟩, f0, f1, f2], [(0, .loop .ready none 151 [(2, .ptr 1 0)] [7] (wK 26) 2), (1, .c [.own 5000 .str]), (2, .deferred false), (5000, .c [.row .str])], 5001⟩
def x0 : List Spec := [⟨[fs 147 [] [], ⟨151, [.inRange 1, .b 0, .q 7], [(2, .ptr 0 0)], none, [.mark 2], false⟩, f0, f1, f2], [(0, .c [.own 3 .str]), (1, .loop .ready none 151 [(2, .ptr 0 0)] [7] (wK 26) 2), (2, .deferred false), (3, .c [.row .str])], 4⟩]
abbrev A0 : Type := LL × Int × Int × LL × LL × Unit
abbrev B0 : Type := (LL × LL × Unit)
def b0 (m_ : aO) (self : A0 -> Option B0) : A0 -> Option B0 := fun v_ => match v_ with
| (t, t1, t2, l, m, ()) =>
 bif decide (t2 < t1) then
  bif inB t2 (t.length : Int) then
  bif decide (m.length + ([(rd ([] : List Int) t t2)] : List (List Int)).length < 4398046511104) then
  self (t, t1, (IntKind.i64.wrap (t2 + 1)), l, (m ++ ([(rd ([] : List Int) t t2)] : List (List Int))), ()) else none else none
 else
  some (l, m, ())
theorem k0 : KQ 102 (O m_) [134, 135, 145, 151] e0 x0 [] (b0 m_) := fun _ _ => by kernel_rfl
def l0 := loop m_ (b0 m_)
theorem q0 (v) : l0 .lim v = b0 .lim (l0 .lim) v := KS.q (k0 .lim) v
def s0 := so m_ (k0 m_)
def run : (List (List Int)) × Unit -> Option (Bool) := fun v_ => match v_ with
| (l, ()) =>
 bif ay (l.length : Int) then
 (gJ.l0 m_ (l, (l.length : Int), 0, l, ([] : List (List Int)), ())).bind fun (l1, m, ()) =>
 (FB m.length).bind fun _ =>
 (FB (vH m).length).bind fun _ =>
 bif ay ((mM (vH m)).length : Int) then
 bif ay (l1.length : Int) then
 some (decide (((mM (vH m)).length : Int) < (l1.length : Int))) else none else none else none
theorem k : KT (O m_) [134, 135, 145, 151] ⟨102, [.one (.lst .str)], .one (.sh (.one .bool)), run m_⟩ [s0 m_] := fun _ => by kernel_rfl
def c := co (k m_)
end gJ

namespace fO
def O : OO P := f_ [kX.c m_, pY.c m_, gJ.c m_]
def f0 : bM := fs 100 [.v 6 [2,3,4], .q 7] []
def f1 : bM := fs 58 [.v 6 [5,6,7,8,9,10,11,12,13,14], .q 7] [(0, .t), (6, .clo 66 [.bool, (.int .i64)])]
def e0 : Spec := ⟨[fs 133 [.q 52, .z 52, .b 0, .q 7] [(0, .t), (1, .fn (.func 101) []), (7, .w), (8, .w)], f0, f1], [], 0⟩
def x0 : List Spec := [⟨[fs 133 [.q 13517, .b 1, .q 423, .z 52, .b 0, .q 7] [(4, .w)], f0, f1], [], 0⟩, ⟨[fs 133 [.q 7] [], f0, f1], [], 0⟩]
abbrev A0 : Type := LL × Int × Int × LL × (Bool × Int × Unit) × Unit
abbrev B0 : Type := (Int × LL × (Bool × Int × Unit) × Unit) ⊕ (LL × (Bool × Int × Unit) × Unit)
def b0 (self : A0 -> Option B0) : A0 -> Option B0 := fun v_ => match v_ with
| (s, t, t1, l, t2, ()) =>
 bif decide (t1 < t) then
  bif inB t1 (s.length : Int) then
  (pY.run m_ ((rd ([] : List Int) s t1), ())).bind fun r =>
  bif r then
   some (.inl (t1, l, (t2.1, t2.2.1, ()), ()))
  else
   self (s, t, (IntKind.i64.wrap (t1 + 1)), l, (t2.1, t2.2.1, ()), ()) else none
 else
  some (.inr (l, (t2.1, t2.2.1, ()), ()))
theorem k0 : KQ 58 (O m_) [31, 66, 100, 133] e0 x0 [] (b0 m_) := fun _ _ => by kernel_rfl
def l0 := loop m_ (b0 m_)
theorem q0 (v) : l0 .lim v = b0 .lim (l0 .lim) v := KS.q (k0 .lim) v
def s0 := so m_ (k0 m_)
def e1 : Spec := ⟨[fs 31 [.q 1] [(0, .pJ 0 3)], fs 58 [.v 6 [13,14], .q 7] []], [(0, .c [.clo 66 [.bool, (.int .i64)], .clo 66 [.bool, (.int .i64)], .clo 66 [.bool, (.int .i64)]])], 1⟩
def x1 : List Spec := [⟨[fs 58 [.q 7] [(2, .w)]], [], 0⟩]
abbrev A1 : Type := (Bool × Int × Unit) × (Bool × Int × Unit) × (Bool × Int × Unit) × Unit
abbrev B1 : Type := (Int × Unit)
def b1 (m_ : aO) (self : A1 -> Option B1) : A1 -> Option B1 := fun v_ => match v_ with
| (m, m1, m2, ()) =>
 bif m.1 then
  bif m1.1 then
   bif m2.1 then
    some (0, ())
   else
    bif !(decide (m2.2.1 = 0)) then
     some (m2.2.1, ())
    else
     some (0, ())
  else
   bif !(decide (m1.2.1 = 0)) then
    some (m1.2.1, ())
   else
    bif m2.1 then
     some (0, ())
    else
     bif !(decide (m2.2.1 = 0)) then
      some (m2.2.1, ())
     else
      some (0, ())
 else
  bif !(decide (m.2.1 = 0)) then
   some (m.2.1, ())
  else
   bif m1.1 then
    bif m2.1 then
     some (0, ())
    else
     bif !(decide (m2.2.1 = 0)) then
      some (m2.2.1, ())
     else
      some (0, ())
   else
    bif !(decide (m1.2.1 = 0)) then
     some (m1.2.1, ())
    else
     bif m2.1 then
      some (0, ())
     else
      bif !(decide (m2.2.1 = 0)) then
       some (m2.2.1, ())
      else
       some (0, ())
theorem k1 : KQ 58 (O m_) [31, 66, 100, 133] e1 x1 [] (b1 m_) := fun _ _ => by kernel_rfl
def l1 := loop m_ (b1 m_)
theorem q1 (v) : l1 .lim v = b1 .lim (l1 .lim) v := KS.q (k1 .lim) v
def s1 := so m_ (k1 m_)
def run : (List (List Int)) × Unit -> Option (Int) := fun v_ => match v_ with
| (l, ()) =>
 bif ay (l.length : Int) then
 (kX.run m_ (18, decide ((l.length : Int) <= 8), ())).bind fun (e, b, ()) =>
 bif ay (l.length : Int) then
 (fO.l0 m_ (l, (l.length : Int), 0, l, (e, b, ()), ())).bind fun g_ => match g_ with
 | .inl (t, l1, t1, ()) =>
  (kX.run m_ (12, !(decide (t >= 0)), ())).bind fun (e1, b1, ()) =>
  (gJ.run m_ (l1, ())).bind fun r2 =>
  (kX.run m_ (24, !r2, ())).bind fun (e2, b2, ()) =>
  (fO.l1 m_ ((t1.1, t1.2.1, ()), (e1, b1, ()), (e2, b2, ()), ())).bind fun (t2, ()) =>
  some t2
 | .inr (l2, t3, ()) =>
  (kX.run m_ (12, true, ())).bind fun (e3, b3, ()) =>
  (gJ.run m_ (l2, ())).bind fun r5 =>
  (kX.run m_ (24, !r5, ())).bind fun (e4, b4, ()) =>
  (fO.l1 m_ ((t3.1, t3.2.1, ()), (e3, b3, ()), (e4, b4, ()), ())).bind fun (t4, ()) =>
  some t4 else none else none
theorem k : KT (O m_) [31, 66, 100, 133] ⟨58, [.one (.lst .str)], .one (.sh (.one (.int .i64))), run m_⟩ [s0 m_, s1 m_] := fun _ => by kernel_rfl
def c := co (k m_)
end fO

namespace aG
def inl : FuncId -> Bool := fun f => [].any (Nat.beq f)
def O (m_ : aO) : lS := (Jq [])
theorem Ok (m_ : aO) {S0 w0} : fU P S0 w0 (O m_) := (xX (an))
def run (m_ : aO) : (List (List Int)) × Unit -> Option (List (List Int)) := fun v_ => match v_ with
| (s, ()) =>
 bif decide (([] : List (List Int)).length + s.length < 4398046511104) then
 some (([] : List (List Int)) ++ s) else none
def c_ (m_ : aO) : Callee := ⟨35, [.one (.lst .str)], .one (.own .str), run m_⟩
theorem kn (m_ : aO) : ig P (O m_) inl [] [] (c_ m_).res.fin 20000 false (start 35 [.bC]) = (
 some ([] : List (List Int))) := by kernel_rfl
theorem k (m_ : aO) : ∀ xs : List (List Int), ig P (O m_) inl [] [] (c_ m_).res.fin 20000 false (start 35 [.lg .str xs]) = run m_ (xs, ()) := by intro xs; kernel_rfl
theorem ok (m_ : aO) : (c_ m_).OK P := Callee.of_nil (fun S0 w0 => (Ok m_)) (by kernel_rfl) (by rfl) (fun S0 w0 cs0 => an) (fun r h => (kn m_).trans ((show (
 some ([] : List (List Int))) = aG.run m_ ([], ()) from by kernel_rfl).trans h)) (fun x r h => (aG.k m_ x).trans h)
def c (m_ : aO) : CO P := ⟨c_ m_, ok m_⟩
end aG

namespace jh
def O : OO P := f_ [kX.c m_, aG.c m_, tX.c m_, fO.c m_]
def o0 : bJ := .c [.w, .s, .s, .pV, .s, .s, .u, .u, .u, .u, .u]
def e0 : Spec := ⟨[fs 31 [.q 1] [(0, .pJ 0 3)], fs 25 [.v 6 [9,10], .q 7] [(2, .ptr 1 0), (3, .ptr 2 0), (4, .ptr 3 0)]], [(0, .c [.clo 66 [.bool, (.int .i64)], .clo 66 [.bool, (.int .i64)], .fn (.func 57) [2]]), (1, .c [.w, .s, .s]), (2, .c [.t]), (3, o0)], 4⟩
def x0 : List Spec := [⟨[fs 25 [.q 7] [(2, .ptr 0 0), (3, .ptr 1 0), (4, .ptr 2 0), (6, .w)]], [(0, .c [.w, .s, .s]), (1, .c [.t]), (2, o0)], 3⟩]
abbrev A0 : Type := (Bool × Int × Unit) × (Bool × Int × Unit) × Int × LI × LI × LL × Int × LI × LI × LI × LI × Int × Int × Int × Int × Int × Unit
abbrev B0 : Type := (Int × Int × LI × LI × LL × Int × LI × LI × LI × LI × Int × Int × Int × Int × Int × Unit)
def b0 (self : A0 -> Option B0) : A0 -> Option B0 := fun v_ => match v_ with
| (m, m1, m2, m3, m4, m5, m6) =>
 bif m.1 then
  bif m1.1 then
   (fO.run m_ (m5, ())).bind fun r =>
   bif !(decide (r = 0)) then
    some (r, m2, m3, m4, m5, m6)
   else
    some (0, m2, m3, m4, m5, m6)
  else
   bif !(decide (m1.2.1 = 0)) then
    some (m1.2.1, m2, m3, m4, m5, m6)
   else
    (fO.run m_ (m5, ())).bind fun r1 =>
    bif !(decide (r1 = 0)) then
     some (r1, m2, m3, m4, m5, m6)
    else
     some (0, m2, m3, m4, m5, m6)
 else
  bif !(decide (m.2.1 = 0)) then
   some (m.2.1, m2, m3, m4, m5, m6)
  else
   bif m1.1 then
    (fO.run m_ (m5, ())).bind fun r2 =>
    bif !(decide (r2 = 0)) then
     some (r2, m2, m3, m4, m5, m6)
    else
     some (0, m2, m3, m4, m5, m6)
   else
    bif !(decide (m1.2.1 = 0)) then
     some (m1.2.1, m2, m3, m4, m5, m6)
    else
     (fO.run m_ (m5, ())).bind fun r3 =>
     bif !(decide (r3 = 0)) then
      some (r3, m2, m3, m4, m5, m6)
     else
      some (0, m2, m3, m4, m5, m6)
theorem k0 : KQ 25 (O m_) [31, 57, 66] e0 x0 [] (b0 m_) := fun _ _ => by kernel_rfl
def l0 := loop m_ (b0 m_)
theorem q0 (v) : l0 .lim v = b0 .lim (l0 .lim) v := KS.q (k0 .lim) v
def s0 := so m_ (k0 m_)
def run : (Int × (List Int × List Int)) × (List (List Int)) × Unit -> Option (VA × Int × Unit) := fun v_ => match v_ with
| (k, l, ()) =>
 (tX.run m_ (k, ())).bind fun r =>
 (kX.run m_ (13, r, ())).bind fun (e, b, ()) =>
 bif ay (l.length : Int) then
 (kX.run m_ (19, decide ((l.length : Int) > 0), ())).bind fun (e1, b1, ()) =>
 (jh.l0 m_ ((e, b, ()), (e1, b1, ()), k.1, k.2.1, k.2.2, l, 0, ([] : List Int), ([] : List Int), ([] : List Int), ([] : List Int), 0, 0, 0, 0, 0, ())).bind fun (e2, m, m1, m2, m3, m4) =>
 bif !(decide (e2 = 0)) then
  some (((0, (([] : List Int), ([] : List Int))), (([] : List (List Int)), (([] : List Int), (([] : List Int), (0, (0, (0, (0, 0)))))))), e2, ())
 else
  (aG.run m_ (m3, ())).bind fun r3 =>
  some (((m, (m1, m2)), (r3, (([] : List Int), (([] : List Int), (0, (0, (0, (0, 0)))))))), 0, ()) else none
theorem k : KT (O m_) [31, 57, 66] ⟨25, [.ag Ug, .one (.lst .str)], .jo [.sh (.ag Jw), .sh (.one (.int .i64))], run m_⟩ [s0 m_] := fun _ => by kernel_rfl
def c := co (k m_)
end jh

namespace strings_Repeat
def run (_ : aO) : (List Int) × Int × Unit -> Option (List Int) := Ej
def c (m_ : aO) : CO P := ⟨⟨33, [.one .str, .one (.int .i64)], .one (.sh (.one .str)), run m_⟩, O9 (by kernel_rfl) fun s c w hc hl => Go.Proofs.Any.strings_Repeat Go.Proofs.Tryz.lays105 Go.Proofs.Tryz.Builder_Extra_105 s c w hc hl⟩
end strings_Repeat

namespace gK
def O (m_ : aO) : OO P := f_ []
def e0 : Spec := ⟨[fs 73 [.q 116, .z 116, .b 0, .q 15] [(1, .w), (5, .own 5001 (.int .i64)), (8, .dat zq), (9, .w), (10, .w)]], [(5001, .c [.row (.int .i64)])], 5002⟩
def x0 : List Spec := [⟨[fs 73 [.q 15] [(5, .own 0 (.int .i64))]], [(0, .c [.row (.int .i64)])], 1⟩]
abbrev A0 : Type := Int × (List (Int × List Int)) × Int × Int × LI × Unit
abbrev B0 : Type := (LI × Unit)
def b0 (m_ : aO) (self : A0 -> Option B0) : A0 -> Option B0 := fun v_ => match v_ with
| (kind, t, t1, t2, m, ()) =>
 bif decide (t2 < t1) then
  bif inB t2 (t.length : Int) then
  bif decide (((rd ((0 : Int), ([] : List Int)) t t2).1) = kind) then
   bif decide (m.length + ([t2] : List Int).length < 8796093022208) then
   self (kind, t, t1, (IntKind.i64.wrap (t2 + 1)), (m ++ ([t2] : List Int)), ()) else none
  else
   self (kind, t, t1, (IntKind.i64.wrap (t2 + 1)), m, ()) else none
 else
  some (m, ())
theorem k0 : KQ 73 (O m_) [] e0 x0 [] (b0 m_) := fun _ _ => by kernel_rfl
def l0 := loop m_ (b0 m_)
theorem q0 (v) : l0 .lim v = b0 .lim (l0 .lim) v := KS.q (k0 .lim) v
def s0 := so m_ (k0 m_)
def run : (List (Int × List Int)) × Int × Unit -> Option (List Int) := fun v_ => match v_ with
| (l, kind, ()) =>
 bif ay (l.length : Int) then
 (gK.l0 m_ (kind, l, (l.length : Int), 0, ([] : List Int), ())).bind fun (m, ()) =>
 some m else none
theorem k : KT (O m_) [] ⟨73, [.one zq, .one (.int .i64)], .one (.own (.int .i64)), run m_⟩ [s0 m_] := fun _ => by kernel_rfl
def c := co (k m_)
end gK

namespace jI
def O (m_ : aO) : OO P := f_ []
def run (m_ : aO) : Int × Int × Int × Unit -> Option (Bool) := fun v_ => match v_ with
| (n, low, high, ()) =>
 some ((decide (low <= n)) && (decide (n <= high)))
theorem k : KT (O m_) [] ⟨111, [.one (.int .i64), .one (.int .i64), .one (.int .i64)], .one (.sh (.one .bool)), run m_⟩ [] := fun _ => by kernel_rfl
def c := co (k m_)
end jI

namespace tY
def O (m_ : aO) : OO P := f_ []
def run (m_ : aO) : Int × Unit -> Option (List Int) := fun v_ => match v_ with
| (n, ()) =>
 some ([(IntKind.u8.wrap (iR .i64 n 8)), (IntKind.u8.wrap n)] : List Int)
theorem k : KT (O m_) [] ⟨142, [.one (.int .i64)], .one (.sh (.one .str)), run m_⟩ [] := fun _ => by kernel_rfl
def c := co (k m_)
end tY

namespace dN
def O : OO P := ZH (f_ [tY.c m_]) (orb WI)
def e0 : Spec := ⟨[fs 112 [.q 500, .z 500, .b 0, .q 63] [(4, .ptr 0 0), (5, .b), (11, .dat zq), (12, .w), (13, .w)]], [(0, .mW 141 5)], 1⟩
def x0 : List Spec := [⟨[fs 112 [.q 512805, .b 2, .q 32051, .b 1, .q 4007, .z 500, .b 0, .q 63] [(2, .s), (3, .w)]], [], 0⟩, ⟨[fs 112 [.q 2051229, .b 2, .q 32051, .b 1, .q 4007, .z 500, .b 0, .q 63] [(2, .s), (3, .w)]], [], 0⟩, ⟨[fs 112 [.q 63] [(4, .ptr 0 0), (5, .b)]], [(0, .mW 141 5)], 1⟩]
abbrev A0 : Type := Bool × (List (Int × List Int)) × Int × Int × LI × Unit
abbrev B0 : Type := (LI × Int × Unit) ⊕ (LI × Int × Unit) ⊕ (Bool × LI × Unit)
def b0 (self : A0 -> Option B0) : A0 -> Option B0 := fun v_ => match v_ with
| (long, t, t1, t2, m, ()) =>
 bif decide (t2 < t1) then
  bif inB t2 (t.length : Int) then
  bif ((decide (((rd ((0 : Int), ([] : List Int)) t t2).1) < 0)) || (decide (((rd ((0 : Int), ([] : List Int)) t t2).1) >= 65536))) then
   some (.inl (([] : List Int), 13, ()))
  else
   bif ay (((rd ((0 : Int), ([] : List Int)) t t2).2).length : Int) then
   bif ((!(!(decide ((((rd ((0 : Int), ([] : List Int)) t t2).2).length : Int) < 12)))) || (ay (((rd ((0 : Int), ([] : List Int)) t t2).2).length : Int))) then
   bif ((decide ((((rd ((0 : Int), ([] : List Int)) t t2).2).length : Int) < 12)) || (!(decide ((h_ .i64 (((rd ((0 : Int), ([] : List Int)) t t2).2).length : Int) 3) = 0)))) then
    some (.inr (.inl (([] : List Int), 10, ())))
   else
    ((bif !long then some () else some ())).bind fun _ =>
    bif (!!long || (ay (((rd ((0 : Int), ([] : List Int)) t t2).2).length : Int))) then
    bif !(long || (decide ((IntKind.i64.wrap ((IntKind.i64.wrap ((m.length : Int) + 4)) + (((rd ((0 : Int), ([] : List Int)) t t2).2).length : Int))) > 1232))) then
     (tY.run m_ ((rd ((0 : Int), ([] : List Int)) t t2).1, ())).bind fun r =>
     bif ay (((rd ((0 : Int), ([] : List Int)) t t2).2).length : Int) then
     (tY.run m_ ((IntKind.i64.wrap ((((rd ((0 : Int), ([] : List Int)) t t2).2).length : Int) + 4)), ())).bind fun r1 =>
     bif decide (r.length + r1.length <= maxStr) then
     bif decide ((r ++ r1).length + ((rd ((0 : Int), ([] : List Int)) t t2).2).length <= maxStr) then
     (Fz (m.length + ((r ++ r1) ++ ((rd ((0 : Int), ([] : List Int)) t t2).2)).length)).bind fun _ =>
     self ((long || (decide ((IntKind.i64.wrap ((IntKind.i64.wrap ((m.length : Int) + 4)) + (((rd ((0 : Int), ([] : List Int)) t t2).2).length : Int))) > 1232))), t, t1, (IntKind.i64.wrap (t2 + 1)), (m ++ ((r ++ r1) ++ ((rd ((0 : Int), ([] : List Int)) t t2).2))), ()) else none else none else none
    else
     self ((long || (decide ((IntKind.i64.wrap ((IntKind.i64.wrap ((m.length : Int) + 4)) + (((rd ((0 : Int), ([] : List Int)) t t2).2).length : Int))) > 1232))), t, t1, (IntKind.i64.wrap (t2 + 1)), m, ()) else none else none else none else none
 else
  some (.inr (.inr (long, m, ())))
theorem k0 : KQ 112 (O m_) [] e0 x0 [] (b0 m_) := fun _ _ => by kernel_rfl
def l0 := loop m_ (b0 m_)
theorem q0 (v) : l0 .lim v = b0 .lim (l0 .lim) v := KS.q (k0 .lim) v
def s0 := so m_ (k0 m_)
def run : (List (Int × List Int)) × Unit -> Option ((List Int) × Int × Unit) := fun v_ => match v_ with
| (l, ()) =>
 bif ay (l.length : Int) then
 bif decide ((l.length : Int) > 16) then
  some (([] : List Int), 18, ())
 else
  bif ay (l.length : Int) then
  (dN.l0 m_ (false, l, (l.length : Int), 0, ([] : List Int), ())).bind fun g_ => match g_ with
  | .inl (t, t1, ()) =>
   some (t, t1, ())
  | .inr (.inl (t2, t3, ())) =>
   some (t2, t3, ())
  | .inr (.inr (long, m, ())) =>
   bif long then
    some (([] : List Int), 12, ())
   else
    some (m, 0, ()) else none else none
theorem k : KT (O m_) [] ⟨112, [.one zq], .jo [.sh (.one .str), .sh (.one (.int .i64))], run m_⟩ [s0 m_] := fun _ => by kernel_rfl
def c := co (k m_)
end dN

namespace aQ
def O : OO P := f_ [jI.c m_, dN.c m_]
def f0 : bM := fs 113 [.q 12, .z 12, .b 0] [(0, .slc 0 0 (some 48) (.int .u8)), (1, .u), (6, .w), (7, .w)]
def o1 : bJ := .c [.dat (.arr 48 (.int .u8))]
def o2 : bJ := .c [.w, .w, .w, .w, .w, .w, .dat (.int .u32), .dat (.int .u32), .dat (.int .u32), .u, .u, .u, .u, .dat zq]
def e0 : Spec := ⟨[f0, fs 74 [.v 130713 [9], .b 1, .q 32679, .z 4084, .b 0, .q 511] [(1, .ptr 1 0), (4, .s), (6, .ptr 0 0), (84, .dat ZN), (85, .w)]], [(0, o1), (1, o2)], 2⟩
def x0 : List Spec := [⟨[fs 113 [] [], fs 74 [.v 130713 [9], .b 1, .q 32679, .z 4084, .b 0, .q 511] [(1, .ptr 0 0), (4, .s), (6, .ptr 1 0), (84, .dat ZN), (85, .w)]], [(0, o2), (1, o1)], 2⟩]
abbrev A0 : Type := Int × Int × Int × Int × Int × LI × LI × Int × LI × Int × Int × Int × Int × Int × Int × Int × Int × Int × Int × Int × Int × Int × (List (Int × List Int)) × Unit
abbrev B0 : Type := (LI × LI × Int × Int × Int × Int × Int × Int × Int × Int × Int × Int × Int × Int × Int × Int × (List (Int × List Int)) × LI × Unit)
def b0 (m_ : aO) (self : A0 -> Option B0) : A0 -> Option B0 := fun v_ => match v_ with
| (bp, bq, n, t, t1, f, t2, t3, m, m1, m2, m3, m4, m5, m6, m7, m8, m9, m10, m11, m12, m13, m14, ()) =>
 bif decide (t1 < t) then
  bif ay bq then
  bif decide (0 <= (IntKind.i64.wrap (8 * (IntKind.i64.wrap ((IntKind.i64.wrap (bq - 1)) - t1))))) then
  bif inB t1 bq then
  self (bp, bq, n, t, (IntKind.i64.wrap (t1 + 1)), f, t2, t3, (m.set ((bp + t1).toNat) (IntKind.u8.wrap (iR .u64 n (IntKind.i64.wrap (8 * (IntKind.i64.wrap ((IntKind.i64.wrap (bq - 1)) - t1))))))), m1, m2, m3, m4, m5, m6, m7, m8, m9, m10, m11, m12, m13, m14, ()) else none else none else none
 else
  some (f, t2, t3, m1, m2, m3, m4, m5, m6, m7, m8, m9, m10, m11, m12, m13, m14, m, ())
theorem k0 : KQ 74 (O m_) [113] e0 x0 [] (b0 m_) := fun _ _ => by kernel_rfl
def l0 := loop m_ (b0 m_)
theorem q0 (v) : l0 .lim v = b0 .lim (l0 .lim) v := KS.q (k0 .lim) v
def s0 := so m_ (k0 m_)
def e1 : Spec := ⟨[fs 74 [.q 4084, .z 4084, .b 0, .q 511] [(1, .ptr 0 0), (4, .s), (6, .ptr 1 0), (84, .dat ZN), (85, .w)]], [(0, o2), (1, o1)], 2⟩
def x1 : List Spec := [⟨[fs 74 [.q 511] [(1, .ptr 0 0), (4, .s), (6, .ptr 1 0)]], [(0, o2), (1, o1)], 2⟩]
abbrev A1 : Type := LI × LI × Int × Int × Int × Int × Int × Int × Int × Int × Int × Int × Int × Int × Int × Int × (List (Int × List Int)) × LI × Unit
abbrev B1 : Type := (LI × Int × Int × Int × Int × Int × Int × Int × Int × Int × Int × Int × Int × Int × (List (Int × List Int)) × LI × Unit)
def b1 (self : A1 -> Option B1) : A1 -> Option B1 := fun v_ => match v_ with
| (f, t, t1, m, m1, m2, m3, m4, m5, m6, m7, m8, m9, m10, m11, m12, m13, m14, ()) =>
 bif decide (t1 < 3) then
  bif inB t1 3 then
  bif eX (IntKind.i64.wrap (4 + (IntKind.i64.wrap (4 * t1)))) (IntKind.i64.wrap (8 + (IntKind.i64.wrap (4 * t1)))) 48 then
  bif ay ((IntKind.i64.wrap (8 + (IntKind.i64.wrap (4 * t1)))) - (IntKind.i64.wrap (4 + (IntKind.i64.wrap (4 * t1))))) then
  (aQ.l0 m_ ((IntKind.i64.wrap (4 + (IntKind.i64.wrap (4 * t1)))), ((IntKind.i64.wrap (8 + (IntKind.i64.wrap (4 * t1)))) - (IntKind.i64.wrap (4 + (IntKind.i64.wrap (4 * t1))))), (IntKind.u64.wrap (rd 0 t t1)), ((IntKind.i64.wrap (8 + (IntKind.i64.wrap (4 * t1)))) - (IntKind.i64.wrap (4 + (IntKind.i64.wrap (4 * t1))))), 0, f, t, t1, m14, m, m1, m2, m3, m4, m5, m6, m7, m8, m9, m10, m11, m12, m13, ())).bind fun (f1, t2, t3, m15) =>
  self (f1, t2, (IntKind.i64.wrap (t3 + 1)), m15) else none else none else none
 else
  some (f, m, m1, m2, m3, m4, m5, m6, m7, m8, m9, m10, m11, m12, m13, m14, ())
theorem k1 : KQ 74 (O m_) [113] e1 x1 [s0 m_] (b1 m_) := fun _ _ => by kernel_rfl
def l1 := loop m_ (b1 m_)
theorem q1 (v) : l1 .lim v = b1 .lim (l1 .lim) v := KS.q (k1 .lim) v
def s1 := so m_ (k1 m_)
def f3 : bM := fs 74 [.v 261785 [8], .b 3, .q 65447, .z 8180, .b 2, .q 1023] [(4, .s), (6, .ptr 0 0), (108, .dat (.arr 4 (.int .u64))), (109, .w)]
def e2 : Spec := ⟨[f0, f3], [(0, o1)], 1⟩
def x2 : List Spec := [⟨[fs 113 [] [], f3], [(0, o1)], 1⟩]
abbrev A2 : Type := Int × Int × Int × Int × Int × LI × LI × Int × LI × Unit
abbrev B2 : Type := (LI × LI × Int × LI × Unit)
def b2 (m_ : aO) (self : A2 -> Option B2) : A2 -> Option B2 := fun v_ => match v_ with
| (bp, bq, n, t, t1, f, t2, t3, m, ()) =>
 bif decide (t1 < t) then
  bif ay bq then
  bif decide (0 <= (IntKind.i64.wrap (8 * (IntKind.i64.wrap ((IntKind.i64.wrap (bq - 1)) - t1))))) then
  bif inB t1 bq then
  self (bp, bq, n, t, (IntKind.i64.wrap (t1 + 1)), f, t2, t3, (m.set ((bp + t1).toNat) (IntKind.u8.wrap (iR .u64 n (IntKind.i64.wrap (8 * (IntKind.i64.wrap ((IntKind.i64.wrap (bq - 1)) - t1))))))), ()) else none else none else none
 else
  some (f, t2, t3, m, ())
theorem k2 : KQ 74 (O m_) [113] e2 x2 [] (b2 m_) := fun _ _ => by kernel_rfl
def l2 := loop m_ (b2 m_)
theorem q2 (v) : l2 .lim v = b2 .lim (l2 .lim) v := KS.q (k2 .lim) v
def s2 := so m_ (k2 m_)
def e3 : Spec := ⟨[fs 74 [.q 8180, .z 8180, .b 2, .q 1023] [(4, .s), (6, .ptr 0 0), (108, .dat (.arr 4 (.int .u64))), (109, .w)]], [(0, o1)], 1⟩
def x3 : List Spec := [⟨[fs 74 [.q 1023] [(4, .s), (6, .ptr 0 0)]], [(0, o1)], 1⟩]
abbrev A3 : Type := LI × LI × Int × LI × Unit
abbrev B3 : Type := (LI × LI × Unit)
def b3 (self : A3 -> Option B3) : A3 -> Option B3 := fun v_ => match v_ with
| (f, t, t1, m, ()) =>
 bif decide (t1 < 4) then
  bif inB t1 4 then
  bif eX (IntKind.i64.wrap (16 + (IntKind.i64.wrap (8 * t1)))) (IntKind.i64.wrap (24 + (IntKind.i64.wrap (8 * t1)))) 48 then
  bif ay ((IntKind.i64.wrap (24 + (IntKind.i64.wrap (8 * t1)))) - (IntKind.i64.wrap (16 + (IntKind.i64.wrap (8 * t1))))) then
  (aQ.l2 m_ ((IntKind.i64.wrap (16 + (IntKind.i64.wrap (8 * t1)))), ((IntKind.i64.wrap (24 + (IntKind.i64.wrap (8 * t1)))) - (IntKind.i64.wrap (16 + (IntKind.i64.wrap (8 * t1))))), (rd 0 t t1), ((IntKind.i64.wrap (24 + (IntKind.i64.wrap (8 * t1)))) - (IntKind.i64.wrap (16 + (IntKind.i64.wrap (8 * t1))))), 0, f, t, t1, m, ())).bind fun (f1, t2, t3, m1, ()) =>
  self (f1, t2, (IntKind.i64.wrap (t3 + 1)), m1, ()) else none else none else none
 else
  some (f, m, ())
theorem k3 : KQ 74 (O m_) [113] e3 x3 [s2 m_] (b3 m_) := fun _ _ => by kernel_rfl
def l3 := loop m_ (b3 m_)
theorem q3 (v) : l3 .lim v = b3 .lim (l3 .lim) v := KS.q (k3 .lim) v
def s3 := so m_ (k3 m_)
def run : DT5 × Unit -> Option ((List Int) × Int × Unit) := fun v_ => match v_ with
| (p, ()) =>
 (jI.run m_ (p.1, 0, 3, ())).bind fun r =>
 ((bif !!r then jI.run m_ (p.2.1, 0, 7, ()) else some false)).bind fun r1 =>
 ((bif !(!r || !r1) then jI.run m_ (p.2.2.1, 0, 7, ()) else some false)).bind fun r2 =>
 ((bif !((!r || !r1) || !r2) then jI.run m_ (p.2.2.2.1, 0, 255, ()) else some false)).bind fun r3 =>
 ((bif !(((!r || !r1) || !r2) || !r3) then jI.run m_ (p.2.2.2.2.1, (-128), 127, ()) else some false)).bind fun r4 =>
 ((bif !((((!r || !r1) || !r2) || !r3) || !r4) then jI.run m_ (p.2.2.2.2.2.1, (-128), 127, ()) else some false)).bind fun r5 =>
 bif (((((!r || !r1) || !r2) || !r3) || !r4) || !r5) then
  some (([] : List Int), 13, ())
 else
  (dN.run m_ (p.2.2.2.2.2.2.2.2.2.2.2.2.2, ())).bind fun (r6, r7, ()) =>
  bif !(decide (r7 = 0)) then
   some (([] : List Int), r7, ())
  else
   (aQ.l1 m_ (r6, ((((List.replicate 3 (0 : Int) : List Int).set 0 p.2.2.2.2.2.2.1).set 1 p.2.2.2.2.2.2.2.1).set 2 p.2.2.2.2.2.2.2.2.1), 0, p.1, p.2.1, p.2.2.1, p.2.2.2.1, p.2.2.2.2.1, p.2.2.2.2.2.1, p.2.2.2.2.2.2.1, p.2.2.2.2.2.2.2.1, p.2.2.2.2.2.2.2.2.1, p.2.2.2.2.2.2.2.2.2.1, p.2.2.2.2.2.2.2.2.2.2.1, p.2.2.2.2.2.2.2.2.2.2.2.1, p.2.2.2.2.2.2.2.2.2.2.2.2.1, p.2.2.2.2.2.2.2.2.2.2.2.2.2, (((((List.replicate 48 (0 : Int)).set 0 (IntKind.u8.wrap (Et .i64 (Et .i64 (jP .i64 p.1 6) (jP .i64 p.2.1 3)) p.2.2.1))).set 1 (IntKind.u8.wrap p.2.2.2.1)).set 2 (IntKind.u8.wrap p.2.2.2.2.1)).set 3 (IntKind.u8.wrap p.2.2.2.2.2.1)), ())).bind fun (f, m, m1, m2, m3, m4, m5, m6, m7, m8, m9, m10, m11, m12, m13, m14, ()) =>
   (aQ.l3 m_ (f, (((((List.replicate 4 (0 : Int) : List Int).set 0 m9).set 1 m10).set 2 m11).set 3 m12), 0, m14, ())).bind fun (f1, m15, ()) =>
   bif decide (((m15.drop 0).take 48).length + f1.length <= maxStr) then
   some ((((m15.drop 0).take 48) ++ f1), 0, ()) else none
theorem k : KT (O m_) [113] ⟨74, [.ag Uh], .jo [.sh (.one .str), .sh (.one (.int .i64))], run m_⟩ [s1 m_, s3 m_] := fun _ => by kernel_rfl
def c := co (k m_)
end aQ

namespace jX
def O (m_ : aO) : OO P := f_ []
def run (m_ : aO) : qO × Unit -> Option (Int) := fun v_ => match v_ with
| (k, ()) =>
 bif ay (k.1.length : Int) then
 bif ((!(!(decide ((k.1.length : Int) = 32)))) || (ay (k.1.length : Int))) then
 bif ((!(decide ((k.1.length : Int) = 32))) && (!(decide ((k.1.length : Int) = 64)))) then
  some 13
 else
  bif ay (k.2.1.length : Int) then
  bif decide ((k.2.1.length : Int) > 126) then
   some 18
  else
   some 0 else none else none else none
theorem k : KT (O m_) [] ⟨207, [.ag Hz], .one (.sh (.one (.int .i64))), run m_⟩ [] := fun _ => by kernel_rfl
def c := co (k m_)
end jX

namespace aW
def O (m_ : aO) : OO P := f_ []
def e0 : Spec := ⟨[fs 210 [.q 116, .z 116, .b 0, .q 15] [(0, .t), (1, .t), (12, .w), (13, .w)]], [], 0⟩
def x0 : List Spec := [⟨[fs 210 [.q 29901, .b 1, .q 935, .z 116, .b 0, .q 15] [(4, .b)]], [], 0⟩, ⟨[fs 210 [.q 15] []], [], 0⟩]
abbrev A0 : Type := LL × LL × Int × Int × Unit
abbrev B0 : Type := (Bool × Unit) ⊕ (Unit)
def b0 (m_ : aO) (self : A0 -> Option B0) : A0 -> Option B0 := fun v_ => match v_ with
| (s1, s2, t, t1, ()) =>
 bif decide (t1 < t) then
  bif inB t1 (s1.length : Int) then
  bif inB t1 (s2.length : Int) then
  bif !(decide ((rd ([] : List Int) s1 t1) = (rd ([] : List Int) s2 t1))) then
   some (.inl (false, ()))
  else
   self (s1, s2, t, (IntKind.i64.wrap (t1 + 1)), ()) else none else none
 else
  some (.inr (()))
theorem k0 : KQ 210 (O m_) [] e0 x0 [] (b0 m_) := fun _ _ => by kernel_rfl
def l0 := loop m_ (b0 m_)
theorem q0 (v) : l0 .lim v = b0 .lim (l0 .lim) v := KS.q (k0 .lim) v
def s0 := so m_ (k0 m_)
def run : (List (List Int)) × (List (List Int)) × Unit -> Option (Bool) := fun v_ => match v_ with
| (s1, s2, ()) =>
 bif ay (s1.length : Int) then
 bif ay (s2.length : Int) then
 bif !(decide ((s1.length : Int) = (s2.length : Int))) then
  some false
 else
  bif ay (s1.length : Int) then
  (aW.l0 m_ (s1, s2, (s1.length : Int), 0, ())).bind fun g_ => match g_ with
  | .inl (t, ()) =>
   some t
  | .inr (()) =>
   some true else none else none else none
theorem k : KT (O m_) [] ⟨210, [.one (.lst .str), .one (.lst .str)], .one (.sh (.one .bool)), run m_⟩ [s0 m_] := fun _ => by kernel_rfl
def c := co (k m_)
end aW

namespace mP
def O : OO P := f_ [aW.c m_]
def run : qO × qO × Unit -> Option (Bool) := fun v_ => match v_ with
| (a, b, ()) =>
 ((bif ((decide (a.1 = b.1)) && (decide (a.2.2.1 = b.2.2.1))) then aW.run m_ (a.2.1, b.2.1, ()) else some false)).bind fun r =>
 some (((decide (a.1 = b.1)) && (decide (a.2.2.1 = b.2.2.1))) && r)
theorem k : KT (O m_) [] ⟨212, [.ag Hz, .ag Hz], .one (.sh (.one .bool)), run m_⟩ [] := fun _ => by kernel_rfl
def c := co (k m_)
end mP

namespace dV
def O : OO P := f_ [strings_Repeat.c m_]
def o0 : bJ := .c [.dat rH]
def e0 : Spec := ⟨[fs 213 [.q 116, .z 116, .b 0, .q 15] [(0, .w), (1, .s), (5, .ptr 0 0), (7, .w)]], [(0, o0)], 1⟩
def x0 : List Spec := [⟨[fs 213 [.q 15] [(1, .s), (5, .ptr 0 0)]], [(0, o0)], 1⟩]
abbrev A0 : Type := Int × LI × Int × LI × Unit
abbrev B0 : Type := (LI × LI × Unit)
def b0 (m_ : aO) (self : A0 -> Option B0) : A0 -> Option B0 := fun v_ => match v_ with
| (n, plain, t, m, ()) =>
 bif decide (t < 8) then
  bif decide (0 <= (IntKind.i64.wrap (8 * t))) then
  bif inB (IntKind.i64.wrap (15 - t)) 16 then
  self (n, plain, (IntKind.i64.wrap (t + 1)), (m.set ((IntKind.i64.wrap (15 - t)).toNat) (IntKind.u8.wrap (iR .i64 n (IntKind.i64.wrap (8 * t))))), ()) else none else none
 else
  some (plain, m, ())
theorem k0 : KQ 213 (O m_) [] e0 x0 [] (b0 m_) := fun _ _ => by kernel_rfl
def l0 := loop m_ (b0 m_)
theorem q0 (v) : l0 .lim v = b0 .lim (l0 .lim) v := KS.q (k0 .lim) v
def s0 := so m_ (k0 m_)
def run : Int × (List Int) × Unit -> Option (List Int) := fun v_ => match v_ with
| (n, plain, ()) =>
 (dV.l0 m_ (n, plain, 0, (List.replicate 16 (0 : Int)), ())).bind fun (Q7, m, ()) =>
 bif ay (Q7.length : Int) then
 (strings_Repeat.run m_ (([0] : List Int), (Q7.length : Int), ())).bind fun r =>
 bif decide (((m.drop 0).take 16).length + r.length <= maxStr) then
 some (((m.drop 0).take 16) ++ r) else none else none
theorem k : KT (O m_) [] ⟨213, [.one (.int .i64), .one .str], .one (.sh (.one .str)), run m_⟩ [s0 m_] := fun _ => by kernel_rfl
def c := co (k m_)
end dV

namespace bH
def inl : FuncId -> Bool := fun f => [].any (Nat.beq f)
def O (m_ : aO) : lS := (Jq [])
theorem Ok (m_ : aO) {S0 w0} : fU P S0 w0 (O m_) := (xX (an))
def run (m_ : aO) : (List qO) × Unit -> Option (List qO) := fun v_ => match v_ with
| (s, ()) =>
 bif decide (([] : List qO).length + s.length < 977343669134) then
 some (([] : List qO) ++ s) else none
def c_ (m_ : aO) : Callee := ⟨214, [.one HY], .one (.own Hz), run m_⟩
theorem kn (m_ : aO) : ig P (O m_) inl [] [] (c_ m_).res.fin 20000 false (start 214 [.bC]) = (
 some ([] : List qO)) := by kernel_rfl
theorem k (m_ : aO) : ∀ xs : List qO, ig P (O m_) inl [] [] (c_ m_).res.fin 20000 false (start 214 [.lg Hz xs]) = run m_ (xs, ()) := by intro xs; kernel_rfl
theorem ok (m_ : aO) : (c_ m_).OK P := Callee.of_nil (fun S0 w0 => (Ok m_)) (by kernel_rfl) (by rfl) (fun S0 w0 cs0 => an) (fun r h => (kn m_).trans ((show (
 some ([] : List qO)) = bH.run m_ ([], ()) from by kernel_rfl).trans h)) (fun x r h => (bH.k m_ x).trans h)
def c (m_ : aO) : CO P := ⟨c_ m_, ok m_⟩
end bH

namespace iC
def O : OO P := f_ [strings_Repeat.c m_]
def run : Int × Unit -> Option (List Int) := fun v_ => match v_ with
| (n, ()) =>
 (strings_Repeat.run m_ (([0] : List Int), n, ())).bind fun r =>
 some r
theorem k : KT (O m_) [] ⟨223, [.one (.int .i64)], .one (.sh (.one .str)), run m_⟩ [] := fun _ => by kernel_rfl
def c := co (k m_)
end iC

namespace dM
def O (m_ : aO) : OO P := f_ []
def e0 : Spec := ⟨[fs 250 [.q 56, .z 56, .b 0, .q 15] [(0, .y), (1, .y), (5, .y)]], [], 0⟩
def x0 : List Spec := [⟨[fs 250 [.q 15] [(5, .y)]], [], 0⟩]
abbrev A0 : Type := Int × Int × Int × Unit
abbrev B0 : Type := (Int × Unit)
def b0 (m_ : aO) (self : A0 -> Option B0) : A0 -> Option B0 := fun v_ => match v_ with
| (a, b, r, ()) =>
 bif decide (b > 0) then
  self ((dX .u8 (jP .u8 a 1) (IntKind.u8.wrap ((iR .u8 a 7) * 27))), (iR .u8 b 1), (dX .u8 r (IntKind.u8.wrap (a * (h_ .u8 b 1)))), ())
 else
  some (r, ())
theorem k0 : KQ 250 (O m_) [] e0 x0 [] (b0 m_) := fun _ _ => by kernel_rfl
def l0 := loop m_ (b0 m_)
theorem q0 (v) : l0 .lim v = b0 .lim (l0 .lim) v := KS.q (k0 .lim) v
def s0 := so m_ (k0 m_)
def run : Int × Int × Unit -> Option (Int) := fun v_ => match v_ with
| (a, b, ()) =>
 (dM.l0 m_ (a, b, 0, ())).bind fun (r, ()) =>
 some r
theorem k : KT (O m_) [] ⟨250, [.one (.int .u8), .one (.int .u8)], .one (.sh (.one (.int .u8))), run m_⟩ [s0 m_] := fun _ => by kernel_rfl
def c := co (k m_)
end dM

namespace fJ
def O : OO P := f_ [dM.c m_]
def e0 : Spec := ⟨[fs 258 [.q 116, .z 116, .b 0, .q 15] [(3, .y), (4, .y), (6, .w)]], [], 0⟩
def x0 : List Spec := [⟨[fs 258 [.q 15] [(3, .y)]], [], 0⟩]
abbrev A0 : Type := Int × Int × Int × Unit
abbrev B0 : Type := (Int × Unit)
def b0 (self : A0 -> Option B0) : A0 -> Option B0 := fun v_ => match v_ with
| (r, s, t, ()) =>
 bif decide (t < 7) then
  (dM.run m_ (s, s, ())).bind fun r1 =>
  (dM.run m_ (r, r1, ())).bind fun r2 =>
  self (r2, r1, (IntKind.i64.wrap (t + 1)), ())
 else
  some (r, ())
theorem k0 : KQ 258 (O m_) [] e0 x0 [] (b0 m_) := fun _ _ => by kernel_rfl
def l0 := loop m_ (b0 m_)
theorem q0 (v) : l0 .lim v = b0 .lim (l0 .lim) v := KS.q (k0 .lim) v
def s0 := so m_ (k0 m_)
def run : Int × Unit -> Option (Int) := fun v_ => match v_ with
| (b, ()) =>
 (fJ.l0 m_ (1, b, 0, ())).bind fun (r, ()) =>
 some r
theorem k : KT (O m_) [] ⟨258, [.one (.int .u8)], .one (.sh (.one (.int .u8))), run m_⟩ [s0 m_] := fun _ => by kernel_rfl
def c := co (k m_)
end fJ

namespace nS
def O (m_ : aO) : OO P := f_ []
def run (m_ : aO) : Int × Int × Unit -> Option (Int) := fun v_ => match v_ with
| (b, n, ()) =>
 bif decide (0 <= n) then
 bif decide (0 <= (IntKind.i64.wrap (8 - n))) then
 some (Et .u8 (jP .u8 b n) (iR .u8 b (IntKind.i64.wrap (8 - n)))) else none else none
theorem k : KT (O m_) [] ⟨259, [.one (.int .u8), .one (.int .i64)], .one (.sh (.one (.int .u8))), run m_⟩ [] := fun _ => by kernel_rfl
def c := co (k m_)
end nS

namespace oQ
def O : OO P := f_ [fJ.c m_, nS.c m_]
def run : Int × Unit -> Option (Int) := fun v_ => match v_ with
| (b, ()) =>
 (fJ.run m_ (b, ())).bind fun r =>
 (nS.run m_ (r, 1, ())).bind fun r1 =>
 (nS.run m_ (r, 2, ())).bind fun r2 =>
 (nS.run m_ (r, 3, ())).bind fun r3 =>
 (nS.run m_ (r, 4, ())).bind fun r4 =>
 some (dX .u8 (dX .u8 (dX .u8 (dX .u8 (dX .u8 r r1) r2) r3) r4) 99)
theorem k : KT (O m_) [] ⟨249, [.one (.int .u8)], .one (.sh (.one (.int .u8))), run m_⟩ [] := fun _ => by kernel_rfl
def c := co (k m_)
end oQ

namespace aB
def O (m_ : aO) : OO P := f_ []
def e0 : Spec := ⟨[fs 253 [.q 116, .z 116, .b 0, .q 15] [(0, .dat Yt), (3, .w), (9, .dat Yt), (10, .w), (11, .w)]], [], 0⟩
def x0 : List Spec := [⟨[fs 253 [.q 15] [(0, .dat Yt), (3, .w)]], [], 0⟩]
abbrev A0 : Type := LL × Int × LL × Int × Int × Unit
abbrev B0 : Type := (LL × Int × Unit)
def b0 (m_ : aO) (self : A0 -> Option B0) : A0 -> Option B0 := fun v_ => match v_ with
| (slices, size, t, t1, t2, ()) =>
 bif decide (t2 < t1) then
  bif inB t2 (t.length : Int) then
  bif ay ((rd ([] : List Int) t t2).length : Int) then
  bif decide ((IntKind.i64.wrap (size + ((rd ([] : List Int) t t2).length : Int))) < 0) then
   none
  else
   self (slices, (IntKind.i64.wrap (size + ((rd ([] : List Int) t t2).length : Int))), t, t1, (IntKind.i64.wrap (t2 + 1)), ()) else none else none
 else
  some (slices, size, ())
theorem k0 : KQ 253 (O m_) [262] e0 x0 [] (b0 m_) := fun _ _ => by kernel_rfl
def l0 := loop m_ (b0 m_)
theorem q0 (v) : l0 .lim v = b0 .lim (l0 .lim) v := KS.q (k0 .lim) v
def s0 := so m_ (k0 m_)
def e1 : Spec := ⟨[fs 253 [.q 500, .z 500, .b 2, .q 63] [(6, .pre 0 (.int .u8)), (25, .dat Yt), (26, .w), (27, .w)]], [(0, .c [.ry])], 1⟩
def x1 : List Spec := [⟨[fs 253 [.q 63] [(6, .pre 0 (.int .u8))]], [(0, .c [.ry])], 1⟩]
abbrev A1 : Type := Int × LL × Int × Int × LI × Unit
abbrev B1 : Type := (Int × LI × Unit)
def b1 (m_ : aO) (self : A1 -> Option B1) : A1 -> Option B1 := fun v_ => match v_ with
| (nT, t, t1, t2, m, ()) =>
 bif decide (t2 < t1) then
  bif inB t2 (t.length : Int) then
  bif ((decide (m.length + (rd ([] : List Int) t t2).length < 70368744177664)) && (decide (0 <= nT))) then
  self ((nT + ((rd ([] : List Int) t t2).length : Int)), t, t1, (IntKind.i64.wrap (t2 + 1)), (m.take nT.toNat ++ ((rd ([] : List Int) t t2) ++ m.drop (nT.toNat + (rd ([] : List Int) t t2).length))), ()) else none else none
 else
  some (nT, m, ())
theorem k1 : KQ 253 (O m_) [262] e1 x1 [] (b1 m_) := fun _ _ => by kernel_rfl
def l1 := loop m_ (b1 m_)
theorem q1 (v) : l1 .lim v = b1 .lim (l1 .lim) v := KS.q (k1 .lim) v
def s1 := so m_ (k1 m_)
def run : (List (List Int)) × Unit -> Option (List Int) := fun v_ => match v_ with
| (slices, ()) =>
 bif ay (slices.length : Int) then
 (aB.l0 m_ (slices, 0, slices, (slices.length : Int), 0, ())).bind fun (uJ, size, ()) =>
 bif decide (size < 0) then
  none
 else
  bif decide ((IntKind.i64.wrap (size - 0)) > 0) then
   bif ((decide (0 <= (IntKind.i64.wrap (size - 0)))) && (Nat.blt ((IntKind.i64.wrap (size - 0)).toNat) 70368744177664)) then
   bif eX 0 0 ((List.replicate ((IntKind.i64.wrap (size - 0)).toNat) 0).length : Int) then
   bif ay (uJ.length : Int) then
   (aB.l1 m_ (0, uJ, (uJ.length : Int), 0, (List.replicate ((IntKind.i64.wrap (size - 0)).toNat) 0), ())).bind fun (nT, m, ()) =>
   some ((m.drop 0).take nT.toNat) else none else none else none
  else
   bif ay (uJ.length : Int) then
   (aB.l1 m_ (0, uJ, (uJ.length : Int), 0, ([] : List Int), ())).bind fun (O_, m1, ()) =>
   some ((m1.drop 0).take O_.toNat) else none else none
theorem k : KT (O m_) [262] ⟨253, [.one Yt], .one (.sh (.one tY0)), run m_⟩ [s0 m_, s1 m_] := fun _ => by kernel_rfl
def c := co (k m_)
end aB

namespace fQ
def O (m_ : aO) : OO P := f_ []
def run (m_ : aO) : Bool × Unit -> Option (Int) := fun v_ => match v_ with
| (b, ()) =>
 bif b then
  some 1
 else
  some 0
theorem k : KT (O m_) [] ⟨266, [.one .bool], .one (.sh (.one (.int .u32))), run m_⟩ [] := fun _ => by kernel_rfl
def c := co (k m_)
end fQ

namespace aj
def xs : List (FuncId × XK) := [(254, .load .u32), (265, .store), (267, .Dq .disable), (268, .cas .i32), (269, .Dq .enable), (270, .Dt .acquire), (272, .Dt .releaseMerge), (273, .add .i32)]
theorem Q8 : ∀ x ∈ xs, x.2.OK P x.1 := ac ⟨_, Go.Proofs.Tryz.func254, by kernel_rfl, by kernel_rfl, by kernel_rfl, by kernel_rfl⟩ (ac ⟨_, Go.Proofs.Tryz.func265, by kernel_rfl, by kernel_rfl, by kernel_rfl, by kernel_rfl⟩ (ac ⟨_, Go.Proofs.Tryz.func267, by kernel_rfl, by kernel_rfl, by kernel_rfl, by kernel_rfl⟩ (ac ⟨_, Go.Proofs.Tryz.func268, by kernel_rfl, by kernel_rfl, by kernel_rfl, by kernel_rfl⟩ (ac ⟨_, Go.Proofs.Tryz.func269, by kernel_rfl, by kernel_rfl, by kernel_rfl, by kernel_rfl⟩ (ac ⟨_, Go.Proofs.Tryz.func270, by kernel_rfl, by kernel_rfl, by kernel_rfl, by kernel_rfl⟩ (ac ⟨_, Go.Proofs.Tryz.func272, by kernel_rfl, by kernel_rfl, by kernel_rfl, by kernel_rfl⟩ (ac ⟨_, Go.Proofs.Tryz.func273, by kernel_rfl, by kernel_rfl, by kernel_rfl, by kernel_rfl⟩ (an))))))))
def O : OO P := ZH (f_ [oQ.c m_, dM.c m_, aB.c m_, fQ.c m_]) (ZI Q8)
def f0 : bM := ⟨248, [.v 61 [1]], [], none, [.call 257 [.ptr 0 1, .b], .call 256 [.ptr 0 2]], false⟩
def f1 : bM := fs 228 [.v 30 [5,6,7], .q 31] []
def o2 : bJ := .c [.s, .dat (.int .u32), .dat (.int .i32), .dat (.int .u32), .dat qM, .dat qM, .dat qN, .pV]
def o3 : bJ := .c [.dat rH]
def f4 : bM := fs 242 [.v 2 [1], .q 3] [(0, .ptr 1 0)]
def f5 : bM := fs 230 [.v 6 [1], .q 7] [(2, .ptr 2 0), (3, .ptr 3 0), (4, .ptr 4 0)]
def e0 : Spec := ⟨[fs 243 [.q 13116, .z 13116, .b 2, .b 1, .q 103, .z 12, .b 0] [(0, .ptr 0 0), (2, .w), (6, .w), (25, .oy 1), (26, .w), (27, .w)], fs 242 [.v 2 [1], .q 3] [(0, .ptr 2 0)], f0, fs 241 [.v 6 [2]] [], fs 233 [.v 3 [4]] [], fs 230 [.v 6 [1], .q 7] [(2, .ptr 3 0), (3, .ptr 4 0), (4, .ptr 5 0)], f1], [(0, o2), (1, .c [.ry]), (2, .c [.ptr 0 0]), (3, .c [.ptr 0 0]), (4, o3), (5, o3)], 6⟩
def x0 : List Spec := [⟨[fs 243 [.q 103, .z 12, .b 0] [(0, .ptr 0 0), (6, .w)], f4, f0, fs 241 [.v 6 [2]] [], fs 233 [.v 3 [4]] [], f5, f1], [(0, o2), (1, .c [.ptr 0 0]), (2, .c [.ptr 0 0]), (3, o3), (4, o3)], 5⟩]
abbrev A0 : Type := Int × Int × Int × Int × Bool × LI × Int × Int × Int × LI × LI × LL × LI × LI × LI × Unit
abbrev B0 : Type := (Int × Bool × LI × Int × Int × Int × LI × LI × LL × LI × LI × Unit)
def b0 (self : A0 -> Option B0) : A0 -> Option B0 := fun v_ => match v_ with
| (i, t, t1, t2, m, m1, m2, m3, m4, m5, m6, m7, m8, m9, m10, ()) =>
 bif decide (t2 < t1) then
  bif inB t2 (m8.length : Int) then
  (dM.run m_ ((IntKind.u8.wrap i), (rd 0 m8 t2), ())).bind fun r =>
  bif inB (rd 0 m8 t2) 16 then
  bif inB i 256 then
  self (i, t, t1, (IntKind.i64.wrap (t2 + 1)), m, m1, m2, m3, m4, m5, m6, (m7.set ((rd 0 m8 t2).toNat) ((rd (List.replicate 256 (0 : Int) : List Int) m7 (rd 0 m8 t2)).set i.toNat r)), m8, m9, m10, ()) else none else none else none
 else
  some (t, m, m1, m2, m3, m4, m5, m6, m7, m9, m10, ())
theorem k0 : KQ 228 (O m_) [229, 230, 233, 234, 235, 236, 237, 238, 241, 242, 243, 244, 247, 248, 251, 252, 253, 255, 263, 264] e0 x0 [] (b0 m_) := fun _ _ => by kernel_rfl
def l0 := loop m_ (b0 m_)
theorem q0 (v) : l0 .lim v = b0 .lim (l0 .lim) v := KS.q (k0 .lim) v
def s0 := so m_ (k0 m_)
def e1 : Spec := ⟨[fs 243 [.q 12, .z 12, .b 0] [(0, .ptr 0 0), (6, .w)], f4, f0, fs 241 [.v 6 [2]] [], fs 233 [.v 3 [4]] [], f5, f1], [(0, o2), (1, .c [.ptr 0 0]), (2, .c [.ptr 0 0]), (3, o3), (4, o3)], 5⟩
def x1 : List Spec := [⟨[fs 243 [] [], fs 242 [.v 2 [1], .q 3] [(0, .ptr 0 0)], ⟨248, [.v 61 [1]], [], none, [.call 257 [.ptr 1 1, .b], .call 256 [.ptr 1 2]], false⟩, fs 241 [.v 6 [2]] [], fs 233 [.v 3 [4]] [], f5, f1], [(0, .c [.ptr 1 0]), (1, o2), (2, .c [.ptr 1 0]), (3, o3), (4, o3)], 5⟩]
abbrev A1 : Type := Int × Bool × LI × Int × Int × Int × LI × LI × LL × LI × LI × Unit
abbrev B1 : Type := (Bool × LI × Int × Int × Int × LI × LI × LL × LI × LI × Unit)
def b1 (self : A1 -> Option B1) : A1 -> Option B1 := fun v_ => match v_ with
| (t, m, m1, m2, m3, m4, m5, m6, m7, m8, m9, ()) =>
 bif decide (t < 256) then
  (oQ.run m_ ((IntKind.u8.wrap t), ())).bind fun r =>
  bif inB t 256 then
  bif inB r 256 then
  bif ay (([1, 2, 3, 9, 11, 13, 14] : List Int).length : Int) then
  (aj.l0 m_ (t, t, (([1, 2, 3, 9, 11, 13, 14] : List Int).length : Int), 0, m, m1, m2, m3, m4, (m5.set t.toNat r), (m6.set r.toNat (IntKind.u8.wrap t)), m7, ([1, 2, 3, 9, 11, 13, 14] : List Int), m8, m9, ())).bind fun (t1, m10) =>
  self ((IntKind.i64.wrap (t1 + 1)), m10) else none else none else none
 else
  some (m, m1, m2, m3, m4, m5, m6, m7, m8, m9, ())
theorem k1 : KQ 228 (O m_) [229, 230, 233, 234, 235, 236, 237, 238, 241, 242, 243, 244, 247, 248, 251, 252, 253, 255, 263, 264] e1 x1 [s0 m_] (b1 m_) := fun _ _ => by kernel_rfl
def l1 := loop m_ (b1 m_)
theorem q1 (v) : l1 .lim v = b1 .lim (l1 .lim) v := KS.q (k1 .lim) v
def s1 := so m_ (k1 m_)
def o6 : bJ := .c [.row JV]
def f7 : bM := ⟨248, [.v 61 [1]], [], none, [.call 257 [.ptr 4 1, .b], .call 256 [.ptr 4 2]], false⟩
def f8 : bM := fs 230 [.v 6 [1], .q 7] [(2, .ptr 5 0), (3, .ptr 6 0), (4, .ptr 7 0)]
def o9 : bJ := .c [.own 8 JV]
def e2 : Spec := ⟨[fs 260 [.q 12, .z 12, .b 0] [(0, .fn (.yield 0) []), (1, .ptr 1 0), (2, .ptr 2 0), (4, .w)], ⟨244, [.inRange 0, .b 0, .q 31], [(1, .ptr 3 0), (2, .w), (3, .ptr 4 0)], none, [.mark 5], false⟩, fs 242 [.v 3 [1]] [], ⟨248, [.v 61 [1]], [], none, [.call 257 [.ptr 6 1, .b], .call 256 [.ptr 6 2]], false⟩, fs 241 [.v 6 [2]] [], fs 233 [.v 3 [4]] [], fs 230 [.v 6 [1], .q 7] [(2, .ptr 7 0), (3, .ptr 8 0), (4, .ptr 9 0)], f1], [(0, .loop .ready none 244 [(3, .ptr 4 0)] [22] (wK 122) 5), (1, .c [.oy 10]), (2, .c [.w]), (3, .c [.ptr 6 0]), (4, .c [.own 5002 JV]), (5, .deferred false), (6, o2), (7, .c [.ptr 6 0]), (8, o3), (9, o3), (10, .d [.ry]), (5002, o6)], 5003⟩
def x2 : List Spec := [⟨[fs 260 [] [], ⟨244, [.inRange 2, .b 0, .q 31], [(1, .ptr 0 0), (2, .w), (3, .ptr 1 0)], none, [.mark 3], false⟩, fs 242 [.v 3 [1]] [], f7, fs 241 [.v 6 [2]] [], fs 233 [.v 3 [4]] [], f8, f1], [(0, .c [.ptr 4 0]), (1, o9), (2, .loop .ready none 244 [(3, .ptr 1 0)] [22] (wK 122) 3), (3, .deferred false), (4, o2), (5, .c [.ptr 4 0]), (6, o3), (7, o3), (8, o6)], 9⟩]
abbrev A2 : Type := Int × Int × Bool × Int × LI × Int × Int × Int × LI × LI × LL × LI × LI × LI × LL × Unit
abbrev B2 : Type := (Int × Bool × LI × Int × Int × Int × LI × LI × LL × LI × LI × LL × Unit)
def b2 (m_ : aO) (self : A2 -> Option B2) : A2 -> Option B2 := fun v_ => match v_ with
| (i, nk, m, m1, m2, m3, m4, m5, m6, m7, m8, m9, m10, m11, m12, ()) =>
 bif ay (m11.length : Int) then
 bif decide (i < (m11.length : Int)) then
  bif eX i (m11.length : Int) (m11.length : Int) then
  bif ay ((m11.length : Int) - i) then
  bif ((eX i (IntKind.i64.wrap (i + (mn m1 ((m11.length : Int) - i)))) (IntKind.i64.wrap (i + (mn m1 ((m11.length : Int) - i))))) && (decide ((IntKind.i64.wrap (i + (mn m1 ((m11.length : Int) - i)))) <= (m11.length : Int)))) then
  bif (Nat.ble 1 4 && Nat.ble 4 (cut m11 i (IntKind.i64.wrap (i + (mn m1 ((m11.length : Int) - i))))).length) then
  bif decide (m12.length + ([((cut m11 i (IntKind.i64.wrap (i + (mn m1 ((m11.length : Int) - i))))).take 4)] : List (List Int)).length < 17592186044416) then
  self ((IntKind.i64.wrap (i + m1)), nk, m, m1, m2, m3, m4, m5, m6, m7, m8, m9, m10, m11, (m12 ++ ([((cut m11 i (IntKind.i64.wrap (i + (mn m1 ((m11.length : Int) - i))))).take 4)] : List (List Int))), ()) else none else none else none else none else none
 else
  some (nk, m, m2, m3, m4, m5, m6, m7, m8, m9, m10, m12, ()) else none
theorem k2 : KQ 228 (O m_) [229, 230, 233, 234, 235, 236, 237, 238, 241, 242, 243, 244, 247, 248, 251, 252, 253, 255, 263, 264] e2 x2 [] (b2 m_) := fun _ _ => by kernel_rfl
def l2 := loop m_ (b2 m_)
theorem q2 (v) : l2 .lim v = b2 .lim (l2 .lim) v := KS.q (k2 .lim) v
def s2 := so m_ (k2 m_)
def Yu : bJ := .c [.dat JV]
def e3 : Spec := ⟨[⟨244, [.q 518452, .z 518452, .b 4, .q 64807, .b 3, .q 4051, .z 1012, .b 2, .q 127], [(1, .ptr 0 0), (2, .w), (3, .ptr 1 0), (5, .y), (6, .w), (7, .ptr 2 0), (115, .w)], none, [.mark 3], false⟩, fs 242 [.v 3 [1]] [], f7, fs 241 [.v 6 [2]] [], fs 233 [.v 3 [4]] [], f8, f1], [(0, .c [.ptr 4 0]), (1, o9), (2, Yu), (3, .deferred false), (4, o2), (5, .c [.ptr 4 0]), (6, o3), (7, o3), (8, o6)], 9⟩
def x3 : List Spec := [⟨[⟨244, [.q 64807, .b 3, .q 4051, .z 1012, .b 2, .q 127], [(1, .ptr 0 0), (2, .w), (3, .ptr 1 0), (5, .y), (6, .w), (7, .ptr 2 0)], none, [.mark 3], false⟩, fs 242 [.v 3 [1]] [], f7, fs 241 [.v 6 [2]] [], fs 233 [.v 3 [4]] [], f8, f1], [(0, .c [.ptr 4 0]), (1, o9), (2, Yu), (3, .deferred false), (4, o2), (5, .c [.ptr 4 0]), (6, o3), (7, o3), (8, o6)], 9⟩]
abbrev A3 : Type := Int × Int × Int × Int × Bool × LI × LI × Int × Int × Int × LI × LI × LL × LI × LI × LL × Unit
abbrev B3 : Type := (Int × Int × Int × Bool × LI × LI × Int × Int × Int × LI × LI × LL × LI × LI × LL × Unit)
def b3 (m_ : aO) (self : A3 -> Option B3) : A3 -> Option B3 := fun v_ => match v_ with
| (nk, x, i, t, m, m1, m2, m3, m4, m5, m6, m7, m8, m9, m10, m11, ()) =>
 bif decide (t < 4) then
  bif inB t 4 then
  bif inB (IntKind.i64.wrap (i - nk)) (m11.length : Int) then
  bif inB t 4 then
  bif inB t 4 then
  self (nk, x, i, (IntKind.i64.wrap (t + 1)), m, (m1.set t.toNat (dX .u8 (rd 0 m1 t) (rd 0 (rd (List.replicate 4 (0 : Int) : List Int) m11 (IntKind.i64.wrap (i - nk))) t))), m2, m3, m4, m5, m6, m7, m8, m9, m10, m11, ()) else none else none else none else none
 else
  some (nk, x, i, m, m1, m2, m3, m4, m5, m6, m7, m8, m9, m10, m11, ())
theorem k3 : KQ 228 (O m_) [229, 230, 233, 234, 235, 236, 237, 238, 241, 242, 243, 244, 247, 248, 251, 252, 253, 255, 263, 264] e3 x3 [] (b3 m_) := fun _ _ => by kernel_rfl
def l3 := loop m_ (b3 m_)
theorem q3 (v) : l3 .lim v = b3 .lim (l3 .lim) v := KS.q (k3 .lim) v
def s3 := so m_ (k3 m_)
def f11 : bM := ⟨248, [.v 61 [1]], [], none, [.call 257 [.ptr 3 1, .b], .call 256 [.ptr 3 2]], false⟩
def f12 : bM := fs 230 [.v 6 [1], .q 7] [(2, .ptr 4 0), (3, .ptr 5 0), (4, .ptr 6 0)]
def XO : bJ := .c [.own 7 JV]
def e4 : Spec := ⟨[⟨244, [.q 1012, .z 1012, .b 2, .q 127], [(1, .ptr 0 0), (2, .w), (3, .ptr 1 0), (5, .y), (6, .w)], none, [.mark 2], false⟩, fs 242 [.v 3 [1]] [], f11, fs 241 [.v 6 [2]] [], fs 233 [.v 3 [4]] [], f12, f1], [(0, .c [.ptr 3 0]), (1, XO), (2, .deferred false), (3, o2), (4, .c [.ptr 3 0]), (5, o3), (6, o3), (7, o6)], 8⟩
def x4 : List Spec := [⟨[⟨244, [.q 127], [(1, .ptr 0 0), (3, .ptr 1 0)], none, [.mark 2], false⟩, fs 242 [.v 3 [1]] [], f11, fs 241 [.v 6 [2]] [], fs 233 [.v 3 [4]] [], f12, f1], [(0, .c [.ptr 3 0]), (1, XO), (2, .deferred false), (3, o2), (4, .c [.ptr 3 0]), (5, o3), (6, o3), (7, o6)], 8⟩]
abbrev A4 : Type := Int × Int × Int × Bool × LI × Int × Int × Int × LI × LI × LL × LI × LI × LL × Unit
abbrev B4 : Type := (Bool × LI × Int × Int × Int × LI × LI × LL × LI × LI × LL × Unit)
def b4 (self : A4 -> Option B4) : A4 -> Option B4 := fun v_ => match v_ with
| (nk, x, i, m, m1, m2, m3, m4, m5, m6, m7, m8, m9, m10, ()) =>
 bif decide (i < (IntKind.i64.wrap (4 * (IntKind.i64.wrap (nk + 7))))) then
  bif inB (IntKind.i64.wrap (i - 1)) (m10.length : Int) then
  bif !(decide (nk = 0)) then
  bif decide ((i.tmod nk) = 0) then
   bif inB (rd 0 (rd (List.replicate 4 (0 : Int) : List Int) m10 (IntKind.i64.wrap (i - 1))) 1) 256 then
   bif inB (rd 0 (rd (List.replicate 4 (0 : Int) : List Int) m10 (IntKind.i64.wrap (i - 1))) 2) 256 then
   bif inB (rd 0 (rd (List.replicate 4 (0 : Int) : List Int) m10 (IntKind.i64.wrap (i - 1))) 3) 256 then
   bif inB (rd 0 (rd (List.replicate 4 (0 : Int) : List Int) m10 (IntKind.i64.wrap (i - 1))) 0) 256 then
   (dM.run m_ (x, 2, ())).bind fun r =>
   (aj.l3 m_ (nk, r, i, 0, m, (((((List.replicate 4 (0 : Int) : List Int).set 0 (dX .u8 (rd 0 m5 (rd 0 (rd (List.replicate 4 (0 : Int) : List Int) m10 (IntKind.i64.wrap (i - 1))) 1)) x)).set 1 (rd 0 m5 (rd 0 (rd (List.replicate 4 (0 : Int) : List Int) m10 (IntKind.i64.wrap (i - 1))) 2))).set 2 (rd 0 m5 (rd 0 (rd (List.replicate 4 (0 : Int) : List Int) m10 (IntKind.i64.wrap (i - 1))) 3))).set 3 (rd 0 m5 (rd 0 (rd (List.replicate 4 (0 : Int) : List Int) m10 (IntKind.i64.wrap (i - 1))) 0))), m1, m2, m3, m4, m5, m6, m7, m8, m9, m10, ())).bind fun (nk1, x1, i1, m11, m12, m13, m14, m15, m16, m17, m18, m19, m20, m21, m22, ()) =>
   bif decide (m22.length + ([m12] : List (List Int)).length < 17592186044416) then
   self (nk1, x1, (IntKind.i64.wrap (i1 + 1)), m11, m13, m14, m15, m16, m17, m18, m19, m20, m21, (m22 ++ ([m12] : List (List Int))), ()) else none else none else none else none else none
  else
   bif ((!(decide (nk = 8))) || true) then
   bif ((decide (nk = 8)) && (decide ((i.tmod 8) = 4))) then
    bif inB (rd 0 (rd (List.replicate 4 (0 : Int) : List Int) m10 (IntKind.i64.wrap (i - 1))) 0) 256 then
    bif inB (rd 0 (rd (List.replicate 4 (0 : Int) : List Int) m10 (IntKind.i64.wrap (i - 1))) 1) 256 then
    bif inB (rd 0 (rd (List.replicate 4 (0 : Int) : List Int) m10 (IntKind.i64.wrap (i - 1))) 2) 256 then
    bif inB (rd 0 (rd (List.replicate 4 (0 : Int) : List Int) m10 (IntKind.i64.wrap (i - 1))) 3) 256 then
    (aj.l3 m_ (nk, x, i, 0, m, (((((List.replicate 4 (0 : Int) : List Int).set 0 (rd 0 m5 (rd 0 (rd (List.replicate 4 (0 : Int) : List Int) m10 (IntKind.i64.wrap (i - 1))) 0))).set 1 (rd 0 m5 (rd 0 (rd (List.replicate 4 (0 : Int) : List Int) m10 (IntKind.i64.wrap (i - 1))) 1))).set 2 (rd 0 m5 (rd 0 (rd (List.replicate 4 (0 : Int) : List Int) m10 (IntKind.i64.wrap (i - 1))) 2))).set 3 (rd 0 m5 (rd 0 (rd (List.replicate 4 (0 : Int) : List Int) m10 (IntKind.i64.wrap (i - 1))) 3))), m1, m2, m3, m4, m5, m6, m7, m8, m9, m10, ())).bind fun (nk2, x2, i2, m23, m24, H6, Em, Ih, Lp, Jy, JW, Lr, m32, Ii, NP, ()) =>
    bif decide (NP.length + ([m24] : List (List Int)).length < 17592186044416) then
    self (nk2, x2, (IntKind.i64.wrap (i2 + 1)), m23, H6, Em, Ih, Lp, Jy, JW, Lr, m32, Ii, (NP ++ ([m24] : List (List Int))), ()) else none else none else none else none else none
   else
    (aj.l3 m_ (nk, x, i, 0, m, (rd (List.replicate 4 (0 : Int) : List Int) m10 (IntKind.i64.wrap (i - 1))), m1, m2, m3, m4, m5, m6, m7, m8, m9, m10, ())).bind fun (nk3, x3, i3, PY, NQ, Uj, XP, VB, VD, XQ, WM, WO, WQ, WR, WS, ()) =>
    bif decide (WS.length + ([NQ] : List (List Int)).length < 17592186044416) then
    self (nk3, x3, (IntKind.i64.wrap (i3 + 1)), PY, Uj, XP, VB, VD, XQ, WM, WO, WQ, WR, (WS ++ ([NQ] : List (List Int))), ()) else none else none else none else none
 else
  some (m, m1, m2, m3, m4, m5, m6, m7, m8, m9, m10, ())
theorem k4 : KQ 228 (O m_) [229, 230, 233, 234, 235, 236, 237, 238, 241, 242, 243, 244, 247, 248, 251, 252, 253, 255, 263, 264] e4 x4 [s3 m_] (b4 m_) := fun _ _ => by kernel_rfl
def l4 := loop m_ (b4 m_)
theorem q4 (v) : l4 .lim v = b4 .lim (l4 .lim) v := KS.q (k4 .lim) v
def s4 := so m_ (k4 m_)
def En : bJ := .c [.row rH]
def e5 : Spec := ⟨[fs 261 [.q 12, .z 12, .b 0] [(0, .fn (.yield 0) []), (1, .ptr 1 0), (2, .ptr 2 0), (4, .w)], ⟨244, [.inRange 0, .b 6], [], none, [.mark 3, .mark 4], false⟩, fs 242 [.v 3 [1]] [], ⟨248, [.v 61 [1]], [], none, [.call 257 [.ptr 5 1, .b], .call 256 [.ptr 5 2]], false⟩, fs 241 [.v 6 [2]] [], fs 233 [.v 3 [4]] [], fs 230 [.v 6 [1], .q 7] [(2, .ptr 6 0), (3, .ptr 7 0), (4, .ptr 8 0)], f1], [(0, .loop .ready none 244 [(1, .ptr 9 0)] [138] (wK 510) 3), (1, .c [.own 10 JV]), (2, .c [.w]), (3, .deferred false), (4, .deferred false), (5, .c [.s, .dat (.int .u32), .dat (.int .i32), .dat (.int .u32), .dat qM, .dat qM, .dat qN, .own 5003 rH]), (6, .c [.ptr 5 0]), (7, o3), (8, o3), (9, .c [.ptr 5 0]), (10, .d [.row JV]), (5003, En)], 5004⟩
def x5 : List Spec := [⟨[fs 261 [] [], ⟨244, [.inRange 0, .b 6], [], none, [.mark 1, .mark 2], false⟩, fs 242 [.v 3 [1]] [], f11, fs 241 [.v 6 [2]] [], fs 233 [.v 3 [4]] [], f12, f1], [(0, .loop .ready none 244 [(1, .ptr 7 0)] [138] (wK 510) 1), (1, .deferred false), (2, .deferred false), (3, .c [.s, .dat (.int .u32), .dat (.int .i32), .dat (.int .u32), .dat qM, .dat qM, .dat qN, .own 8 rH]), (4, .c [.ptr 3 0]), (5, o3), (6, o3), (7, .c [.ptr 3 0]), (8, En)], 9⟩]
abbrev A5 : Type := Int × Bool × Int × LI × Int × Int × Int × LI × LI × LL × LI × LI × LL × LL × Unit
abbrev B5 : Type := (Bool × LI × Int × Int × Int × LI × LI × LL × LI × LI × LL × Unit)
def b5 (self : A5 -> Option B5) : A5 -> Option B5 := fun v_ => match v_ with
| (i, m, m1, m2, m3, m4, m5, m6, m7, m8, m9, m10, m11, m12, ()) =>
 bif ay (m11.length : Int) then
 bif decide (i < (m11.length : Int)) then
  bif eX i (m11.length : Int) (m11.length : Int) then
  bif ay ((m11.length : Int) - i) then
  bif ((eX i (IntKind.i64.wrap (i + (mn m1 ((m11.length : Int) - i)))) (IntKind.i64.wrap (i + (mn m1 ((m11.length : Int) - i))))) && (decide ((IntKind.i64.wrap (i + (mn m1 ((m11.length : Int) - i)))) <= (m11.length : Int)))) then
  bif inB 0 ((cut m11 i (IntKind.i64.wrap (i + (mn m1 ((m11.length : Int) - i))))).length : Int) then
  bif inB 1 ((cut m11 i (IntKind.i64.wrap (i + (mn m1 ((m11.length : Int) - i))))).length : Int) then
  bif inB 2 ((cut m11 i (IntKind.i64.wrap (i + (mn m1 ((m11.length : Int) - i))))).length : Int) then
  bif inB 3 ((cut m11 i (IntKind.i64.wrap (i + (mn m1 ((m11.length : Int) - i))))).length : Int) then
  (aB.run m_ (([(cut (rd (List.replicate 4 (0 : Int) : List Int) (cut m11 i (IntKind.i64.wrap (i + (mn m1 ((m11.length : Int) - i))))) 0) 0 4), (cut (rd (List.replicate 4 (0 : Int) : List Int) (cut m11 i (IntKind.i64.wrap (i + (mn m1 ((m11.length : Int) - i))))) 1) 0 4), (cut (rd (List.replicate 4 (0 : Int) : List Int) (cut m11 i (IntKind.i64.wrap (i + (mn m1 ((m11.length : Int) - i))))) 2) 0 4), (cut (rd (List.replicate 4 (0 : Int) : List Int) (cut m11 i (IntKind.i64.wrap (i + (mn m1 ((m11.length : Int) - i))))) 3) 0 4)] : List (List Int)), ())).bind fun r =>
  bif (Nat.ble 1 16 && Nat.ble 16 r.length) then
  bif decide (m12.length + ([(r.take 16)] : List (List Int)).length < 4398046511104) then
  self ((IntKind.i64.wrap (i + m1)), m, m1, m2, m3, m4, m5, m6, m7, m8, m9, m10, m11, (m12 ++ ([(r.take 16)] : List (List Int))), ()) else none else none else none else none else none else none else none else none else none
 else
  some (m, m2, m3, m4, m5, m6, m7, m8, m9, m10, m12, ()) else none
theorem k5 : KQ 228 (O m_) [229, 230, 233, 234, 235, 236, 237, 238, 241, 242, 243, 244, 247, 248, 251, 252, 253, 255, 263, 264] e5 x5 [] (b5 m_) := fun _ _ => by kernel_rfl
def l5 := loop m_ (b5 m_)
theorem q5 (v) : l5 .lim v = b5 .lim (l5 .lim) v := KS.q (k5 .lim) v
def s5 := so m_ (k5 m_)
def Ti : bJ := .c [.s, .dat (.int .u32), .dat (.int .i32), .dat (.int .u32), .dat qM, .dat qM, .dat qN, .own 4 rH]
def e6 : Spec := ⟨[fs 233 [.q 1] [(0, .ptr 0 0)], fs 230 [.v 6 [1], .q 7] [(2, .ptr 1 0), (3, .ptr 2 0), (4, .ptr 3 0)], f1], [(0, o2), (1, .c [.ptr 0 0]), (2, o3), (3, o3)], 4⟩
def x6 : List Spec := [⟨[fs 233 [] [], fs 230 [.v 6 [1], .q 7] [(2, .ptr 0 0), (3, .ptr 1 0), (4, .ptr 2 0)], f1], [(0, .c [.ptr 3 0]), (1, o3), (2, o3), (3, Ti), (4, En)], 5⟩]
abbrev A6 : Type := LI × Int × Int × Int × LI × LI × LL × LI × LI × Unit
abbrev B6 : Type := (LI × LI × LI × Int × Int × Int × LI × LI × LL × LL × Unit)
def b6 (self : A6 -> Option B6) : A6 -> Option B6 := fun v_ => match v_ with
| (m, m1, m2, m3, m4, m5, m6, m7, m8, ()) =>
 bif !(!(decide (m1 = 0))) then
  bif decide (m2 = 0) then
  bif !(!(decide (m1 = 0))) then
   (aj.l1 m_ (0, true, m, m1, (bif decide (m2 = 0) then 1 else m2), m3, m4, m5, m6, m7, m8, ())).bind fun (m9, m10, m11, m12, m13, m14, m15, m16, m17, m18, ()) =>
   bif ay (m10.length : Int) then
   (aj.l2 m_ (0, (IntKind.i64.wrap ((m10.length : Int).tdiv 4)), m9, 4, m10, m11, m12, m13, m14, m15, m16, m17, m18, m10, ([] : List (List Int)), ())).bind fun (nk, m19) =>
   (aj.l4 m_ (nk, 1, nk, m19)).bind fun (JW, Lr, m32, Ii, NP, PY, NQ, Uj, XP, VB, VD, ()) =>
   (aj.l5 m_ (0, JW, 4, Lr, m32, Ii, NP, PY, NQ, Uj, XP, VB, VD, ([] : List (List Int)), ())).bind fun (XQ, WM, WO, WQ, WR, WS, Zd, Yv, m49, m50, m51, ()) =>
   (fQ.run m_ (XQ, ())).bind fun r =>
   bif !(decide ((IntKind.i32.wrap (WQ + (-1))) = 0)) then
    none
   else
    some (m49, m50, WM, r, (IntKind.i32.wrap (WQ + (-1))), WR, WS, Zd, Yv, m51, ()) else none
  else
   bif !(decide ((IntKind.i32.wrap ((bif decide (m2 = 0) then 1 else m2) + (-1))) = 0)) then
    none
   else
    some (m7, m8, m, m1, (IntKind.i32.wrap ((bif decide (m2 = 0) then 1 else m2) + (-1))), m3, m4, m5, m6, ([] : List (List Int)), ()) else none
 else
  some (m7, m8, m, m1, m2, m3, m4, m5, m6, ([] : List (List Int)), ())
theorem k6 : KQ 228 (O m_) [229, 230, 233, 234, 235, 236, 237, 238, 241, 242, 243, 244, 247, 248, 251, 252, 253, 255, 263, 264] e6 x6 [s1 m_, s2 m_, s4 m_, s5 m_] (b6 m_) := fun _ _ => by kernel_rfl
def l6 := loop m_ (b6 m_)
theorem q6 (v) : l6 .lim v = b6 .lim (l6 .lim) v := KS.q (k6 .lim) v
def s6 := so m_ (k6 m_)
def f16 : bM := fs 234 [.q 28, .z 28, .b 0] [(0, .ptr 0 0), (3, .ptr 1 0), (5, .w)]
def o17 : bJ := .c [.s, .dat (.int .u32), .dat (.int .i32), .dat (.int .u32), .dat qM, .dat qM, .dat qN, .own 5 rH]
def e7 : Spec := ⟨[f16, fs 230 [.v 14 [6], .q 15] [(2, .ptr 2 0), (3, .ptr 0 0), (4, .ptr 3 0)], f1], [(0, o3), (1, o3), (2, .c [.ptr 4 0]), (3, o3), (4, o17), (5, En)], 6⟩
def x7 : List Spec := [⟨[fs 234 [] [], fs 230 [.v 14 [6], .q 15] [(2, .ptr 0 0), (3, .ptr 1 0), (4, .ptr 2 0)], f1], [(0, .c [.ptr 3 0]), (1, o3), (2, o3), (3, Ti), (4, En)], 5⟩]
abbrev A7 : Type := Int × LI × LI × LI × LI × Int × Int × Int × LI × LI × LL × LL × Unit
abbrev B7 : Type := (LI × LI × LI × Int × Int × Int × LI × LI × LL × LL × Unit)
def b7 (m_ : aO) (self : A7 -> Option B7) : A7 -> Option B7 := fun v_ => match v_ with
| (t, m, m1, m2) =>
 bif decide (t < 16) then
  bif inB t 16 then
  bif inB t 16 then
  bif inB t 16 then
  self ((IntKind.i64.wrap (t + 1)), (m.set t.toNat (dX .u8 (rd 0 m t) (rd 0 m1 t))), m1, m2) else none else none else none
 else
  some (m, m2)
theorem k7 : KQ 228 (O m_) [229, 230, 233, 234, 235, 236, 237, 238, 241, 242, 243, 244, 247, 248, 251, 252, 253, 255, 263, 264] e7 x7 [] (b7 m_) := fun _ _ => by kernel_rfl
def l7 := loop m_ (b7 m_)
theorem q7 (v) : l7 .lim v = b7 .lim (l7 .lim) v := KS.q (k7 .lim) v
def s7 := so m_ (k7 m_)
def f18 : bM := fs 245 [.v 818 [10,11], .q 819, .b 1, .q 103, .z 12, .b 0] [(0, .fn (.yield 4) []), (1, .ptr 5 0), (9, .slc 6 0 none rH), (10, .w), (11, .w)]
def f19 : bM := ⟨230, [.inRange 4, .b 0, .q 31], [(3, .ptr 0 0), (4, .ptr 7 0)], none, [.mark 8], false⟩
def WT : bJ := .c [.s, .dat (.int .u32), .dat (.int .i32), .dat (.int .u32), .dat qM, .dat qM, .dat qN, .own 6 rH]
def VE : bJ := .loop .busy none 230 [(2, .ptr 2 0), (3, .ptr 0 0)] [18, 19] (wK 122) 8
def f22 : bM := fs 245 [.v 818 [10,11], .q 819, .b 1, .q 103, .z 12, .b 0] [(0, .fn (.yield 3) []), (1, .ptr 4 0), (9, .slc 5 0 none rH), (10, .w), (11, .w)]
def f23 : bM := ⟨230, [.inRange 3, .b 0, .q 31], [(3, .ptr 1 0), (4, .ptr 6 0)], none, [.mark 7], false⟩
def o24 : bJ := .loop .busy none 230 [(2, .ptr 0 0), (3, .ptr 1 0)] [18, 19] (wK 122) 7
def e8 : Spec := ⟨[fs 236 [.q 12, .z 12, .b 0] [(0, .ptr 0 0), (1, .ptr 1 4), (6, .ptr 0 0), (7, .w)], ⟨230, [.v 980 [3], .q 981, .b 1], [(2, .ptr 2 0), (3, .ptr 0 0), (5, .ptr 3 0), (6, .b)], some 4, [], false⟩, f18, f19, f1], [(0, o3), (1, WT), (2, .c [.ptr 1 0]), (3, o3), (4, VE), (5, .c [.ptr 1 0]), (6, En), (7, o3), (8, .deferred false)], 9⟩
def x8 : List Spec := [⟨[fs 236 [] [], ⟨230, [.v 980 [3], .q 981, .b 1], [(2, .ptr 0 0), (3, .ptr 1 0), (5, .ptr 2 0), (6, .b)], some 3, [], false⟩, f22, f23, f1], [(0, .c [.ptr 8 0]), (1, o3), (2, o3), (3, o24), (4, .c [.ptr 8 0]), (5, En), (6, o3), (7, .deferred false), (8, o17)], 9⟩]
abbrev A8 : Type := Int × Bool × Int × Int × Int × Int × LI × LI × Int × Int × Int × LI × LI × LL × LI × LL × LI × Unit
abbrev B8 : Type := (Bool × Int × Int × Int × Int × LI × LI × LL × LI × LI × Int × Int × Int × LI × LI × LL × Unit)
def b8 (m_ : aO) (self : A8 -> Option B8) : A8 -> Option B8 := fun v_ => match v_ with
| (t, last, tp, tq, t1, t2, m, m1, m2, m3, m4, m5, m6, m7, m8, m9, m10, ()) =>
 bif decide (t < 16) then
  bif inB t 16 then
  bif inB (rd 0 m t) 256 then
  bif inB t 16 then
  self ((IntKind.i64.wrap (t + 1)), last, tp, tq, t1, t2, (m.set t.toNat (rd 0 m5 (rd 0 m t))), m1, m2, m3, m4, m5, m6, m7, m8, m9, m10, ()) else none else none else none
 else
  some (last, tp, tq, t1, t2, m, m8, m9, m10, m1, m2, m3, m4, m5, m6, m7, ())
theorem k8 : KQ 228 (O m_) [229, 230, 233, 234, 235, 236, 237, 238, 241, 242, 243, 244, 247, 248, 251, 252, 253, 255, 263, 264] e8 x8 [] (b8 m_) := fun _ _ => by kernel_rfl
def l8 := loop m_ (b8 m_)
theorem q8 (v) : l8 .lim v = b8 .lim (l8 .lim) v := KS.q (k8 .lim) v
def s8 := so m_ (k8 m_)
def e9 : Spec := ⟨[fs 237 [.q 28, .z 28, .b 0] [(0, .ptr 0 0), (1, .w), (4, .ptr 1 0), (9, .w)], ⟨230, [.v 1962 [0], .q 1963, .b 1], [(2, .ptr 2 0), (3, .ptr 0 0), (5, .ptr 3 0), (6, .b)], some 4, [], false⟩, f18, f19, f1], [(0, o3), (1, o3), (2, .c [.ptr 9 0]), (3, o3), (4, VE), (5, .c [.ptr 9 0]), (6, En), (7, o3), (8, .deferred false), (9, WT)], 10⟩
def x9 : List Spec := [⟨[fs 237 [] [], ⟨230, [.v 1962 [0], .q 1963, .b 1], [(2, .ptr 0 0), (3, .ptr 1 0), (5, .ptr 2 0), (6, .b)], some 3, [], false⟩, f22, f23, f1], [(0, .c [.ptr 8 0]), (1, o3), (2, o3), (3, o24), (4, .c [.ptr 8 0]), (5, En), (6, o3), (7, .deferred false), (8, o17)], 9⟩]
abbrev A9 : Type := Int × Int × Bool × Int × Int × Int × Int × LI × LI × LI × LL × LI × LI × Int × Int × Int × LI × LI × LL × Unit
abbrev B9 : Type := (Bool × Int × Int × Int × Int × LI × LI × LL × LI × LI × Int × Int × Int × LI × LI × LL × Unit)
def b9 (m_ : aO) (self : A9 -> Option B9) : A9 -> Option B9 := fun v_ => match v_ with
| (WU, t, last, tp, tq, t1, t2, m, m1, m2) =>
 bif decide (t < 16) then
  bif inB ((IntKind.i64.wrap ((IntKind.i64.wrap (t + (IntKind.i64.wrap (WU * (t.tmod 4))))) + 64)).tmod 16) 16 then
  bif inB t 16 then
  self (WU, (IntKind.i64.wrap (t + 1)), last, tp, tq, t1, t2, (m.set t.toNat (rd 0 m1 ((IntKind.i64.wrap ((IntKind.i64.wrap (t + (IntKind.i64.wrap (WU * (t.tmod 4))))) + 64)).tmod 16))), m1, m2) else none else none
 else
  some (last, tp, tq, t1, t2, m, m2)
theorem k9 : KQ 228 (O m_) [229, 230, 233, 234, 235, 236, 237, 238, 241, 242, 243, 244, 247, 248, 251, 252, 253, 255, 263, 264] e9 x9 [] (b9 m_) := fun _ _ => by kernel_rfl
def l9 := loop m_ (b9 m_)
theorem q9 (v) : l9 .lim v = b9 .lim (l9 .lim) v := KS.q (k9 .lim) v
def s9 := so m_ (k9 m_)
def f25 : bM := ⟨230, [.v 15706 [2], .q 3927, .b 1], [(3, .ptr 1 0), (5, .ptr 4 0)], some 5, [], false⟩
def f26 : bM := fs 245 [.v 818 [10,11], .q 819, .b 1, .q 103, .z 12, .b 0] [(0, .fn (.yield 5) []), (1, .ptr 6 0), (9, .slc 7 0 none rH), (10, .w), (11, .w)]
def f27 : bM := ⟨230, [.inRange 5, .b 0, .q 31], [(3, .ptr 1 0), (4, .ptr 8 0)], none, [.mark 9], false⟩
def o28 : bJ := .c [.s, .dat (.int .u32), .dat (.int .i32), .dat (.int .u32), .dat qM, .dat qM, .dat qN, .own 7 rH]
def o29 : bJ := .loop .busy none 230 [(2, .ptr 10 0), (3, .ptr 1 0)] [18, 19] (wK 122) 9
def e10 : Spec := ⟨[fs 238 [.q 31132, .z 31132, .b 2, .b 1, .q 487, .z 60, .b 0] [(0, .ptr 0 0), (1, .ptr 1 0), (5, .ptr 2 0), (6, .ptr 3 0), (7, .w), (13, .w), (20, .dat JV), (21, .w)], f25, f26, f27, f1], [(0, o28), (1, o3), (2, Yu), (3, o3), (4, o3), (5, o29), (6, .c [.ptr 0 0]), (7, En), (8, o3), (9, .deferred false), (10, .c [.ptr 0 0])], 11⟩
def x10 : List Spec := [⟨[fs 238 [.q 487, .z 60, .b 0] [(0, .ptr 0 0), (1, .ptr 1 0), (5, .ptr 2 0), (6, .ptr 3 0), (13, .w)], f25, f26, f27, f1], [(0, o28), (1, o3), (2, Yu), (3, o3), (4, o3), (5, o29), (6, .c [.ptr 0 0]), (7, En), (8, o3), (9, .deferred false), (10, .c [.ptr 0 0])], 11⟩]
abbrev Yw : Type := Int × Int × LI × Int × Int × Int × Int × Int × LI × Int × Int × Int × LI × LI × LL × LI × LI × LI × LI × LL × LI × Unit
abbrev B10 : Type := (Int × Int × Int × Int × Int × LI × Int × Int × Int × LI × LI × LL × LI × LI × LI × LI × LL × LI × Unit)
def b10 (m_ : aO) (self : Yw -> Option B10) : Yw -> Option B10 := fun v_ => match v_ with
| (i, t, t1, t2, tp, tq, t3, t4, m, m1, m2, m3, m4, m5, m6, m7, m8, m9, m10) =>
 bif decide (t2 < 4) then
  bif inB t2 4 then
  bif inB i 16 then
  bif inB (IntKind.i64.wrap ((IntKind.i64.wrap ((IntKind.i64.wrap (i.tdiv 4)) * 4)) + ((IntKind.i64.wrap (i + t2)).tmod 4))) 16 then
  bif inB (rd 0 t1 t2) 16 then
  bif inB (rd 0 m9 (IntKind.i64.wrap ((IntKind.i64.wrap ((IntKind.i64.wrap (i.tdiv 4)) * 4)) + ((IntKind.i64.wrap (i + t2)).tmod 4)))) 256 then
  bif inB i 16 then
  self (i, t, t1, (IntKind.i64.wrap (t2 + 1)), tp, tq, t3, t4, m, m1, m2, m3, m4, m5, m6, (m7.set i.toNat (dX .u8 (rd 0 m7 i) (rd 0 (rd (List.replicate 256 (0 : Int) : List Int) m6 (rd 0 t1 t2)) (rd 0 m9 (IntKind.i64.wrap ((IntKind.i64.wrap ((IntKind.i64.wrap (i.tdiv 4)) * 4)) + ((IntKind.i64.wrap (i + t2)).tmod 4))))))), m8, m9, m10) else none else none else none else none else none else none
 else
  some (t, tp, tq, t3, t4, m, m1, m2, m3, m4, m5, m6, m7, m8, m9, m10)
theorem k10 : KQ 228 (O m_) [229, 230, 233, 234, 235, 236, 237, 238, 241, 242, 243, 244, 247, 248, 251, 252, 253, 255, 263, 264] e10 x10 [] (b10 m_) := fun _ _ => by kernel_rfl
def l10 := loop m_ (b10 m_)
theorem q10 (v) : l10 .lim v = b10 .lim (l10 .lim) v := KS.q (k10 .lim) v
def s10 := so m_ (k10 m_)
def f30 : bM := fs 245 [.v 818 [10,11], .q 819, .b 1, .q 103, .z 12, .b 0] [(0, .fn (.yield 2) []), (1, .ptr 3 0), (9, .slc 4 0 none rH), (10, .w), (11, .w)]
def f31 : bM := ⟨230, [.inRange 2, .b 0, .q 31], [(3, .ptr 0 0), (4, .ptr 5 0)], none, [.mark 6], false⟩
def o32 : bJ := .loop .busy none 230 [(2, .ptr 7 0), (3, .ptr 0 0)] [18, 19] (wK 122) 6
def e11 : Spec := ⟨[fs 238 [.q 60, .z 60, .b 0] [(0, .ptr 0 0), (1, .ptr 1 0), (5, .ptr 2 0), (6, .ptr 3 0), (13, .w)], f25, f26, f27, f1], [(0, o28), (1, o3), (2, Yu), (3, o3), (4, o3), (5, o29), (6, .c [.ptr 0 0]), (7, En), (8, o3), (9, .deferred false), (10, .c [.ptr 0 0])], 11⟩
def x11 : List Spec := [⟨[fs 238 [] [], ⟨230, [.v 15706 [2], .q 3927, .b 1], [(3, .ptr 0 0), (5, .ptr 1 0)], some 2, [], false⟩, f30, f31, f1], [(0, o3), (1, o3), (2, o32), (3, .c [.ptr 8 0]), (4, En), (5, o3), (6, .deferred false), (7, .c [.ptr 8 0]), (8, Ti)], 9⟩]
abbrev Yx : Type := Int × Int × Int × Int × Int × LI × Int × Int × Int × LI × LI × LL × LI × LI × LI × LI × LL × LI × Unit
abbrev B11 : Type := (Int × Int × Int × Int × LI × LI × LL × LI × LI × Int × Int × Int × LI × LI × LL × Unit)
def b11 (self : Yx -> Option B11) : Yx -> Option B11 := fun v_ => match v_ with
| (t, tp, tq, t1, t2, m, m1, m2, m3, m4, m5, m6, m7, m8, m9, m10, m11, m12, ()) =>
 bif decide (t < 16) then
  bif inB t 16 then
  (aj.l10 m_ (t, t, m8, 0, tp, tq, t1, t2, m, m1, m2, m3, m4, m5, m6, (m7.set t.toNat 0), m8, m9, m10, m11, m12, ())).bind fun (t3, WV) =>
  self ((IntKind.i64.wrap (t3 + 1)), WV) else none
 else
  some (tp, tq, t1, t2, m7, m10, m11, m12, m, m1, m2, m3, m4, m5, m6, ())
theorem k11 : KQ 228 (O m_) [229, 230, 233, 234, 235, 236, 237, 238, 241, 242, 243, 244, 247, 248, 251, 252, 253, 255, 263, 264] e11 x11 [s10 m_] (b11 m_) := fun _ _ => by kernel_rfl
def Q9 := loop m_ (b11 m_)
theorem q11 (v) : Q9 .lim v = b11 .lim (Q9 .lim) v := KS.q (k11 .lim) v
def s11 := so m_ (k11 m_)
def f33 : bM := ⟨230, [.inRange 0, .b 0, .q 31], [(3, .ptr 3 0), (4, .ptr 4 0)], none, [.mark 5], false⟩
def o34 : bJ := .c [.s, .dat (.int .u32), .dat (.int .i32), .dat (.int .u32), .dat qM, .dat qM, .dat qN, .own 2 rH]
def e12 : Spec := ⟨[f16, ⟨230, [.v 3927 [1], .b 1], [], some 2, [], false⟩, f30, f31, f1], [(0, o3), (1, o3), (2, o32), (3, .c [.ptr 8 0]), (4, En), (5, o3), (6, .deferred false), (7, .c [.ptr 8 0]), (8, Ti)], 9⟩
def x12 : List Spec := [⟨[fs 234 [] [], ⟨230, [.v 3927 [1], .b 1], [], some 0, [], false⟩, fs 245 [.v 818 [10,11], .q 819, .b 1, .q 103, .z 12, .b 0] [(0, .fn (.yield 0) []), (1, .ptr 1 0), (9, .slc 2 0 none rH), (10, .w), (11, .w)], f33, f1], [(0, .loop .busy none 230 [(2, .ptr 6 0), (3, .ptr 3 0)] [18, 19] (wK 122) 5), (1, .c [.ptr 7 0]), (2, En), (3, o3), (4, o3), (5, .deferred false), (6, .c [.ptr 7 0]), (7, o34)], 8⟩]
abbrev Yy : Type := Int × Int × Int × Int × Int × LI × LI × LL × LI × LI × Int × Int × Int × LI × LI × LL × Unit
abbrev Yz : Type := (Int × Int × Int × Int × LL × LI × LI × LI × Int × Int × Int × LI × LI × LL × Unit)
def b12 (m_ : aO) (self : Yy -> Option Yz) : Yy -> Option Yz := fun v_ => match v_ with
| (t, tp, tq, t1, t2, m, m1, m2, m3) =>
 bif decide (t < 16) then
  bif inB t 16 then
  bif inB t 16 then
  bif inB t 16 then
  self ((IntKind.i64.wrap (t + 1)), tp, tq, t1, t2, (m.set t.toNat (dX .u8 (rd 0 m t) (rd 0 m1 t))), m1, m2, m3) else none else none else none
 else
  some (tp, tq, t1, t2, m2, m, m3)
theorem k12 : KQ 228 (O m_) [229, 230, 233, 234, 235, 236, 237, 238, 241, 242, 243, 244, 247, 248, 251, 252, 253, 255, 263, 264] e12 x12 [] (b12 m_) := fun _ _ => by kernel_rfl
def l12 := loop m_ (b12 m_)
theorem q12 (v) : l12 .lim v = b12 .lim (l12 .lim) v := KS.q (k12 .lim) v
def s12 := so m_ (k12 m_)
def e13 : Spec := ⟨[fs 245 [.q 12, .z 12, .b 0] [(0, .fn (.yield 0) []), (1, .ptr 1 0), (9, .slc 2 0 none rH), (10, .w), (11, .w)], f33, f1], [(0, .loop .ready none 230 [(2, .ptr 6 0), (3, .ptr 3 0)] [18, 19] (wK 122) 5), (1, .c [.ptr 7 0]), (2, En), (3, o3), (4, o3), (5, .deferred false), (6, .c [.ptr 7 0]), (7, o34)], 8⟩
def x13 : List Spec := [⟨[fs 245 [] [], ⟨230, [.inRange 2, .b 0, .q 31], [(3, .ptr 0 0), (4, .ptr 1 0)], none, [.mark 3], false⟩, f1], [(0, o3), (1, o3), (2, .loop .ready none 230 [(2, .ptr 4 0), (3, .ptr 0 0)] [18, 19] (wK 122) 3), (3, .deferred false), (4, .c [.ptr 5 0]), (5, WT), (6, En)], 7⟩]
abbrev YA : Type := Int × Int × Int × Int × LL × LI × LI × LI × Int × Int × Int × LI × LI × LL × Unit
abbrev YB : Type := (LI × LI × LI × Int × Int × Int × LI × LI × LL × LL × Unit)
def b13 (self : YA -> Option YB) : YA -> Option YB := fun v_ => match v_ with
| (tp, tq, t, t1, m, m1, m2, m3, m4, m5, m6, m7, m8, m9, ()) =>
 bif decide (t1 < t) then
  bif inB t1 tq then
  bif ay (m.length : Int) then
  (aj.l8 m_ (0, decide (t1 = (IntKind.i64.wrap ((m.length : Int) - 2))), tp, tq, t, t1, m1, m3, m4, m5, m6, m7, m8, m9, (rd (List.replicate 16 (0 : Int) : List Int) m (tp + t1)), m, m2, ())).bind fun (last, WV, tq1, t2, t3, m10, m11) =>
  (aj.l9 m_ (4, 0, last, WV, tq1, t2, t3, m10, m10, m11)).bind fun (Q_, YC, YD, t4, t5, m21, m22, m23, m24, H6, Em, Ih, Lp, Jy, JW, Lr, ()) =>
  bif !Q_ then
   (aj.Q9 m_ (0, YC, YD, t4, t5, H6, Em, Ih, Lp, Jy, JW, Lr, m21, (((((List.replicate 4 (0 : Int) : List Int).set 0 2).set 1 3).set 2 1).set 3 1), m21, m22, m23, m24, ())).bind fun (tp3) =>
   (aj.l12 m_ (0, tp3)).bind fun (tp4, tq4, t8, t9, WO) =>
   self (tp4, tq4, t8, (IntKind.i64.wrap (t9 + 1)), WO)
  else
   (aj.l12 m_ (0, YC, YD, t4, t5, m21, m22, m23, m24, H6, Em, Ih, Lp, Jy, JW, Lr, ())).bind fun (tp5, tq5, t10, t11, YE) =>
   self (tp5, tq5, t10, (IntKind.i64.wrap (t11 + 1)), YE) else none else none
 else
  some (m1, m2, m3, m4, m5, m6, m7, m8, m9, m, ())
theorem k13 : KQ 228 (O m_) [229, 230, 233, 234, 235, 236, 237, 238, 241, 242, 243, 244, 247, 248, 251, 252, 253, 255, 263, 264] e13 x13 [s8 m_, s9 m_, s11 m_, s12 m_] (b13 m_) := fun _ _ => by kernel_rfl
def Ls := loop m_ (b13 m_)
theorem q13 (v) : Ls .lim v = b13 .lim (Ls .lim) v := KS.q (k13 .lim) v
def s13 := so m_ (k13 m_)
def e14 : Spec := ⟨[fs 230 [.q 1] [(0, .ptr 0 0), (1, .dat rH)], f1], [(0, o2)], 1⟩
def x14 : List Spec := [⟨[⟨230, [.q 63], [(4, .ptr 0 0)], none, [.mark 1], false⟩, f1], [(0, o3), (1, .deferred false)], 2⟩]
abbrev YF : Type := LI × LI × Int × Int × Int × LI × LI × LL × Unit
abbrev YG : Type := (LI × Unit)
def b14 (self : YF -> Option YG) : YF -> Option YG := fun v_ => match v_ with
| (b, m, m1, m2, m3, m4, m5, m6, ()) =>
 (aj.l6 m_ (m, m1, m2, m3, m4, m5, m6, b, (List.replicate 16 (0 : Int)), ())).bind fun (m7, m8, m9, m10, m11, m12, m13, m14, m15, m16, ()) =>
 bif inB 0 (m16.length : Int) then
 (aj.l7 m_ (0, m7, (rd (List.replicate 16 (0 : Int) : List Int) m16 0), m8, m9, m10, m11, m12, m13, m14, m15, m16, ())).bind fun (m17, m18, m19, m20, m21, m22, m23, m24, H6, Em, ()) =>
 bif eX 1 (Em.length : Int) (Em.length : Int) then
 bif ay ((Em.length : Int) - 1) then
 (aj.Ls m_ (1, ((Em.length : Int) - 1), ((Em.length : Int) - 1), 0, Em, m17, m18, m19, m20, m21, m22, m23, m24, H6, ())).bind fun (Ih, Lp) =>
 some (Ih, ()) else none else none else none
theorem k14 : KQ 228 (O m_) [229, 230, 233, 234, 235, 236, 237, 238, 241, 242, 243, 244, 247, 248, 251, 252, 253, 255, 263, 264] e14 x14 [s6 m_, s7 m_, s13 m_] (b14 m_) := fun _ _ => by kernel_rfl
def Jz := loop m_ (b14 m_)
theorem Ze (v) : Jz .lim v = b14 .lim (Jz .lim) v := KS.q (k14 .lim) v
def s14 := so m_ (k14 m_)
def run : (List Int) × (List Int) × Unit -> Option ((List Int) × Int × Unit) := fun v_ => match v_ with
| (key, s, ()) =>
 bif ay (key.length : Int) then
 bif ((!(!(decide ((key.length : Int) = 16)))) || (ay (key.length : Int))) then
 bif ((!(decide ((key.length : Int) = 16))) && (!(decide ((key.length : Int) = 32)))) then
  some (([] : List Int), 13, ())
 else
  bif ay (s.length : Int) then
  bif !(decide ((s.length : Int) = 16)) then
   some (([] : List Int), 10, ())
  else
   bif (Nat.ble 1 16 && Nat.ble 16 s.length) then
   (aj.Jz m_ ((s.take 16), key, 0, 0, 0, (List.replicate 256 (0 : Int)), (List.replicate 256 (0 : Int)), (List.replicate 16 (List.replicate 256 (0 : Int) : List Int)), ())).bind fun (m, ()) =>
   some (((m.drop 0).take 16), 0, ()) else none else none else none else none
theorem k : KT (O m_) [229, 230, 233, 234, 235, 236, 237, 238, 241, 242, 243, 244, 247, 248, 251, 252, 253, 255, 263, 264] ⟨228, [.one .str, .one .str], .jo [.sh (.one .str), .sh (.one (.int .i64))], run m_⟩ [s14 m_] := fun _ => by kernel_rfl
def c := co (k m_)
end aj

namespace iQ
def O (m_ : aO) : OO P := f_ []
def e0 : Spec := ⟨[fs 246 [.q 12, .z 12, .b 0] [(0, .fn (.yield 0) []), (1, .ptr 1 0), (3, .w)], ⟨232, [.inRange 0, .b 0, .q 31], [(4, .ptr 2 0), (5, .ptr 3 0)], none, [.mark 4], false⟩], [(0, .loop .ready none 232 [(4, .ptr 2 0), (5, .ptr 3 0)] [15, 16] (wK 122) 4), (1, .c [.oy 5]), (2, .c [.oy 5]), (3, .c [.y]), (4, .deferred false), (5, .c [.ry])], 6⟩
def x0 : List Spec := [⟨[fs 246 [] [], ⟨232, [.inRange 2, .b 0, .q 31], [(4, .ptr 0 0), (5, .ptr 1 0)], none, [.mark 3], false⟩], [(0, .c [.oy 4]), (1, .c [.y]), (2, .loop .ready none 232 [(4, .ptr 0 0), (5, .ptr 1 0)] [15, 16] (wK 122) 3), (3, .deferred false), (4, .c [.ry])], 5⟩]
abbrev A0 : Type := Int × Int × LI × Unit
abbrev B0 : Type := (Int × LI × Unit)
def b0 (m_ : aO) (self : A0 -> Option B0) : A0 -> Option B0 := fun v_ => match v_ with
| (i, m, m1, ()) =>
 bif decide (i >= 0) then
  bif inB i (m1.length : Int) then
  bif inB i (m1.length : Int) then
  self ((IntKind.i64.wrap (i - 1)), (iR .u8 (rd 0 m1 i) 7), (m1.set i.toNat (Et .u8 (jP .u8 (rd 0 m1 i) 1) m)), ()) else none else none
 else
  some (m, m1, ())
theorem k0 : KQ 232 (O m_) [240] e0 x0 [] (b0 m_) := fun _ _ => by kernel_rfl
def l0 := loop m_ (b0 m_)
theorem q0 (v) : l0 .lim v = b0 .lim (l0 .lim) v := KS.q (k0 .lim) v
def s0 := so m_ (k0 m_)
def run : (List Int) × Unit -> Option ((List Int) × Int × Unit) := fun v_ => match v_ with
| (b, ()) =>
 bif ay (b.length : Int) then
 bif !(decide ((b.length : Int) = 16)) then
  some (([] : List Int), 10, ())
 else
  bif ay (b.length : Int) then
  (iQ.l0 m_ ((IntKind.i64.wrap ((b.length : Int) - 1)), 0, b, ())).bind fun (m, m1, ()) =>
  bif inB 15 (m1.length : Int) then
  bif inB 15 (m1.length : Int) then
  some ((m1.set 15 (dX .u8 (rd 0 m1 15) (IntKind.u8.wrap (m * 135)))), 0, ()) else none else none else none else none
theorem k : KT (O m_) [240] ⟨232, [.one .str], .jo [.sh (.one .str), .sh (.one (.int .i64))], run m_⟩ [s0 m_] := fun _ => by kernel_rfl
def c := co (k m_)
end iQ

namespace jJ
def O : OO P := f_ [iQ.c m_]
def run : (List Int) × Unit -> Option (List Int) := fun v_ => match v_ with
| (b, ()) =>
 (iQ.run m_ (b, ())).bind fun (r, r1, ()) =>
 some r
theorem k : KT (O m_) [] ⟨227, [.one .str], .one (.sh (.one .str)), run m_⟩ [] := fun _ => by kernel_rfl
def c := co (k m_)
end jJ

namespace qc
def O : OO P := f_ [iC.c m_, jJ.c m_, aj.c m_]
def run : (List Int) × Unit -> Option (Ui × Int × Unit) := fun v_ => match v_ with
| (key, ()) =>
 (iC.run m_ (16, ())).bind fun r =>
 (aj.run m_ (key, r, ())).bind fun (r1, r2, ()) =>
 bif !(decide (r2 = 0)) then
  some (WL, 13, ())
 else
  (jJ.run m_ (r1, ())).bind fun r3 =>
  (jJ.run m_ (r3, ())).bind fun r4 =>
  some ((key, (r3, r4)), 0, ())
theorem k : KT (O m_) [] ⟨224, [.one .str], .jo [.sh (.ag Zc), .sh (.one (.int .i64))], run m_⟩ [] := fun _ => by kernel_rfl
def c := co (k m_)
end qc

namespace nU
def O : OO P := f_ [qc.c m_]
def run : (List Int) × (List (List Int)) × Unit -> Option (Ui × (List Int) × Int × Unit) := fun v_ => match v_ with
| (key, ad, ()) =>
 bif ay (key.length : Int) then
 bif ((!(!(decide ((key.length : Int) = 32)))) || (ay (key.length : Int))) then
 bif ((!(decide ((key.length : Int) = 32))) && (!(decide ((key.length : Int) = 64)))) then
  some (WL, ([] : List Int), 13, ())
 else
  bif ay (ad.length : Int) then
  bif decide ((ad.length : Int) >= 127) then
   some (WL, ([] : List Int), 18, ())
  else
   bif ay (key.length : Int) then
   bif eX 0 (IntKind.i64.wrap ((key.length : Int).tdiv 2)) (key.length : Int) then
   (qc.run m_ ((cut key 0 (IntKind.i64.wrap ((key.length : Int).tdiv 2))), ())).bind fun (r, r1, ()) =>
   bif ay (key.length : Int) then
   bif eX (IntKind.i64.wrap ((key.length : Int).tdiv 2)) (key.length : Int) (key.length : Int) then
   some (r, (cut key (IntKind.i64.wrap ((key.length : Int).tdiv 2)) (key.length : Int)), r1, ()) else none else none else none else none else none else none else none
theorem k : KT (O m_) [] ⟨219, [.one .str, .one (.lst .str)], .jo [.sh (.ag Zc), .sh (.one .str), .sh (.one (.int .i64))], run m_⟩ [] := fun _ => by kernel_rfl
def c := co (k m_)
end nU

namespace fF
def O (m_ : aO) : OO P := f_ []
def e0 : Spec := ⟨[fs 221 [.q 116, .z 116, .b 0, .q 15] [(1, .s), (5, .oy 0), (10, .w), (11, .w)]], [(0, .c [.ry])], 1⟩
def x0 : List Spec := [⟨[fs 221 [.q 15] [(5, .oy 0)]], [(0, .c [.ry])], 1⟩]
abbrev A0 : Type := LI × Int × Int × LI × Unit
abbrev B0 : Type := (LI × Unit)
def b0 (m_ : aO) (self : A0 -> Option B0) : A0 -> Option B0 := fun v_ => match v_ with
| (b, t, t1, m, ()) =>
 bif decide (t1 < t) then
  bif inB t1 (m.length : Int) then
  bif inB t1 (b.length : Int) then
  bif inB t1 (m.length : Int) then
  self (b, t, (IntKind.i64.wrap (t1 + 1)), (m.set t1.toNat (dX .u8 (rd 0 m t1) (rd 0 b t1))), ()) else none else none else none
 else
  some (m, ())
theorem k0 : KQ 221 (O m_) [] e0 x0 [] (b0 m_) := fun _ _ => by kernel_rfl
def l0 := loop m_ (b0 m_)
theorem q0 (v) : l0 .lim v = b0 .lim (l0 .lim) v := KS.q (k0 .lim) v
def s0 := so m_ (k0 m_)
def run : (List Int) × (List Int) × Unit -> Option (List Int) := fun v_ => match v_ with
| (a, b, ()) =>
 bif ay (a.length : Int) then
 (fF.l0 m_ (b, (a.length : Int), 0, a, ())).bind fun (m, ()) =>
 some m else none
theorem k : KT (O m_) [] ⟨221, [.one .str, .one .str], .one (.sh (.one .str)), run m_⟩ [s0 m_] := fun _ => by kernel_rfl
def c := co (k m_)
end fF

namespace cu
def O : OO P := f_ [fF.c m_, iC.c m_, aj.c m_]
def f0 : bM := ⟨226, [.inRange 0, .b 0, .q 15], [(5, .ptr 3 0)], none, [.mark 4], false⟩
def o1 : bJ := .loop .ready none 226 [(2, .ptr 5 0), (5, .ptr 3 0)] [11] (wK 58) 4
def e0 : Spec := ⟨[fs 239 [.q 8, .z 8, .b 0, .q 3] [(0, .fn (.yield 0) []), (1, .ptr 1 0), (2, .ptr 2 0)], f0], [(0, o1), (1, .c [.s]), (2, .c [.s, .s, .s]), (3, .c [.s]), (4, .deferred false), (5, .c [.s, .s, .s])], 6⟩
def x0 : List Spec := [⟨[fs 239 [.q 3] [(0, .fn (.yield 0) []), (1, .ptr 1 0), (2, .ptr 2 0)], f0], [(0, o1), (1, .c [.s]), (2, .c [.s, .s, .s]), (3, .c [.s]), (4, .deferred false), (5, .c [.s, .s, .s])], 6⟩]
abbrev A0 : Type := LI × LI × LI × LI × LI × LI × LI × LI × Unit
abbrev B0 : Type := (LI × LI × LI × LI × LI × LI × LI × LI × Unit)
def b0 (self : A0 -> Option B0) : A0 -> Option B0 := fun v_ => match v_ with
| (m, m1, m2, m3, m4, m5, m6, m7, ()) =>
 bif ay (m.length : Int) then
 bif decide ((m.length : Int) > 16) then
  bif eX 0 16 (m.length : Int) then
  (fF.run m_ (m4, (cut m 0 16), ())).bind fun r =>
  (aj.run m_ (m5, r, ())).bind fun (r1, r2, ()) =>
  bif eX 16 (m.length : Int) (m.length : Int) then
  self ((cut m 16 (m.length : Int)), m1, m2, m3, r1, m5, m6, m7, ()) else none else none
 else
  some (m, m1, m2, m3, m4, m5, m6, m7, ()) else none
theorem k0 : KQ 226 (O m_) [231] e0 x0 [] (b0 m_) := fun _ _ => by kernel_rfl
def l0 := loop m_ (b0 m_)
theorem q0 (v) : l0 .lim v = b0 .lim (l0 .lim) v := KS.q (k0 .lim) v
def s0 := so m_ (k0 m_)
def run : Ui × (List Int) × Unit -> Option (List Int) := fun v_ => match v_ with
| (m, s, ()) =>
 (iC.run m_ (16, ())).bind fun r =>
 (cu.l0 m_ (s, m.1, m.2.1, m.2.2, r, m.1, m.2.1, m.2.2, ())).bind fun (m1, m2, m3, m4, m5, m6, m7, m8, ()) =>
 bif ay (m1.length : Int) then
 bif decide ((m1.length : Int) = 16) then
  (fF.run m_ (m1, m3, ())).bind fun r1 =>
  (fF.run m_ (m5, r1, ())).bind fun r2 =>
  (aj.run m_ (m6, r2, ())).bind fun (r3, r4, ()) =>
  some r3
 else
  bif decide (m1.length + ([128] : List Int).length <= maxStr) then
  bif ay (m1.length : Int) then
  (iC.run m_ ((IntKind.i64.wrap (15 - (m1.length : Int))), ())).bind fun r5 =>
  bif decide ((m1 ++ ([128] : List Int)).length + r5.length <= maxStr) then
  (fF.run m_ (((m1 ++ ([128] : List Int)) ++ r5), m4, ())).bind fun r6 =>
  (fF.run m_ (m5, r6, ())).bind fun r7 =>
  (aj.run m_ (m6, r7, ())).bind fun (r8, r9, ()) =>
  some r8 else none else none else none else none
theorem k : KT (O m_) [231] ⟨226, [.ag Zc, .one .str], .one (.sh (.one .str)), run m_⟩ [s0 m_] := fun _ => by kernel_rfl
def c := co (k m_)
end cu

namespace dS
def O : OO P := f_ [fF.c m_, iC.c m_, cu.c m_, jJ.c m_]
def e0 : Spec := ⟨[fs 222 [.q 500, .z 500, .b 0, .q 63] [(2, .ptr 0 0), (5, .s), (6, .s), (30, .t), (31, .w), (32, .w)]], [(0, .c [.s, .s, .s])], 1⟩
def x0 : List Spec := [⟨[fs 222 [.q 63] [(2, .ptr 0 0), (5, .s), (6, .s)]], [(0, .c [.s, .s, .s])], 1⟩]
abbrev A0 : Type := LI × LI × LL × Int × Int × LI × LI × LI × Unit
abbrev B0 : Type := (LI × LI × LI × LI × LI × Unit)
def b0 (self : A0 -> Option B0) : A0 -> Option B0 := fun v_ => match v_ with
| (d, s, t, t1, t2, m, m1, m2, ()) =>
 bif decide (t2 < t1) then
  bif inB t2 (t.length : Int) then
  (jJ.run m_ (d, ())).bind fun r =>
  (cu.run m_ ((m, (m1, m2)), (rd ([] : List Int) t t2), ())).bind fun r1 =>
  (fF.run m_ (r, r1, ())).bind fun r2 =>
  self (r2, s, t, t1, (IntKind.i64.wrap (t2 + 1)), m, m1, m2, ()) else none
 else
  some (d, s, m, m1, m2, ())
theorem k0 : KQ 222 (O m_) [] e0 x0 [] (b0 m_) := fun _ _ => by kernel_rfl
def l0 := loop m_ (b0 m_)
theorem q0 (v) : l0 .lim v = b0 .lim (l0 .lim) v := KS.q (k0 .lim) v
def s0 := so m_ (k0 m_)
def run : Ui × (List (List Int)) × Unit -> Option (List Int) := fun v_ => match v_ with
| (m, l, ()) =>
 bif ay (l.length : Int) then
 bif decide ((l.length : Int) = 0) then
  (iC.run m_ (15, ())).bind fun r =>
  bif decide (r.length + ([1] : List Int).length <= maxStr) then
  (cu.run m_ (m, (r ++ ([1] : List Int)), ())).bind fun r1 =>
  some r1 else none
 else
  (iC.run m_ (16, ())).bind fun r2 =>
  (cu.run m_ (m, r2, ())).bind fun r3 =>
  bif ay (l.length : Int) then
  bif inB (IntKind.i64.wrap ((l.length : Int) - 1)) (l.length : Int) then
  bif ay (l.length : Int) then
  bif eX 0 (IntKind.i64.wrap ((l.length : Int) - 1)) (l.length : Int) then
  bif ay ((cut l 0 (IntKind.i64.wrap ((l.length : Int) - 1))).length : Int) then
  (dS.l0 m_ (r3, (rd ([] : List Int) l (IntKind.i64.wrap ((l.length : Int) - 1))), (cut l 0 (IntKind.i64.wrap ((l.length : Int) - 1))), ((cut l 0 (IntKind.i64.wrap ((l.length : Int) - 1))).length : Int), 0, m.1, m.2.1, m.2.2, ())).bind fun (d, s, m1, m2, m3, ()) =>
  bif ay (s.length : Int) then
  bif decide ((IntKind.i64.wrap ((s.length : Int) - 16)) >= 0) then
   bif eX 0 (IntKind.i64.wrap ((s.length : Int) - 16)) (s.length : Int) then
   bif eX (IntKind.i64.wrap ((s.length : Int) - 16)) (s.length : Int) (s.length : Int) then
   (fF.run m_ ((cut s (IntKind.i64.wrap ((s.length : Int) - 16)) (s.length : Int)), d, ())).bind fun r4 =>
   bif decide ((cut s 0 (IntKind.i64.wrap ((s.length : Int) - 16))).length + r4.length <= maxStr) then
   (cu.run m_ ((m1, (m2, m3)), ((cut s 0 (IntKind.i64.wrap ((s.length : Int) - 16))) ++ r4), ())).bind fun r5 =>
   some r5 else none else none else none
  else
   bif decide (s.length + ([128] : List Int).length <= maxStr) then
   bif ay (s.length : Int) then
   (iC.run m_ ((IntKind.i64.wrap (15 - (s.length : Int))), ())).bind fun r6 =>
   bif decide ((s ++ ([128] : List Int)).length + r6.length <= maxStr) then
   (jJ.run m_ (d, ())).bind fun r7 =>
   (fF.run m_ (((s ++ ([128] : List Int)) ++ r6), r7, ())).bind fun r8 =>
   (cu.run m_ ((m1, (m2, m3)), r8, ())).bind fun r9 =>
   some r9 else none else none else none else none else none else none else none else none else none else none
theorem k : KT (O m_) [] ⟨222, [.ag Zc, .one (.lst .str)], .one (.sh (.one .str)), run m_⟩ [s0 m_] := fun _ => by kernel_rfl
def c := co (k m_)
end dS

namespace ah
def xs : List (FuncId × XK) := [(254, .load .u32), (265, .store), (267, .Dq .disable), (268, .cas .i32), (269, .Dq .enable), (270, .Dt .acquire), (272, .Dt .releaseMerge), (273, .add .i32)]
theorem Q8 : ∀ x ∈ xs, x.2.OK P x.1 := ac ⟨_, Go.Proofs.Tryz.func254, by kernel_rfl, by kernel_rfl, by kernel_rfl, by kernel_rfl⟩ (ac ⟨_, Go.Proofs.Tryz.func265, by kernel_rfl, by kernel_rfl, by kernel_rfl, by kernel_rfl⟩ (ac ⟨_, Go.Proofs.Tryz.func267, by kernel_rfl, by kernel_rfl, by kernel_rfl, by kernel_rfl⟩ (ac ⟨_, Go.Proofs.Tryz.func268, by kernel_rfl, by kernel_rfl, by kernel_rfl, by kernel_rfl⟩ (ac ⟨_, Go.Proofs.Tryz.func269, by kernel_rfl, by kernel_rfl, by kernel_rfl, by kernel_rfl⟩ (ac ⟨_, Go.Proofs.Tryz.func270, by kernel_rfl, by kernel_rfl, by kernel_rfl, by kernel_rfl⟩ (ac ⟨_, Go.Proofs.Tryz.func272, by kernel_rfl, by kernel_rfl, by kernel_rfl, by kernel_rfl⟩ (ac ⟨_, Go.Proofs.Tryz.func273, by kernel_rfl, by kernel_rfl, by kernel_rfl, by kernel_rfl⟩ (an))))))))
def O : OO P := ZH (f_ [oQ.c m_, dM.c m_, aB.c m_, fQ.c m_]) (ZI Q8)
def f0 : bM := ⟨248, [.v 61 [1]], [], none, [.call 257 [.ptr 0 1, .b], .call 256 [.ptr 0 2]], false⟩
def o1 : bJ := .c [.s, .dat (.int .u32), .dat (.int .i32), .dat (.int .u32), .dat qM, .dat qM, .dat qN, .own 8 rH]
def o2 : bJ := .c [.dat rH]
def o3 : bJ := .c [.row rH]
def f4 : bM := fs 242 [.v 2 [1], .q 3] [(0, .ptr 1 0)]
def f5 : bM := fs 230 [.v 6 [1], .q 7] [(2, .ptr 2 0), (3, .ptr 3 0), (4, .ptr 4 0)]
def f6 : bM := fs 225 [.v 8132 [2,3,4], .q 8133, .b 1, .z 1016, .b 0, .q 255] [(2, .w), (8, .ptr 0 0), (10, .ptr 5 0), (11, .oy 6)]
def o7 : bJ := .c [.s, .dat (.int .u32), .dat (.int .i32), .dat (.int .u32), .dat qM, .dat qM, .dat qN, .own 7 rH]
def e0 : Spec := ⟨[fs 243 [.q 13116, .z 13116, .b 2, .b 1, .q 103, .z 12, .b 0] [(0, .ptr 0 0), (2, .w), (6, .w), (25, .oy 1), (26, .w), (27, .w)], fs 242 [.v 2 [1], .q 3] [(0, .ptr 2 0)], f0, fs 241 [.v 6 [2]] [], fs 233 [.v 3 [4]] [], fs 230 [.v 6 [1], .q 7] [(2, .ptr 3 0), (3, .ptr 4 0), (4, .ptr 5 0)], fs 225 [.v 8132 [2,3,4], .q 8133, .b 1, .z 1016, .b 0, .q 255] [(2, .w), (8, .ptr 0 0), (10, .ptr 6 0), (11, .oy 7)]], [(0, o1), (1, .c [.ry]), (2, .c [.ptr 0 0]), (3, .c [.ptr 0 0]), (4, o2), (5, o2), (6, o2), (7, .d [.ry]), (8, o3)], 9⟩
def x0 : List Spec := [⟨[fs 243 [.q 103, .z 12, .b 0] [(0, .ptr 0 0), (6, .w)], f4, f0, fs 241 [.v 6 [2]] [], fs 233 [.v 3 [4]] [], f5, f6], [(0, o7), (1, .c [.ptr 0 0]), (2, .c [.ptr 0 0]), (3, o2), (4, o2), (5, o2), (6, .d [.ry]), (7, o3)], 8⟩]
abbrev A0 : Type := Int × Int × Int × Int × Bool × Int × LI × Int × Int × Int × LI × LI × LL × LI × LI × LI × LI × LI × LL × Unit
abbrev B0 : Type := (Int × Bool × Int × LI × Int × Int × Int × LI × LI × LL × LI × LI × LI × LI × LL × Unit)
def b0 (self : A0 -> Option B0) : A0 -> Option B0 := fun v_ => match v_ with
| (i, t, t1, t2, m, n, m1, m2, m3, m4, m5, m6, m7, m8, m9) =>
 bif decide (t2 < t1) then
  bif inB t2 (m8.length : Int) then
  (dM.run m_ ((IntKind.u8.wrap i), (rd 0 m8 t2), ())).bind fun r =>
  bif inB (rd 0 m8 t2) 16 then
  bif inB i 256 then
  self (i, t, t1, (IntKind.i64.wrap (t2 + 1)), m, n, m1, m2, m3, m4, m5, m6, (m7.set ((rd 0 m8 t2).toNat) ((rd (List.replicate 256 (0 : Int) : List Int) m7 (rd 0 m8 t2)).set i.toNat r)), m8, m9) else none else none else none
 else
  some (t, m, n, m1, m2, m3, m4, m5, m6, m7, m9)
theorem k0 : KQ 225 (O m_) [229, 230, 233, 234, 235, 236, 237, 238, 241, 242, 243, 244, 247, 248, 251, 252, 253, 255, 263, 264] e0 x0 [] (b0 m_) := fun _ _ => by kernel_rfl
def l0 := loop m_ (b0 m_)
theorem q0 (v) : l0 .lim v = b0 .lim (l0 .lim) v := KS.q (k0 .lim) v
def s0 := so m_ (k0 m_)
def e1 : Spec := ⟨[fs 243 [.q 12, .z 12, .b 0] [(0, .ptr 0 0), (6, .w)], f4, f0, fs 241 [.v 6 [2]] [], fs 233 [.v 3 [4]] [], f5, f6], [(0, o7), (1, .c [.ptr 0 0]), (2, .c [.ptr 0 0]), (3, o2), (4, o2), (5, o2), (6, .d [.ry]), (7, o3)], 8⟩
def x1 : List Spec := [⟨[fs 243 [] [], fs 242 [.v 2 [1], .q 3] [(0, .ptr 0 0)], ⟨248, [.v 61 [1]], [], none, [.call 257 [.ptr 1 1, .b], .call 256 [.ptr 1 2]], false⟩, fs 241 [.v 6 [2]] [], fs 233 [.v 3 [4]] [], f5, fs 225 [.v 8132 [2,3,4], .q 8133, .b 1, .z 1016, .b 0, .q 255] [(2, .w), (8, .ptr 1 0), (10, .ptr 5 0), (11, .oy 6)]], [(0, .c [.ptr 1 0]), (1, o7), (2, .c [.ptr 1 0]), (3, o2), (4, o2), (5, o2), (6, .d [.ry]), (7, o3)], 8⟩]
abbrev A1 : Type := Int × Bool × Int × LI × Int × Int × Int × LI × LI × LL × LI × LI × LI × LI × LL × Unit
abbrev B1 : Type := (Bool × Int × LI × Int × Int × Int × LI × LI × LL × LI × LI × LI × LI × LL × Unit)
def b1 (self : A1 -> Option B1) : A1 -> Option B1 := fun v_ => match v_ with
| (t, m, n, m1, m2, m3, m4, m5, m6, m7, m8) =>
 bif decide (t < 256) then
  (oQ.run m_ ((IntKind.u8.wrap t), ())).bind fun r =>
  bif inB t 256 then
  bif inB r 256 then
  bif ay (([1, 2, 3, 9, 11, 13, 14] : List Int).length : Int) then
  (ah.l0 m_ (t, t, (([1, 2, 3, 9, 11, 13, 14] : List Int).length : Int), 0, m, n, m1, m2, m3, m4, (m5.set t.toNat r), (m6.set r.toNat (IntKind.u8.wrap t)), m7, ([1, 2, 3, 9, 11, 13, 14] : List Int), m8)).bind fun (t1, m13) =>
  self ((IntKind.i64.wrap (t1 + 1)), m13) else none else none else none
 else
  some (m, n, m1, m2, m3, m4, m5, m6, m7, m8)
theorem k1 : KQ 225 (O m_) [229, 230, 233, 234, 235, 236, 237, 238, 241, 242, 243, 244, 247, 248, 251, 252, 253, 255, 263, 264] e1 x1 [s0 m_] (b1 m_) := fun _ _ => by kernel_rfl
def l1 := loop m_ (b1 m_)
theorem q1 (v) : l1 .lim v = b1 .lim (l1 .lim) v := KS.q (k1 .lim) v
def s1 := so m_ (k1 m_)
def o8 : bJ := .c [.s, .dat (.int .u32), .dat (.int .i32), .dat (.int .u32), .dat qM, .dat qM, .dat qN, .own 13 rH]
def o9 : bJ := .c [.row JV]
def f10 : bM := ⟨248, [.v 61 [1]], [], none, [.call 257 [.ptr 4 1, .b], .call 256 [.ptr 4 2]], false⟩
def f11 : bM := fs 230 [.v 6 [1], .q 7] [(2, .ptr 5 0), (3, .ptr 6 0), (4, .ptr 7 0)]
def f12 : bM := fs 225 [.v 8132 [2,3,4], .q 8133, .b 1, .z 1016, .b 0, .q 255] [(2, .w), (8, .ptr 4 0), (10, .ptr 8 0), (11, .oy 9)]
def XO : bJ := .c [.own 10 JV]
def En : bJ := .c [.s, .dat (.int .u32), .dat (.int .i32), .dat (.int .u32), .dat qM, .dat qM, .dat qN, .own 11 rH]
def e2 : Spec := ⟨[fs 260 [.q 12, .z 12, .b 0] [(0, .fn (.yield 0) []), (1, .ptr 1 0), (2, .ptr 2 0), (4, .w)], ⟨244, [.inRange 0, .b 0, .q 31], [(1, .ptr 3 0), (2, .w), (3, .ptr 4 0)], none, [.mark 5], false⟩, fs 242 [.v 3 [1]] [], ⟨248, [.v 61 [1]], [], none, [.call 257 [.ptr 6 1, .b], .call 256 [.ptr 6 2]], false⟩, fs 241 [.v 6 [2]] [], fs 233 [.v 3 [4]] [], fs 230 [.v 6 [1], .q 7] [(2, .ptr 7 0), (3, .ptr 8 0), (4, .ptr 9 0)], fs 225 [.v 8132 [2,3,4], .q 8133, .b 1, .z 1016, .b 0, .q 255] [(2, .w), (8, .ptr 6 0), (10, .ptr 10 0), (11, .oy 11)]], [(0, .loop .ready none 244 [(3, .ptr 4 0)] [22] (wK 122) 5), (1, .c [.oy 12]), (2, .c [.w]), (3, .c [.ptr 6 0]), (4, .c [.own 5004 JV]), (5, .deferred false), (6, o8), (7, .c [.ptr 6 0]), (8, o2), (9, o2), (10, o2), (11, .d [.ry]), (12, .d [.ry]), (5004, o9), (13, o3)], 5005⟩
def x2 : List Spec := [⟨[fs 260 [] [], ⟨244, [.inRange 2, .b 0, .q 31], [(1, .ptr 0 0), (2, .w), (3, .ptr 1 0)], none, [.mark 3], false⟩, fs 242 [.v 3 [1]] [], f10, fs 241 [.v 6 [2]] [], fs 233 [.v 3 [4]] [], f11, f12], [(0, .c [.ptr 4 0]), (1, XO), (2, .loop .ready none 244 [(3, .ptr 1 0)] [22] (wK 122) 3), (3, .deferred false), (4, En), (5, .c [.ptr 4 0]), (6, o2), (7, o2), (8, o2), (9, .d [.ry]), (10, o9), (11, o3)], 12⟩]
abbrev A2 : Type := Int × Int × Bool × Int × Int × LI × Int × Int × Int × LI × LI × LL × LI × LI × LI × LI × LI × LL × LL × Unit
abbrev B2 : Type := (Int × Bool × Int × LI × Int × Int × Int × LI × LI × LL × LI × LI × LI × LI × LL × LL × Unit)
def b2 (m_ : aO) (self : A2 -> Option B2) : A2 -> Option B2 := fun v_ => match v_ with
| (i, nk, m, n, m1, m2, m3, m4, m5, m6, m7, m8, m9, m10, m11, m12, m13, m14, m15, ()) =>
 bif ay (m13.length : Int) then
 bif decide (i < (m13.length : Int)) then
  bif eX i (m13.length : Int) (m13.length : Int) then
  bif ay ((m13.length : Int) - i) then
  bif ((eX i (IntKind.i64.wrap (i + (mn m1 ((m13.length : Int) - i)))) (IntKind.i64.wrap (i + (mn m1 ((m13.length : Int) - i))))) && (decide ((IntKind.i64.wrap (i + (mn m1 ((m13.length : Int) - i)))) <= (m13.length : Int)))) then
  bif (Nat.ble 1 4 && Nat.ble 4 (cut m13 i (IntKind.i64.wrap (i + (mn m1 ((m13.length : Int) - i))))).length) then
  bif decide (m14.length + ([((cut m13 i (IntKind.i64.wrap (i + (mn m1 ((m13.length : Int) - i))))).take 4)] : List (List Int)).length < 17592186044416) then
  self ((IntKind.i64.wrap (i + m1)), nk, m, n, m1, m2, m3, m4, m5, m6, m7, m8, m9, m10, m11, m12, m13, (m14 ++ ([((cut m13 i (IntKind.i64.wrap (i + (mn m1 ((m13.length : Int) - i))))).take 4)] : List (List Int))), m15, ()) else none else none else none else none else none
 else
  some (nk, m, n, m2, m3, m4, m5, m6, m7, m8, m9, m10, m11, m12, m14, m15, ()) else none
theorem k2 : KQ 225 (O m_) [229, 230, 233, 234, 235, 236, 237, 238, 241, 242, 243, 244, 247, 248, 251, 252, 253, 255, 263, 264] e2 x2 [] (b2 m_) := fun _ _ => by kernel_rfl
def l2 := loop m_ (b2 m_)
theorem q2 (v) : l2 .lim v = b2 .lim (l2 .lim) v := KS.q (k2 .lim) v
def s2 := so m_ (k2 m_)
def Ti : bJ := .c [.dat JV]
def e3 : Spec := ⟨[⟨244, [.q 518452, .z 518452, .b 4, .q 64807, .b 3, .q 4051, .z 1012, .b 2, .q 127], [(1, .ptr 0 0), (2, .w), (3, .ptr 1 0), (5, .y), (6, .w), (7, .ptr 2 0), (115, .w)], none, [.mark 3], false⟩, fs 242 [.v 3 [1]] [], f10, fs 241 [.v 6 [2]] [], fs 233 [.v 3 [4]] [], f11, f12], [(0, .c [.ptr 4 0]), (1, XO), (2, Ti), (3, .deferred false), (4, En), (5, .c [.ptr 4 0]), (6, o2), (7, o2), (8, o2), (9, .d [.ry]), (10, o9), (11, o3)], 12⟩
def x3 : List Spec := [⟨[⟨244, [.q 64807, .b 3, .q 4051, .z 1012, .b 2, .q 127], [(1, .ptr 0 0), (2, .w), (3, .ptr 1 0), (5, .y), (6, .w), (7, .ptr 2 0)], none, [.mark 3], false⟩, fs 242 [.v 3 [1]] [], f10, fs 241 [.v 6 [2]] [], fs 233 [.v 3 [4]] [], f11, f12], [(0, .c [.ptr 4 0]), (1, XO), (2, Ti), (3, .deferred false), (4, En), (5, .c [.ptr 4 0]), (6, o2), (7, o2), (8, o2), (9, .d [.ry]), (10, o9), (11, o3)], 12⟩]
abbrev A3 : Type := Int × Int × Int × Int × Bool × Int × LI × LI × Int × Int × Int × LI × LI × LL × LI × LI × LI × LI × LL × LL × Unit
abbrev B3 : Type := (Int × Int × Int × Bool × Int × LI × LI × Int × Int × Int × LI × LI × LL × LI × LI × LI × LI × LL × LL × Unit)
def b3 (m_ : aO) (self : A3 -> Option B3) : A3 -> Option B3 := fun v_ => match v_ with
| (nk, x, i, t, m, n, m1, m2, m3, m4, m5, m6, m7, m8, m9, m10, m11, m12, m13, m14, ()) =>
 bif decide (t < 4) then
  bif inB t 4 then
  bif inB (IntKind.i64.wrap (i - nk)) (m13.length : Int) then
  bif inB t 4 then
  bif inB t 4 then
  self (nk, x, i, (IntKind.i64.wrap (t + 1)), m, n, (m1.set t.toNat (dX .u8 (rd 0 m1 t) (rd 0 (rd (List.replicate 4 (0 : Int) : List Int) m13 (IntKind.i64.wrap (i - nk))) t))), m2, m3, m4, m5, m6, m7, m8, m9, m10, m11, m12, m13, m14, ()) else none else none else none else none
 else
  some (nk, x, i, m, n, m1, m2, m3, m4, m5, m6, m7, m8, m9, m10, m11, m12, m13, m14, ())
theorem k3 : KQ 225 (O m_) [229, 230, 233, 234, 235, 236, 237, 238, 241, 242, 243, 244, 247, 248, 251, 252, 253, 255, 263, 264] e3 x3 [] (b3 m_) := fun _ _ => by kernel_rfl
def l3 := loop m_ (b3 m_)
theorem q3 (v) : l3 .lim v = b3 .lim (l3 .lim) v := KS.q (k3 .lim) v
def s3 := so m_ (k3 m_)
def f16 : bM := ⟨248, [.v 61 [1]], [], none, [.call 257 [.ptr 3 1, .b], .call 256 [.ptr 3 2]], false⟩
def f17 : bM := fs 230 [.v 6 [1], .q 7] [(2, .ptr 4 0), (3, .ptr 5 0), (4, .ptr 6 0)]
def f18 : bM := fs 225 [.v 8132 [2,3,4], .q 8133, .b 1, .z 1016, .b 0, .q 255] [(2, .w), (8, .ptr 3 0), (10, .ptr 7 0), (11, .oy 8)]
def o19 : bJ := .c [.own 9 JV]
def WT : bJ := .c [.s, .dat (.int .u32), .dat (.int .i32), .dat (.int .u32), .dat qM, .dat qM, .dat qN, .own 10 rH]
def e4 : Spec := ⟨[⟨244, [.q 1012, .z 1012, .b 2, .q 127], [(1, .ptr 0 0), (2, .w), (3, .ptr 1 0), (5, .y), (6, .w)], none, [.mark 2], false⟩, fs 242 [.v 3 [1]] [], f16, fs 241 [.v 6 [2]] [], fs 233 [.v 3 [4]] [], f17, f18], [(0, .c [.ptr 3 0]), (1, o19), (2, .deferred false), (3, WT), (4, .c [.ptr 3 0]), (5, o2), (6, o2), (7, o2), (8, .d [.ry]), (9, o9), (10, o3)], 11⟩
def x4 : List Spec := [⟨[⟨244, [.q 127], [(1, .ptr 0 0), (3, .ptr 1 0)], none, [.mark 2], false⟩, fs 242 [.v 3 [1]] [], f16, fs 241 [.v 6 [2]] [], fs 233 [.v 3 [4]] [], f17, f18], [(0, .c [.ptr 3 0]), (1, o19), (2, .deferred false), (3, WT), (4, .c [.ptr 3 0]), (5, o2), (6, o2), (7, o2), (8, .d [.ry]), (9, o9), (10, o3)], 11⟩]
abbrev A4 : Type := Int × Int × Int × Bool × Int × LI × Int × Int × Int × LI × LI × LL × LI × LI × LI × LI × LL × LL × Unit
abbrev B4 : Type := (Bool × Int × LI × Int × Int × Int × LI × LI × LL × LI × LI × LI × LI × LL × LL × Unit)
def b4 (self : A4 -> Option B4) : A4 -> Option B4 := fun v_ => match v_ with
| (nk, x, i, m, n, m1, m2, m3, m4, m5, m6, m7, m8, m9, m10, m11, m12, m13, ()) =>
 bif decide (i < (IntKind.i64.wrap (4 * (IntKind.i64.wrap (nk + 7))))) then
  bif inB (IntKind.i64.wrap (i - 1)) (m12.length : Int) then
  bif !(decide (nk = 0)) then
  bif decide ((i.tmod nk) = 0) then
   bif inB (rd 0 (rd (List.replicate 4 (0 : Int) : List Int) m12 (IntKind.i64.wrap (i - 1))) 1) 256 then
   bif inB (rd 0 (rd (List.replicate 4 (0 : Int) : List Int) m12 (IntKind.i64.wrap (i - 1))) 2) 256 then
   bif inB (rd 0 (rd (List.replicate 4 (0 : Int) : List Int) m12 (IntKind.i64.wrap (i - 1))) 3) 256 then
   bif inB (rd 0 (rd (List.replicate 4 (0 : Int) : List Int) m12 (IntKind.i64.wrap (i - 1))) 0) 256 then
   (dM.run m_ (x, 2, ())).bind fun r =>
   (ah.l3 m_ (nk, r, i, 0, m, n, (((((List.replicate 4 (0 : Int) : List Int).set 0 (dX .u8 (rd 0 m5 (rd 0 (rd (List.replicate 4 (0 : Int) : List Int) m12 (IntKind.i64.wrap (i - 1))) 1)) x)).set 1 (rd 0 m5 (rd 0 (rd (List.replicate 4 (0 : Int) : List Int) m12 (IntKind.i64.wrap (i - 1))) 2))).set 2 (rd 0 m5 (rd 0 (rd (List.replicate 4 (0 : Int) : List Int) m12 (IntKind.i64.wrap (i - 1))) 3))).set 3 (rd 0 m5 (rd 0 (rd (List.replicate 4 (0 : Int) : List Int) m12 (IntKind.i64.wrap (i - 1))) 0))), m1, m2, m3, m4, m5, m6, m7, m8, m9, m10, m11, m12, m13, ())).bind fun (nk1, x1, i1, m14, n1, m15, m16, m17, m18, m19, m20, m21, m22, m23, m24, H6, Em, Ih, Lp, ()) =>
   bif decide (Ih.length + ([m15] : List (List Int)).length < 17592186044416) then
   self (nk1, x1, (IntKind.i64.wrap (i1 + 1)), m14, n1, m16, m17, m18, m19, m20, m21, m22, m23, m24, H6, Em, (Ih ++ ([m15] : List (List Int))), Lp, ()) else none else none else none else none else none
  else
   bif ((!(decide (nk = 8))) || true) then
   bif ((decide (nk = 8)) && (decide ((i.tmod 8) = 4))) then
    bif inB (rd 0 (rd (List.replicate 4 (0 : Int) : List Int) m12 (IntKind.i64.wrap (i - 1))) 0) 256 then
    bif inB (rd 0 (rd (List.replicate 4 (0 : Int) : List Int) m12 (IntKind.i64.wrap (i - 1))) 1) 256 then
    bif inB (rd 0 (rd (List.replicate 4 (0 : Int) : List Int) m12 (IntKind.i64.wrap (i - 1))) 2) 256 then
    bif inB (rd 0 (rd (List.replicate 4 (0 : Int) : List Int) m12 (IntKind.i64.wrap (i - 1))) 3) 256 then
    (ah.l3 m_ (nk, x, i, 0, m, n, (((((List.replicate 4 (0 : Int) : List Int).set 0 (rd 0 m5 (rd 0 (rd (List.replicate 4 (0 : Int) : List Int) m12 (IntKind.i64.wrap (i - 1))) 0))).set 1 (rd 0 m5 (rd 0 (rd (List.replicate 4 (0 : Int) : List Int) m12 (IntKind.i64.wrap (i - 1))) 1))).set 2 (rd 0 m5 (rd 0 (rd (List.replicate 4 (0 : Int) : List Int) m12 (IntKind.i64.wrap (i - 1))) 2))).set 3 (rd 0 m5 (rd 0 (rd (List.replicate 4 (0 : Int) : List Int) m12 (IntKind.i64.wrap (i - 1))) 3))), m1, m2, m3, m4, m5, m6, m7, m8, m9, m10, m11, m12, m13, ())).bind fun (nk2, x2, i2, Jy, n2, JW, Lr, m32, Ii, NP, PY, NQ, Uj, XP, VB, VD, XQ, WM, WO, ()) =>
    bif decide (WM.length + ([JW] : List (List Int)).length < 17592186044416) then
    self (nk2, x2, (IntKind.i64.wrap (i2 + 1)), Jy, n2, Lr, m32, Ii, NP, PY, NQ, Uj, XP, VB, VD, XQ, (WM ++ ([JW] : List (List Int))), WO, ()) else none else none else none else none else none
   else
    (ah.l3 m_ (nk, x, i, 0, m, n, (rd (List.replicate 4 (0 : Int) : List Int) m12 (IntKind.i64.wrap (i - 1))), m1, m2, m3, m4, m5, m6, m7, m8, m9, m10, m11, m12, m13, ())).bind fun (nk3, x3, i3, WQ, n3, WR, WS, Zd, Yv, m49, m50, m51, m52, YE, m54, m55, Zf, Zg, m58, ()) =>
    bif decide (Zg.length + ([WR] : List (List Int)).length < 17592186044416) then
    self (nk3, x3, (IntKind.i64.wrap (i3 + 1)), WQ, n3, WS, Zd, Yv, m49, m50, m51, m52, YE, m54, m55, Zf, (Zg ++ ([WR] : List (List Int))), m58, ()) else none else none else none else none
 else
  some (m, n, m1, m2, m3, m4, m5, m6, m7, m8, m9, m10, m11, m12, m13, ())
theorem k4 : KQ 225 (O m_) [229, 230, 233, 234, 235, 236, 237, 238, 241, 242, 243, 244, 247, 248, 251, 252, 253, 255, 263, 264] e4 x4 [s3 m_] (b4 m_) := fun _ _ => by kernel_rfl
def l4 := loop m_ (b4 m_)
theorem q4 (v) : l4 .lim v = b4 .lim (l4 .lim) v := KS.q (k4 .lim) v
def s4 := so m_ (k4 m_)
def e5 : Spec := ⟨[fs 261 [.q 12, .z 12, .b 0] [(0, .fn (.yield 0) []), (1, .ptr 1 0), (2, .ptr 2 0), (4, .w)], ⟨244, [.inRange 0, .b 6], [], none, [.mark 3, .mark 4], false⟩, fs 242 [.v 3 [1]] [], ⟨248, [.v 61 [1]], [], none, [.call 257 [.ptr 5 1, .b], .call 256 [.ptr 5 2]], false⟩, fs 241 [.v 6 [2]] [], fs 233 [.v 3 [4]] [], fs 230 [.v 6 [1], .q 7] [(2, .ptr 6 0), (3, .ptr 7 0), (4, .ptr 8 0)], fs 225 [.v 8132 [2,3,4], .q 8133, .b 1, .z 1016, .b 0, .q 255] [(2, .w), (8, .ptr 5 0), (10, .ptr 9 0), (11, .oy 10)]], [(0, .loop .ready none 244 [(1, .ptr 11 0)] [138] (wK 510) 3), (1, .c [.own 12 JV]), (2, .c [.w]), (3, .deferred false), (4, .deferred false), (5, o8), (6, .c [.ptr 5 0]), (7, o2), (8, o2), (9, o2), (10, .d [.ry]), (11, .d [.ptr 5 0]), (12, .d [.row JV]), (13, o3)], 14⟩
def x5 : List Spec := [⟨[fs 261 [] [], ⟨244, [.inRange 0, .b 6], [], none, [.mark 1, .mark 2], false⟩, fs 242 [.v 3 [1]] [], f16, fs 241 [.v 6 [2]] [], fs 233 [.v 3 [4]] [], f17, f18], [(0, .loop .ready none 244 [(1, .ptr 9 0)] [138] (wK 510) 1), (1, .deferred false), (2, .deferred false), (3, WT), (4, .c [.ptr 3 0]), (5, o2), (6, o2), (7, o2), (8, .d [.ry]), (9, .d [.ptr 3 0]), (10, o3)], 11⟩]
abbrev A5 : Type := Int × Bool × Int × Int × LI × Int × Int × Int × LI × LI × LL × LI × LI × LI × LI × LL × LL × Unit
abbrev B5 : Type := (Bool × Int × LI × Int × Int × Int × LI × LI × LL × LI × LI × LI × LI × LL × Unit)
def b5 (self : A5 -> Option B5) : A5 -> Option B5 := fun v_ => match v_ with
| (i, m, n, m1, m2, m3, m4, m5, m6, m7, m8, m9, m10, m11, m12, m13, m14, ()) =>
 bif ay (m13.length : Int) then
 bif decide (i < (m13.length : Int)) then
  bif eX i (m13.length : Int) (m13.length : Int) then
  bif ay ((m13.length : Int) - i) then
  bif ((eX i (IntKind.i64.wrap (i + (mn m1 ((m13.length : Int) - i)))) (IntKind.i64.wrap (i + (mn m1 ((m13.length : Int) - i))))) && (decide ((IntKind.i64.wrap (i + (mn m1 ((m13.length : Int) - i)))) <= (m13.length : Int)))) then
  bif inB 0 ((cut m13 i (IntKind.i64.wrap (i + (mn m1 ((m13.length : Int) - i))))).length : Int) then
  bif inB 1 ((cut m13 i (IntKind.i64.wrap (i + (mn m1 ((m13.length : Int) - i))))).length : Int) then
  bif inB 2 ((cut m13 i (IntKind.i64.wrap (i + (mn m1 ((m13.length : Int) - i))))).length : Int) then
  bif inB 3 ((cut m13 i (IntKind.i64.wrap (i + (mn m1 ((m13.length : Int) - i))))).length : Int) then
  (aB.run m_ (([(cut (rd (List.replicate 4 (0 : Int) : List Int) (cut m13 i (IntKind.i64.wrap (i + (mn m1 ((m13.length : Int) - i))))) 0) 0 4), (cut (rd (List.replicate 4 (0 : Int) : List Int) (cut m13 i (IntKind.i64.wrap (i + (mn m1 ((m13.length : Int) - i))))) 1) 0 4), (cut (rd (List.replicate 4 (0 : Int) : List Int) (cut m13 i (IntKind.i64.wrap (i + (mn m1 ((m13.length : Int) - i))))) 2) 0 4), (cut (rd (List.replicate 4 (0 : Int) : List Int) (cut m13 i (IntKind.i64.wrap (i + (mn m1 ((m13.length : Int) - i))))) 3) 0 4)] : List (List Int)), ())).bind fun r =>
  bif (Nat.ble 1 16 && Nat.ble 16 r.length) then
  bif decide (m14.length + ([(r.take 16)] : List (List Int)).length < 4398046511104) then
  self ((IntKind.i64.wrap (i + m1)), m, n, m1, m2, m3, m4, m5, m6, m7, m8, m9, m10, m11, m12, m13, (m14 ++ ([(r.take 16)] : List (List Int))), ()) else none else none else none else none else none else none else none else none else none
 else
  some (m, n, m2, m3, m4, m5, m6, m7, m8, m9, m10, m11, m12, m14, ()) else none
theorem k5 : KQ 225 (O m_) [229, 230, 233, 234, 235, 236, 237, 238, 241, 242, 243, 244, 247, 248, 251, 252, 253, 255, 263, 264] e5 x5 [] (b5 m_) := fun _ _ => by kernel_rfl
def l5 := loop m_ (b5 m_)
theorem q5 (v) : l5 .lim v = b5 .lim (l5 .lim) v := KS.q (k5 .lim) v
def s5 := so m_ (k5 m_)
def VE : bJ := .c [.s, .dat (.int .u32), .dat (.int .i32), .dat (.int .u32), .dat qM, .dat qM, .dat qN, .own 6 rH]
def f22 : bM := fs 225 [.v 8132 [2,3,4], .q 8133, .b 1, .z 1016, .b 0, .q 255] [(2, .w), (8, .ptr 3 0), (10, .ptr 4 0), (11, .oy 5)]
def e6 : Spec := ⟨[fs 233 [.q 1] [(0, .ptr 0 0)], fs 230 [.v 6 [1], .q 7] [(2, .ptr 1 0), (3, .ptr 2 0), (4, .ptr 3 0)], fs 225 [.v 8132 [2,3,4], .q 8133, .b 1, .z 1016, .b 0, .q 255] [(2, .w), (8, .ptr 0 0), (10, .ptr 4 0), (11, .oy 5)]], [(0, VE), (1, .c [.ptr 0 0]), (2, o2), (3, o2), (4, o2), (5, .d [.ry]), (6, o3)], 7⟩
def x6 : List Spec := [⟨[fs 233 [] [], fs 230 [.v 6 [1], .q 7] [(2, .ptr 0 0), (3, .ptr 1 0), (4, .ptr 2 0)], f22], [(0, .c [.ptr 3 0]), (1, o2), (2, o2), (3, VE), (4, o2), (5, .d [.ry]), (6, o3)], 7⟩]
abbrev A6 : Type := Int × LI × Int × Int × Int × LI × LI × LL × LI × LI × LI × LI × LL × Unit
abbrev B6 : Type := (Int × LI × LI × LI × Int × Int × Int × LI × LI × LL × LI × LI × LL × Unit)
def b6 (self : A6 -> Option B6) : A6 -> Option B6 := fun v_ => match v_ with
| (n, m, m1, m2, m3, m4, m5, m6, m7, m8, m9) =>
 bif !(!(decide (m1 = 0))) then
  bif decide (m2 = 0) then
  bif !(!(decide (m1 = 0))) then
   (ah.l1 m_ (0, true, n, m, m1, (bif decide (m2 = 0) then 1 else m2), m3, m4, m5, m6, m7, m8, m9)).bind fun (m12, n1, m13, m14, m15, m16, m17, m18, m19, m20, m21, m22, m23, m24, ()) =>
   bif ay (m13.length : Int) then
   (ah.l2 m_ (0, (IntKind.i64.wrap ((m13.length : Int).tdiv 4)), m12, n1, 4, m13, m14, m15, m16, m17, m18, m19, m20, m21, m22, m23, m13, ([] : List (List Int)), m24, ())).bind fun (nk, H6) =>
   (ah.l4 m_ (nk, 1, nk, H6)).bind fun (VB, n3, VD) =>
   (ah.l5 m_ (0, VB, n3, 4, VD)).bind fun (YE, n4, m54, m55, Zf, Zg, m58, m59, m60, m61, m62, m63) =>
   (fQ.run m_ (YE, ())).bind fun r =>
   bif !(decide ((IntKind.i32.wrap (Zf + (-1))) = 0)) then
    none
   else
    some (n4, m61, m62, m54, r, (IntKind.i32.wrap (Zf + (-1))), Zg, m58, m59, m60, m63) else none
  else
   bif !(decide ((IntKind.i32.wrap ((bif decide (m2 = 0) then 1 else m2) + (-1))) = 0)) then
    none
   else
    some (n, m7, m8, m, m1, (IntKind.i32.wrap ((bif decide (m2 = 0) then 1 else m2) + (-1))), m3, m4, m5, m6, m9) else none
 else
  some (n, m7, m8, m, m1, m2, m3, m4, m5, m6, m9)
theorem k6 : KQ 225 (O m_) [229, 230, 233, 234, 235, 236, 237, 238, 241, 242, 243, 244, 247, 248, 251, 252, 253, 255, 263, 264] e6 x6 [s1 m_, s2 m_, s4 m_, s5 m_] (b6 m_) := fun _ _ => by kernel_rfl
def l6 := loop m_ (b6 m_)
theorem q6 (v) : l6 .lim v = b6 .lim (l6 .lim) v := KS.q (k6 .lim) v
def s6 := so m_ (k6 m_)
def f23 : bM := fs 234 [.q 28, .z 28, .b 0] [(0, .ptr 0 0), (3, .ptr 1 0), (5, .w)]
def f24 : bM := fs 225 [.v 8132 [2,3,4], .q 8133, .b 1, .z 1016, .b 0, .q 255] [(2, .w), (8, .ptr 4 0), (10, .ptr 5 0), (11, .oy 6)]
def e7 : Spec := ⟨[f23, fs 230 [.v 14 [6], .q 15] [(2, .ptr 2 0), (3, .ptr 0 0), (4, .ptr 3 0)], f24], [(0, o2), (1, o2), (2, .c [.ptr 4 0]), (3, o2), (4, o7), (5, o2), (6, .d [.ry]), (7, o3)], 8⟩
def x7 : List Spec := [⟨[fs 234 [] [], fs 230 [.v 14 [6], .q 15] [(2, .ptr 0 0), (3, .ptr 1 0), (4, .ptr 2 0)], f22], [(0, .c [.ptr 3 0]), (1, o2), (2, o2), (3, VE), (4, o2), (5, .d [.ry]), (6, o3)], 7⟩]
abbrev A7 : Type := Int × Int × LI × LI × LI × LI × Int × Int × Int × LI × LI × LL × LI × LI × LL × Unit
abbrev B7 : Type := (Int × LI × LI × LI × Int × Int × Int × LI × LI × LL × LI × LI × LL × Unit)
def b7 (m_ : aO) (self : A7 -> Option B7) : A7 -> Option B7 := fun v_ => match v_ with
| (t, n, m, m1, m2) =>
 bif decide (t < 16) then
  bif inB t 16 then
  bif inB t 16 then
  bif inB t 16 then
  self ((IntKind.i64.wrap (t + 1)), n, (m.set t.toNat (dX .u8 (rd 0 m t) (rd 0 m1 t))), m1, m2) else none else none else none
 else
  some (n, m, m2)
theorem k7 : KQ 225 (O m_) [229, 230, 233, 234, 235, 236, 237, 238, 241, 242, 243, 244, 247, 248, 251, 252, 253, 255, 263, 264] e7 x7 [] (b7 m_) := fun _ _ => by kernel_rfl
def l7 := loop m_ (b7 m_)
theorem q7 (v) : l7 .lim v = b7 .lim (l7 .lim) v := KS.q (k7 .lim) v
def s7 := so m_ (k7 m_)
def f25 : bM := fs 245 [.v 818 [10,11], .q 819, .b 1, .q 103, .z 12, .b 0] [(0, .fn (.yield 4) []), (1, .ptr 5 0), (9, .slc 6 0 none rH), (10, .w), (11, .w)]
def f26 : bM := ⟨230, [.inRange 4, .b 0, .q 31], [(3, .ptr 0 0), (4, .ptr 7 0)], none, [.mark 8], false⟩
def o27 : bJ := .loop .busy none 230 [(2, .ptr 2 0), (3, .ptr 0 0)] [18, 19] (wK 122) 8
def f28 : bM := fs 245 [.v 818 [10,11], .q 819, .b 1, .q 103, .z 12, .b 0] [(0, .fn (.yield 3) []), (1, .ptr 4 0), (9, .slc 5 0 none rH), (10, .w), (11, .w)]
def f29 : bM := ⟨230, [.inRange 3, .b 0, .q 31], [(3, .ptr 1 0), (4, .ptr 6 0)], none, [.mark 7], false⟩
def f30 : bM := fs 225 [.v 8132 [2,3,4], .q 8133, .b 1, .z 1016, .b 0, .q 255] [(2, .w), (8, .ptr 8 0), (10, .ptr 9 0), (11, .oy 10)]
def o31 : bJ := .loop .busy none 230 [(2, .ptr 0 0), (3, .ptr 1 0)] [18, 19] (wK 122) 7
def o32 : bJ := .c [.s, .dat (.int .u32), .dat (.int .i32), .dat (.int .u32), .dat qM, .dat qM, .dat qN, .own 5 rH]
def e8 : Spec := ⟨[fs 236 [.q 12, .z 12, .b 0] [(0, .ptr 0 0), (1, .ptr 1 4), (6, .ptr 0 0), (7, .w)], ⟨230, [.v 980 [3], .q 981, .b 1], [(2, .ptr 2 0), (3, .ptr 0 0), (5, .ptr 3 0), (6, .b)], some 4, [], false⟩, f25, f26, fs 225 [.v 8132 [2,3,4], .q 8133, .b 1, .z 1016, .b 0, .q 255] [(2, .w), (8, .ptr 1 0), (10, .ptr 9 0), (11, .oy 10)]], [(0, o2), (1, VE), (2, .c [.ptr 1 0]), (3, o2), (4, o27), (5, .c [.ptr 1 0]), (6, o3), (7, o2), (8, .deferred false), (9, o2), (10, .d [.ry])], 11⟩
def x8 : List Spec := [⟨[fs 236 [] [], ⟨230, [.v 980 [3], .q 981, .b 1], [(2, .ptr 0 0), (3, .ptr 1 0), (5, .ptr 2 0), (6, .b)], some 3, [], false⟩, f28, f29, f30], [(0, .c [.ptr 8 0]), (1, o2), (2, o2), (3, o31), (4, .c [.ptr 8 0]), (5, o3), (6, o2), (7, .deferred false), (8, o32), (9, o2), (10, .d [.ry])], 11⟩]
abbrev A8 : Type := Int × Bool × Int × Int × Int × Int × Int × LI × LI × Int × Int × Int × LI × LI × LL × LI × LL × LI × LI × LI × Unit
abbrev B8 : Type := (Bool × Int × Int × Int × Int × Int × LI × LI × LL × LI × LI × Int × Int × Int × LI × LI × LL × LI × LI × Unit)
def b8 (m_ : aO) (self : A8 -> Option B8) : A8 -> Option B8 := fun v_ => match v_ with
| (t, last, tp, tq, t1, t2, n, m, m1, m2, m3, m4, m5, m6, m7, m8, m9, m10, m11, m12, ()) =>
 bif decide (t < 16) then
  bif inB t 16 then
  bif inB (rd 0 m t) 256 then
  bif inB t 16 then
  self ((IntKind.i64.wrap (t + 1)), last, tp, tq, t1, t2, n, (m.set t.toNat (rd 0 m5 (rd 0 m t))), m1, m2, m3, m4, m5, m6, m7, m8, m9, m10, m11, m12, ()) else none else none else none
 else
  some (last, tp, tq, t1, t2, n, m, m8, m9, m10, m1, m2, m3, m4, m5, m6, m7, m11, m12, ())
theorem k8 : KQ 225 (O m_) [229, 230, 233, 234, 235, 236, 237, 238, 241, 242, 243, 244, 247, 248, 251, 252, 253, 255, 263, 264] e8 x8 [] (b8 m_) := fun _ _ => by kernel_rfl
def l8 := loop m_ (b8 m_)
theorem q8 (v) : l8 .lim v = b8 .lim (l8 .lim) v := KS.q (k8 .lim) v
def s8 := so m_ (k8 m_)
def e9 : Spec := ⟨[fs 237 [.q 28, .z 28, .b 0] [(0, .ptr 0 0), (1, .w), (4, .ptr 1 0), (9, .w)], ⟨230, [.v 1962 [0], .q 1963, .b 1], [(2, .ptr 2 0), (3, .ptr 0 0), (5, .ptr 3 0), (6, .b)], some 4, [], false⟩, f25, f26, fs 225 [.v 8132 [2,3,4], .q 8133, .b 1, .z 1016, .b 0, .q 255] [(2, .w), (8, .ptr 9 0), (10, .ptr 10 0), (11, .oy 11)]], [(0, o2), (1, o2), (2, .c [.ptr 9 0]), (3, o2), (4, o27), (5, .c [.ptr 9 0]), (6, o3), (7, o2), (8, .deferred false), (9, VE), (10, o2), (11, .d [.ry])], 12⟩
def x9 : List Spec := [⟨[fs 237 [] [], ⟨230, [.v 1962 [0], .q 1963, .b 1], [(2, .ptr 0 0), (3, .ptr 1 0), (5, .ptr 2 0), (6, .b)], some 3, [], false⟩, f28, f29, f30], [(0, .c [.ptr 8 0]), (1, o2), (2, o2), (3, o31), (4, .c [.ptr 8 0]), (5, o3), (6, o2), (7, .deferred false), (8, o32), (9, o2), (10, .d [.ry])], 11⟩]
abbrev A9 : Type := Int × Int × Bool × Int × Int × Int × Int × Int × LI × LI × LI × LL × LI × LI × Int × Int × Int × LI × LI × LL × LI × LI × Unit
abbrev B9 : Type := (Bool × Int × Int × Int × Int × Int × LI × LI × LL × LI × LI × Int × Int × Int × LI × LI × LL × LI × LI × Unit)
def b9 (m_ : aO) (self : A9 -> Option B9) : A9 -> Option B9 := fun v_ => match v_ with
| (WU, t, last, tp, tq, t1, t2, n, m, m1, m2) =>
 bif decide (t < 16) then
  bif inB ((IntKind.i64.wrap ((IntKind.i64.wrap (t + (IntKind.i64.wrap (WU * (t.tmod 4))))) + 64)).tmod 16) 16 then
  bif inB t 16 then
  self (WU, (IntKind.i64.wrap (t + 1)), last, tp, tq, t1, t2, n, (m.set t.toNat (rd 0 m1 ((IntKind.i64.wrap ((IntKind.i64.wrap (t + (IntKind.i64.wrap (WU * (t.tmod 4))))) + 64)).tmod 16))), m1, m2) else none else none
 else
  some (last, tp, tq, t1, t2, n, m, m2)
theorem k9 : KQ 225 (O m_) [229, 230, 233, 234, 235, 236, 237, 238, 241, 242, 243, 244, 247, 248, 251, 252, 253, 255, 263, 264] e9 x9 [] (b9 m_) := fun _ _ => by kernel_rfl
def l9 := loop m_ (b9 m_)
theorem q9 (v) : l9 .lim v = b9 .lim (l9 .lim) v := KS.q (k9 .lim) v
def s9 := so m_ (k9 m_)
def f33 : bM := ⟨230, [.v 15706 [2], .q 3927, .b 1], [(3, .ptr 1 0), (5, .ptr 4 0)], some 5, [], false⟩
def f34 : bM := fs 245 [.v 818 [10,11], .q 819, .b 1, .q 103, .z 12, .b 0] [(0, .fn (.yield 5) []), (1, .ptr 6 0), (9, .slc 7 0 none rH), (10, .w), (11, .w)]
def f35 : bM := ⟨230, [.inRange 5, .b 0, .q 31], [(3, .ptr 1 0), (4, .ptr 8 0)], none, [.mark 9], false⟩
def f36 : bM := fs 225 [.v 8132 [2,3,4], .q 8133, .b 1, .z 1016, .b 0, .q 255] [(2, .w), (8, .ptr 0 0), (10, .ptr 10 0), (11, .oy 11)]
def o37 : bJ := .loop .busy none 230 [(2, .ptr 12 0), (3, .ptr 1 0)] [18, 19] (wK 122) 9
def e10 : Spec := ⟨[fs 238 [.q 31132, .z 31132, .b 2, .b 1, .q 487, .z 60, .b 0] [(0, .ptr 0 0), (1, .ptr 1 0), (5, .ptr 2 0), (6, .ptr 3 0), (7, .w), (13, .w), (20, .dat JV), (21, .w)], f33, f34, f35, f36], [(0, o7), (1, o2), (2, Ti), (3, o2), (4, o2), (5, o37), (6, .c [.ptr 0 0]), (7, o3), (8, o2), (9, .deferred false), (10, o2), (11, .d [.ry]), (12, .c [.ptr 0 0])], 13⟩
def x10 : List Spec := [⟨[fs 238 [.q 487, .z 60, .b 0] [(0, .ptr 0 0), (1, .ptr 1 0), (5, .ptr 2 0), (6, .ptr 3 0), (13, .w)], f33, f34, f35, f36], [(0, o7), (1, o2), (2, Ti), (3, o2), (4, o2), (5, o37), (6, .c [.ptr 0 0]), (7, o3), (8, o2), (9, .deferred false), (10, o2), (11, .d [.ry]), (12, .c [.ptr 0 0])], 13⟩]
abbrev Yw : Type := Int × Int × LI × Int × Int × Int × Int × Int × Int × LI × Int × Int × Int × LI × LI × LL × LI × LI × LI × LI × LL × LI × LI × LI × Unit
abbrev B10 : Type := (Int × Int × Int × Int × Int × Int × LI × Int × Int × Int × LI × LI × LL × LI × LI × LI × LI × LL × LI × LI × LI × Unit)
def b10 (m_ : aO) (self : Yw -> Option B10) : Yw -> Option B10 := fun v_ => match v_ with
| (i, t, t1, t2, tp, tq, t3, t4, n, m, m1, m2, m3, m4, m5, m6, m7, m8, m9, m10) =>
 bif decide (t2 < 4) then
  bif inB t2 4 then
  bif inB i 16 then
  bif inB (IntKind.i64.wrap ((IntKind.i64.wrap ((IntKind.i64.wrap (i.tdiv 4)) * 4)) + ((IntKind.i64.wrap (i + t2)).tmod 4))) 16 then
  bif inB (rd 0 t1 t2) 16 then
  bif inB (rd 0 m9 (IntKind.i64.wrap ((IntKind.i64.wrap ((IntKind.i64.wrap (i.tdiv 4)) * 4)) + ((IntKind.i64.wrap (i + t2)).tmod 4)))) 256 then
  bif inB i 16 then
  self (i, t, t1, (IntKind.i64.wrap (t2 + 1)), tp, tq, t3, t4, n, m, m1, m2, m3, m4, m5, m6, (m7.set i.toNat (dX .u8 (rd 0 m7 i) (rd 0 (rd (List.replicate 256 (0 : Int) : List Int) m6 (rd 0 t1 t2)) (rd 0 m9 (IntKind.i64.wrap ((IntKind.i64.wrap ((IntKind.i64.wrap (i.tdiv 4)) * 4)) + ((IntKind.i64.wrap (i + t2)).tmod 4))))))), m8, m9, m10) else none else none else none else none else none else none
 else
  some (t, tp, tq, t3, t4, n, m, m1, m2, m3, m4, m5, m6, m7, m8, m9, m10)
theorem k10 : KQ 225 (O m_) [229, 230, 233, 234, 235, 236, 237, 238, 241, 242, 243, 244, 247, 248, 251, 252, 253, 255, 263, 264] e10 x10 [] (b10 m_) := fun _ _ => by kernel_rfl
def l10 := loop m_ (b10 m_)
theorem q10 (v) : l10 .lim v = b10 .lim (l10 .lim) v := KS.q (k10 .lim) v
def s10 := so m_ (k10 m_)
def f38 : bM := fs 245 [.v 818 [10,11], .q 819, .b 1, .q 103, .z 12, .b 0] [(0, .fn (.yield 2) []), (1, .ptr 3 0), (9, .slc 4 0 none rH), (10, .w), (11, .w)]
def f39 : bM := ⟨230, [.inRange 2, .b 0, .q 31], [(3, .ptr 0 0), (4, .ptr 5 0)], none, [.mark 6], false⟩
def f40 : bM := fs 225 [.v 8132 [2,3,4], .q 8133, .b 1, .z 1016, .b 0, .q 255] [(2, .w), (8, .ptr 7 0), (10, .ptr 8 0), (11, .oy 9)]
def o41 : bJ := .loop .busy none 230 [(2, .ptr 10 0), (3, .ptr 0 0)] [18, 19] (wK 122) 6
def o42 : bJ := .c [.s, .dat (.int .u32), .dat (.int .i32), .dat (.int .u32), .dat qM, .dat qM, .dat qN, .own 4 rH]
def e11 : Spec := ⟨[fs 238 [.q 60, .z 60, .b 0] [(0, .ptr 0 0), (1, .ptr 1 0), (5, .ptr 2 0), (6, .ptr 3 0), (13, .w)], f33, f34, f35, f36], [(0, o7), (1, o2), (2, Ti), (3, o2), (4, o2), (5, o37), (6, .c [.ptr 0 0]), (7, o3), (8, o2), (9, .deferred false), (10, o2), (11, .d [.ry]), (12, .c [.ptr 0 0])], 13⟩
def x11 : List Spec := [⟨[fs 238 [] [], ⟨230, [.v 15706 [2], .q 3927, .b 1], [(3, .ptr 0 0), (5, .ptr 1 0)], some 2, [], false⟩, f38, f39, f40], [(0, o2), (1, o2), (2, o41), (3, .c [.ptr 7 0]), (4, o3), (5, o2), (6, .deferred false), (7, o42), (8, o2), (9, .d [.ry]), (10, .c [.ptr 7 0])], 11⟩]
abbrev Yx : Type := Int × Int × Int × Int × Int × Int × LI × Int × Int × Int × LI × LI × LL × LI × LI × LI × LI × LL × LI × LI × LI × Unit
abbrev B11 : Type := (Int × Int × Int × Int × Int × LI × LI × LL × LI × LI × Int × Int × Int × LI × LI × LL × LI × LI × Unit)
def b11 (self : Yx -> Option B11) : Yx -> Option B11 := fun v_ => match v_ with
| (t, tp, tq, t1, t2, n, m, m1, m2, m3, m4, m5, m6, m7, m8, m9, m10, m11, m12, m13, m14, ()) =>
 bif decide (t < 16) then
  bif inB t 16 then
  (ah.l10 m_ (t, t, m8, 0, tp, tq, t1, t2, n, m, m1, m2, m3, m4, m5, m6, (m7.set t.toNat 0), m8, m9, m10, m11, m12, m13, m14, ())).bind fun (t3, WV) =>
  self ((IntKind.i64.wrap (t3 + 1)), WV) else none
 else
  some (tp, tq, t1, t2, n, m7, m10, m11, m12, m, m1, m2, m3, m4, m5, m6, m13, m14, ())
theorem k11 : KQ 225 (O m_) [229, 230, 233, 234, 235, 236, 237, 238, 241, 242, 243, 244, 247, 248, 251, 252, 253, 255, 263, 264] e11 x11 [s10 m_] (b11 m_) := fun _ _ => by kernel_rfl
def Q9 := loop m_ (b11 m_)
theorem q11 (v) : Q9 .lim v = b11 .lim (Q9 .lim) v := KS.q (k11 .lim) v
def s11 := so m_ (k11 m_)
def f43 : bM := ⟨230, [.inRange 0, .b 0, .q 31], [(3, .ptr 3 0), (4, .ptr 4 0)], none, [.mark 5], false⟩
def f44 : bM := fs 225 [.v 8132 [2,3,4], .q 8133, .b 1, .z 1016, .b 0, .q 255] [(2, .w), (8, .ptr 6 0), (10, .ptr 7 0), (11, .oy 8)]
def o45 : bJ := .c [.s, .dat (.int .u32), .dat (.int .i32), .dat (.int .u32), .dat qM, .dat qM, .dat qN, .own 2 rH]
def e12 : Spec := ⟨[f23, ⟨230, [.v 3927 [1], .b 1], [], some 2, [], false⟩, f38, f39, f40], [(0, o2), (1, o2), (2, o41), (3, .c [.ptr 7 0]), (4, o3), (5, o2), (6, .deferred false), (7, o42), (8, o2), (9, .d [.ry]), (10, .c [.ptr 7 0])], 11⟩
def x12 : List Spec := [⟨[fs 234 [] [], ⟨230, [.v 3927 [1], .b 1], [], some 0, [], false⟩, fs 245 [.v 818 [10,11], .q 819, .b 1, .q 103, .z 12, .b 0] [(0, .fn (.yield 0) []), (1, .ptr 1 0), (9, .slc 2 0 none rH), (10, .w), (11, .w)], f43, f44], [(0, .loop .busy none 230 [(2, .ptr 9 0), (3, .ptr 3 0)] [18, 19] (wK 122) 5), (1, .c [.ptr 6 0]), (2, o3), (3, o2), (4, o2), (5, .deferred false), (6, o45), (7, o2), (8, .d [.ry]), (9, .c [.ptr 6 0])], 10⟩]
abbrev Yy : Type := Int × Int × Int × Int × Int × Int × LI × LI × LL × LI × LI × Int × Int × Int × LI × LI × LL × LI × LI × Unit
abbrev Yz : Type := (Int × Int × Int × Int × Int × LL × LI × LI × LI × Int × Int × Int × LI × LI × LL × LI × LI × Unit)
def b12 (m_ : aO) (self : Yy -> Option Yz) : Yy -> Option Yz := fun v_ => match v_ with
| (t, tp, tq, t1, t2, n, m, m1, m2, m3) =>
 bif decide (t < 16) then
  bif inB t 16 then
  bif inB t 16 then
  bif inB t 16 then
  self ((IntKind.i64.wrap (t + 1)), tp, tq, t1, t2, n, (m.set t.toNat (dX .u8 (rd 0 m t) (rd 0 m1 t))), m1, m2, m3) else none else none else none
 else
  some (tp, tq, t1, t2, n, m2, m, m3)
theorem k12 : KQ 225 (O m_) [229, 230, 233, 234, 235, 236, 237, 238, 241, 242, 243, 244, 247, 248, 251, 252, 253, 255, 263, 264] e12 x12 [] (b12 m_) := fun _ _ => by kernel_rfl
def l12 := loop m_ (b12 m_)
theorem q12 (v) : l12 .lim v = b12 .lim (l12 .lim) v := KS.q (k12 .lim) v
def s12 := so m_ (k12 m_)
def e13 : Spec := ⟨[fs 245 [.q 12, .z 12, .b 0] [(0, .fn (.yield 0) []), (1, .ptr 1 0), (9, .slc 2 0 none rH), (10, .w), (11, .w)], f43, f44], [(0, .loop .ready none 230 [(2, .ptr 9 0), (3, .ptr 3 0)] [18, 19] (wK 122) 5), (1, .c [.ptr 6 0]), (2, o3), (3, o2), (4, o2), (5, .deferred false), (6, o45), (7, o2), (8, .d [.ry]), (9, .c [.ptr 6 0])], 10⟩
def x13 : List Spec := [⟨[fs 245 [] [], ⟨230, [.inRange 2, .b 0, .q 31], [(3, .ptr 0 0), (4, .ptr 1 0)], none, [.mark 3], false⟩, f24], [(0, o2), (1, o2), (2, .loop .ready none 230 [(2, .ptr 7 0), (3, .ptr 0 0)] [18, 19] (wK 122) 3), (3, .deferred false), (4, o1), (5, o2), (6, .d [.ry]), (7, .c [.ptr 4 0]), (8, o3)], 9⟩]
abbrev YA : Type := Int × Int × Int × Int × Int × LL × LI × LI × LI × Int × Int × Int × LI × LI × LL × LI × LI × Unit
abbrev YB : Type := (Int × LI × LI × LI × Int × Int × Int × LI × LI × LL × LI × LI × LL × Unit)
def b13 (self : YA -> Option YB) : YA -> Option YB := fun v_ => match v_ with
| (tp, tq, t, t1, n, m, m1, m2, m3, m4, m5, m6, m7, m8, m9, m10, m11, ()) =>
 bif decide (t1 < t) then
  bif inB t1 tq then
  bif ay (m.length : Int) then
  (ah.l8 m_ (0, decide (t1 = (IntKind.i64.wrap ((m.length : Int) - 2))), tp, tq, t, t1, n, m1, m3, m4, m5, m6, m7, m8, m9, (rd (List.replicate 16 (0 : Int) : List Int) m (tp + t1)), m, m2, m10, m11, ())).bind fun (last, WV, tq1, t2, t3, n1, m12, m13) =>
  (ah.l9 m_ (4, 0, last, WV, tq1, t2, t3, n1, m12, m12, m13)).bind fun (Q_, YC, YD, t4, t5, n2, H6, Em, Ih, Lp, Jy, JW, Lr, m32, Ii, NP, PY, NQ, Uj, ()) =>
  bif !Q_ then
   (ah.Q9 m_ (0, YC, YD, t4, t5, n2, Jy, JW, Lr, m32, Ii, NP, PY, H6, (((((List.replicate 4 (0 : Int) : List Int).set 0 2).set 1 3).set 2 1).set 3 1), H6, Em, Ih, Lp, NQ, Uj, ())).bind fun (tp3) =>
   (ah.l12 m_ (0, tp3)).bind fun (tp4, tq4, t8, t9, n4) =>
   self (tp4, tq4, t8, (IntKind.i64.wrap (t9 + 1)), n4)
  else
   (ah.l12 m_ (0, YC, YD, t4, t5, n2, H6, Em, Ih, Lp, Jy, JW, Lr, m32, Ii, NP, PY, NQ, Uj, ())).bind fun (tp5, tq5, t10, t11, n5) =>
   self (tp5, tq5, t10, (IntKind.i64.wrap (t11 + 1)), n5) else none else none
 else
  some (n, m1, m2, m3, m4, m5, m6, m7, m8, m9, m10, m11, m, ())
theorem k13 : KQ 225 (O m_) [229, 230, 233, 234, 235, 236, 237, 238, 241, 242, 243, 244, 247, 248, 251, 252, 253, 255, 263, 264] e13 x13 [s8 m_, s9 m_, s11 m_, s12 m_] (b13 m_) := fun _ _ => by kernel_rfl
def Ls := loop m_ (b13 m_)
theorem q13 (v) : Ls .lim v = b13 .lim (Ls .lim) v := KS.q (k13 .lim) v
def s13 := so m_ (k13 m_)
def o46 : bJ := .c [.s, .dat (.int .u32), .dat (.int .i32), .dat (.int .u32), .dat qM, .dat qM, .dat qN, .own 3 rH]
def e14 : Spec := ⟨[fs 230 [.q 1] [(0, .ptr 0 0), (1, .dat rH)], fs 225 [.v 8132 [2,3,4], .q 8133, .b 1, .z 1016, .b 0, .q 255] [(2, .w), (8, .ptr 0 0), (10, .ptr 1 0), (11, .oy 2)]], [(0, o46), (1, o2), (2, .d [.ry]), (3, o3)], 4⟩
def x14 : List Spec := [⟨[⟨230, [.q 63], [(4, .ptr 0 0)], none, [.mark 1], false⟩, fs 225 [.v 8132 [2,3,4], .q 8133, .b 1, .z 1016, .b 0, .q 255] [(2, .w), (8, .ptr 2 0), (10, .ptr 3 0), (11, .oy 4)]], [(0, o2), (1, .deferred false), (2, o32), (3, o2), (4, .d [.ry]), (5, o3)], 6⟩]
abbrev YF : Type := LI × Int × LI × Int × Int × Int × LI × LI × LL × LI × LI × LL × Unit
abbrev YG : Type := (Int × LI × LI × Int × Int × Int × LI × LI × LL × LI × LI × LL × Unit)
def b14 (self : YF -> Option YG) : YF -> Option YG := fun v_ => match v_ with
| (b, n, m, m1, m2, m3, m4, m5, m6, m7) =>
 (ah.l6 m_ (n, m, m1, m2, m3, m4, m5, m6, b, (List.replicate 16 (0 : Int)), m7)).bind fun (n1, m10, m11, m12, m13, m14, m15, m16, m17, m18, m19, m20, m21, ()) =>
 bif inB 0 (m21.length : Int) then
 (ah.l7 m_ (0, n1, m10, (rd (List.replicate 16 (0 : Int) : List Int) m21 0), m11, m12, m13, m14, m15, m16, m17, m18, m19, m20, m21, ())).bind fun (n2, m22, m23, m24, H6, Em, Ih, Lp, Jy, JW, Lr, m32, Ii, ()) =>
 bif eX 1 (Ii.length : Int) (Ii.length : Int) then
 bif ay ((Ii.length : Int) - 1) then
 (ah.Ls m_ (1, ((Ii.length : Int) - 1), ((Ii.length : Int) - 1), 0, n2, Ii, m22, m23, m24, H6, Em, Ih, Lp, Jy, JW, Lr, m32, ())).bind fun (n3, NP, PY, NQ) =>
 some (n3, NP, NQ) else none else none else none
theorem k14 : KQ 225 (O m_) [229, 230, 233, 234, 235, 236, 237, 238, 241, 242, 243, 244, 247, 248, 251, 252, 253, 255, 263, 264] e14 x14 [s6 m_, s7 m_, s13 m_] (b14 m_) := fun _ _ => by kernel_rfl
def Jz := loop m_ (b14 m_)
theorem Ze (v) : Jz .lim v = b14 .lim (Jz .lim) v := KS.q (k14 .lim) v
def s14 := so m_ (k14 m_)
def e15 : Spec := ⟨[fs 225 [.q 130140, .z 130140, .b 2, .b 1, .z 1016, .b 0, .q 255] [(2, .w), (8, .ptr 0 0), (10, .ptr 1 0), (11, .oy 2), (13, .w)]], [(0, o46), (1, o2), (2, .d [.ry]), (3, o3)], 4⟩
def x15 : List Spec := [⟨[fs 225 [.q 1016, .z 1016, .b 0, .q 255] [(2, .w), (8, .ptr 0 0), (10, .ptr 1 0), (11, .oy 2)]], [(0, o46), (1, o2), (2, .d [.ry]), (3, o3)], 4⟩]
abbrev A15 : Type := Int × Int × LI × Int × Int × Int × LI × LI × LL × LI × LI × LL × Unit
abbrev B15 : Type := (Int × LI × Int × Int × Int × LI × LI × LL × LI × LI × LL × Unit)
def b15 (m_ : aO) (self : A15 -> Option B15) : A15 -> Option B15 := fun v_ => match v_ with
| (n, i, m, m1, m2, m3, m4, m5, m6, m7, m8, m9, ()) =>
 bif decide (i >= 0) then
  bif inB i 16 then
  bif inB i 16 then
  bif inB i 16 then
  bif !(decide ((rd 0 (m7.set i.toNat (IntKind.u8.wrap ((rd 0 m7 i) + 1))) i) = 0)) then
   some (n, m, m1, m2, m3, m4, m5, m6, (m7.set i.toNat (IntKind.u8.wrap ((rd 0 m7 i) + 1))), m8, m9, ())
  else
   self (n, (IntKind.i64.wrap (i - 1)), m, m1, m2, m3, m4, m5, m6, (m7.set i.toNat (IntKind.u8.wrap ((rd 0 m7 i) + 1))), m8, m9, ()) else none else none else none
 else
  some (n, m, m1, m2, m3, m4, m5, m6, m7, m8, m9, ())
theorem k15 : KQ 225 (O m_) [229, 230, 233, 234, 235, 236, 237, 238, 241, 242, 243, 244, 247, 248, 251, 252, 253, 255, 263, 264] e15 x15 [] (b15 m_) := fun _ _ => by kernel_rfl
def l15 := loop m_ (b15 m_)
theorem q15 (v) : l15 .lim v = b15 .lim (l15 .lim) v := KS.q (k15 .lim) v
def s15 := so m_ (k15 m_)
def e16 : Spec := ⟨[fs 225 [.q 1016, .z 1016, .b 0, .q 255] [(2, .w), (8, .ptr 0 0), (10, .ptr 1 0), (11, .oy 5006)]], [(0, .c [.s, .dat (.int .u32), .dat (.int .i32), .dat (.int .u32), .dat qM, .dat qM, .dat qN, .own 5007 rH]), (1, o2), (5006, .d [.ry]), (5007, o3)], 5008⟩
def x16 : List Spec := [⟨[fs 225 [.q 255] [(2, .w), (11, .oy 0)]], [(0, .d [.ry])], 1⟩]
abbrev A16 : Type := Int × LI × Int × Int × Int × LI × LI × LL × LI × LI × LL × Unit
abbrev B16 : Type := (Int × LI × Unit)
def b16 (self : A16 -> Option B16) : A16 -> Option B16 := fun v_ => match v_ with
| (n, m, m1, m2, m3, m4, m5, m6, m7, m8, m9, ()) =>
 bif ay (m8.length : Int) then
 bif decide ((m8.length : Int) < n) then
  (ah.Jz m_ (m7, n, m, m1, m2, m3, m4, m5, m6, m7, m8, m9, ())).bind fun (n1, m10, m11, m12, m13, m14, m15, m16, m17, m18, m19, m20, ()) =>
  bif decide (m19.length + ((m10.drop 0).take 16).length < 70368744177664) then
  (ah.l15 m_ (n1, 15, m11, m12, m13, m14, m15, m16, m17, m18, (m19 ++ ((m10.drop 0).take 16)), m20, ())).bind fun (n2) =>
  self (n2) else none
 else
  some (n, m8, ()) else none
theorem k16 : KQ 225 (O m_) [229, 230, 233, 234, 235, 236, 237, 238, 241, 242, 243, 244, 247, 248, 251, 252, 253, 255, 263, 264] e16 x16 [s14 m_, s15 m_] (b16 m_) := fun _ _ => by kernel_rfl
def VF := loop m_ (b16 m_)
theorem q16 (v) : VF .lim v = b16 .lim (VF .lim) v := KS.q (k16 .lim) v
def s16 := so m_ (k16 m_)
def run : (List Int) × (List Int) × Int × Unit -> Option ((List Int) × Int × Unit) := fun v_ => match v_ with
| (key, first, n, ()) =>
 bif ((decide (n < 0)) || (decide (n > 65536))) then
  some (([] : List Int), 13, ())
 else
  bif ay (key.length : Int) then
  bif ((!(!(decide ((key.length : Int) = 16)))) || (ay (key.length : Int))) then
  bif ((!(decide ((key.length : Int) = 16))) && (!(decide ((key.length : Int) = 32)))) then
   some (([] : List Int), 13, ())
  else
   bif ay (first.length : Int) then
   bif !(decide ((first.length : Int) = 16)) then
    some (([] : List Int), 10, ())
   else
    bif (Nat.ble 1 16 && Nat.ble 16 first.length) then
    (ah.VF m_ (n, key, 0, 0, 0, (List.replicate 256 (0 : Int)), (List.replicate 256 (0 : Int)), (List.replicate 16 (List.replicate 256 (0 : Int) : List Int)), (first.take 16), ([] : List Int), ([] : List (List Int)), ())).bind fun (n1, m, ()) =>
    bif eX 0 n1 (m.length : Int) then
    some (((m.drop 0).take ((n1 - 0).toNat)), 0, ()) else none else none else none else none else none
theorem k : KT (O m_) [229, 230, 233, 234, 235, 236, 237, 238, 241, 242, 243, 244, 247, 248, 251, 252, 253, 255, 263, 264] ⟨225, [.one .str, .one .str, .one (.int .i64)], .jo [.sh (.one .str), .sh (.one (.int .i64))], run m_⟩ [s16 m_] := fun _ => by kernel_rfl
def c := co (k m_)
end ah

namespace nV
def O : OO P := f_ [fF.c m_, ah.c m_]
def run : (List Int) × (List Int) × (List Int) × Unit -> Option (List Int) := fun v_ => match v_ with
| (key, v, s, ()) =>
 bif inB 8 (v.length : Int) then
 bif inB 8 (v.length : Int) then
 bif inB 12 ((v.set 8 (h_ .u8 (rd 0 v 8) 127)).length : Int) then
 bif inB 12 ((v.set 8 (h_ .u8 (rd 0 v 8) 127)).length : Int) then
 bif ay (s.length : Int) then
 (ah.run m_ (key, ((v.set 8 (h_ .u8 (rd 0 v 8) 127)).set 12 (h_ .u8 (rd 0 (v.set 8 (h_ .u8 (rd 0 v 8) 127)) 12) 127)), (s.length : Int), ())).bind fun (r, r1, ()) =>
 (fF.run m_ (s, r, ())).bind fun r2 =>
 some r2 else none else none else none else none else none
theorem k : KT (O m_) [] ⟨220, [.one .str, .one .str, .one .str], .one (.sh (.one .str)), run m_⟩ [] := fun _ => by kernel_rfl
def c := co (k m_)
end nV

namespace tZ
def O : OO P := f_ [aG.c m_, nU.c m_, nV.c m_, dS.c m_]
def run : (List Int) × (List (List Int)) × (List Int) × Unit -> Option ((List Int) × Int × Unit) := fun v_ => match v_ with
| (key, ad, plain, ()) =>
 (nU.run m_ (key, ad, ())).bind fun (r, r1, r2, ()) =>
 bif !(decide (r2 = 0)) then
  some (([] : List Int), r2, ())
 else
  bif ay (plain.length : Int) then
  bif decide ((plain.length : Int) > 65536) then
   some (([] : List Int), 12, ())
  else
   (aG.run m_ (ad, ())).bind fun r3 =>
   bif decide (r3.length + ([plain] : List (List Int)).length < 4398046511104) then
   (dS.run m_ (r, (r3 ++ ([plain] : List (List Int))), ())).bind fun r4 =>
   (nV.run m_ (r1, r4, plain, ())).bind fun r5 =>
   bif decide (r4.length + r5.length <= maxStr) then
   some ((r4 ++ r5), 0, ()) else none else none else none
theorem k : KT (O m_) [] ⟨218, [.one .str, .one (.lst .str), .one .str], .jo [.sh (.one .str), .sh (.one (.int .i64))], run m_⟩ [] := fun _ => by kernel_rfl
def c := co (k m_)
end tZ

namespace jK
def O : OO P := f_ [tZ.c m_]
def run : Unit × qO × Unit -> Option ((List Int) × Int × Unit) := fun v_ => match v_ with
| (a, k, ()) =>
 (tZ.run m_ (k.1, k.2.1, k.2.2.1, ())).bind fun (r, r1, ()) =>
 some (r, r1, ())
theorem k : KT (O m_) [] ⟨216, [.ag .unit, .ag Hz], .jo [.sh (.one .str), .sh (.one (.int .i64))], run m_⟩ [] := fun _ => by kernel_rfl
def c := co (k m_)
end jK

namespace fC
def O : OO P := f_ [aG.c m_, jX.c m_, mP.c m_, dV.c m_, bH.c m_, jK.c m_]
def o0 : bJ := .c [.dat HY]
def o1 : bJ := .c [.b, .dat HY]
def f2 : bM := fs 206 [.v 60 [5,6], .q 61, .q 31] [(0, .ptr 0 0), (3, .ptr 1 0)]
def f3 : bM := fs 114 [.v 14 [5,6,7,8,9,10], .q 15] [(4, .ptr 2 0), (8, .ptr 3 0), (11, .PX 237 (.ptr 0 0))]
def e0 : Spec := ⟨[fs 208 [.q 52, .z 52, .b 0, .q 7] [(0, .dat HY), (1, .fn (.func 211) [0]), (7, .w), (8, .w)], fs 206 [.v 60 [5,6], .q 61, .q 31] [(0, .ptr 1 0), (3, .ptr 0 0)], fs 114 [.v 14 [5,6,7,8,9,10], .q 15] [(4, .ptr 2 0), (8, .ptr 3 0), (11, .PX 237 (.ptr 1 0))]], [(0, .c [.s, .t, .s, .s]), (1, o0), (2, o1), (3, .c [.b, .pV])], 4⟩
def x0 : List Spec := [⟨[fs 208 [.q 13517, .b 1, .q 423, .z 52, .b 0, .q 7] [(4, .w)], f2, f3], [(0, o0), (1, .c [.s, .t, .s, .s]), (2, o1), (3, .c [.b, .pV])], 4⟩, ⟨[fs 208 [.q 7] [], f2, f3], [(0, o0), (1, .c [.s, .t, .s, .s]), (2, o1), (3, .c [.b, .pV])], 4⟩]
abbrev A0 : Type := (List (List Int × (List LI × (List Int × List Int)))) × Int × Int × LI × LL × LI × LI × (List (List Int × (List LI × (List Int × List Int)))) × Bool × (List (List Int × (List LI × (List Int × List Int)))) × Bool × Unit
abbrev B0 : Type := (Int × (List (List Int × (List LI × (List Int × List Int)))) × LI × LL × LI × LI × Bool × (List (List Int × (List LI × (List Int × List Int)))) × Bool × Unit) ⊕ ((List (List Int × (List LI × (List Int × List Int)))) × LI × LL × LI × LI × Bool × (List (List Int × (List LI × (List Int × List Int)))) × Bool × Unit)
def b0 (self : A0 -> Option B0) : A0 -> Option B0 := fun v_ => match v_ with
| (s, t, t1, m, m1, m2, m3, m4, m5) =>
 bif decide (t1 < t) then
  bif inB t1 (s.length : Int) then
  (mP.run m_ ((rd iH s t1), (m, (m1, (m2, m3))), ())).bind fun r =>
  bif r then
   some (.inl (t1, m4, m, m1, m2, m3, m5))
  else
   self (s, t, (IntKind.i64.wrap (t1 + 1)), m, m1, m2, m3, m4, m5) else none
 else
  some (.inr (m4, m, m1, m2, m3, m5))
theorem k0 : KQ 114 (O m_) [128, 143, 206, 208, 211] e0 x0 [] (b0 m_) := fun _ _ => by kernel_rfl
def l0 := loop m_ (b0 m_)
theorem q0 (v) : l0 .lim v = b0 .lim (l0 .lim) v := KS.q (k0 .lim) v
def s0 := so m_ (k0 m_)
def run : yj × (List Int) × (List (List Int)) × (List Int) × Unit -> Option (yj × (List Int) × Int × Unit) := fun v_ => match v_ with
| (v, key, ad, plain, ()) =>
 bif v.1 then
  (jX.run m_ ((key, (ad, (plain, ([] : List Int)))), ())).bind fun r =>
  bif !(decide (r = 0)) then
   bif !(decide (r = 0)) then
    some (v, ([] : List Int), r, ())
   else
    some ((true, v.2), ([] : List Int), 0, ())
  else
   bif ay (plain.length : Int) then
   bif decide ((plain.length : Int) > 65536) then
    some (v, ([] : List Int), 12, ())
   else
    bif ay (v.2.length : Int) then
    (fC.l0 m_ (v.2, (v.2.length : Int), 0, key, ad, plain, ([] : List Int), v.2, v.1, v.2, false, ())).bind fun g_ => match g_ with
    | .inl (t, m, m1, m2, m3, m4, m5, m6, m7, ()) =>
     bif decide (t >= 0) then
      bif inB t (m.length : Int) then
      some ((true, m), (((rd iH m t).2).2).2, 0, ()) else none
     else
      bif ay (m.length : Int) then
      bif decide ((m.length : Int) >= 2048) then
       some ((m5, m6), ([] : List Int), 18, ())
      else
       (aG.run m_ (m2, ())).bind fun r1 =>
       bif ay (m.length : Int) then
       (dV.run m_ ((IntKind.i64.wrap ((m.length : Int) + 1)), m3, ())).bind fun r2 =>
       (bH.run m_ (m, ())).bind fun r3 =>
       bif decide (r3.length + ([(m1, (r1, (m3, r2)))] : List qO).length < 977343669134) then
       some ((true, (r3 ++ ([(m1, (r1, (m3, r2)))] : List qO))), r2, 0, ()) else none else none else none
    | .inr (m8, m9, m10, m11, m12, m13, m14, m15, ()) =>
     bif ay (m8.length : Int) then
     bif decide ((m8.length : Int) >= 2048) then
      some ((m13, m14), ([] : List Int), 18, ())
     else
      (aG.run m_ (m10, ())).bind fun r4 =>
      bif ay (m8.length : Int) then
      (dV.run m_ ((IntKind.i64.wrap ((m8.length : Int) + 1)), m11, ())).bind fun r5 =>
      (bH.run m_ (m8, ())).bind fun r6 =>
      bif decide (r6.length + ([(m9, (r4, (m11, r5)))] : List qO).length < 977343669134) then
      some ((true, (r6 ++ ([(m9, (r4, (m11, r5)))] : List qO))), r5, 0, ()) else none else none else none else none else none
 else
  (jK.run m_ ((), (key, (ad, (plain, ([] : List Int)))), ())).bind fun (r7, r8, ()) =>
  bif !(decide (r8 = 0)) then
   some (v, ([] : List Int), r8, ())
  else
   some ((false, ([] : List qO)), r7, 0, ())
theorem k : KT (O m_) [128, 143, 206, 208, 211] ⟨114, [.ag yh, .one .str, .one (.lst .str), .one .str], .jo [.sh (.ag yh), .sh (.one .str), .sh (.one (.int .i64))], run m_⟩ [s0 m_] := fun _ => by kernel_rfl
def c := co (k m_)
end fC

namespace yu
def O (m_ : aO) : OO P := f_ []
def run (m_ : aO) : Int × Unit -> Option (List Int) := fun v_ => match v_ with
| (n, ()) =>
 some ([(IntKind.u8.wrap (iR .i64 n 8)), (IntKind.u8.wrap n)] : List Int)
theorem k : KT (O m_) [] ⟨115, [.one (.int .i64)], .one (.sh (.one .str)), run m_⟩ [] := fun _ => by kernel_rfl
def c := co (k m_)
end yu

namespace nX
def O : OO P := f_ [strings_Repeat.c m_]
def run : (List Int) × Unit -> Option (List Int) := fun v_ => match v_ with
| (s, ()) =>
 bif ay (s.length : Int) then
 (strings_Repeat.run m_ (([0] : List Int), (h_ .i64 (IntKind.i64.wrap (0 - (s.length : Int))) 3), ())).bind fun r =>
 bif decide (s.length + r.length <= maxStr) then
 some (s ++ r) else none else none
theorem k : KT (O m_) [] ⟨116, [.one .str], .one (.sh (.one .str)), run m_⟩ [] := fun _ => by kernel_rfl
def c := co (k m_)
end nX

namespace t_
def O : OO P := f_ [dN.c m_, fC.c m_, yu.c m_, nX.c m_]
def run : yj × (List Int) × (List Int) × (List Int) × (List (Int × List Int)) × Unit -> Option (yj × (Int × List Int) × Int × Unit) := fun v_ => match v_ with
| (v, key, aC, ahead, inner, ()) =>
 bif ay (aC.length : Int) then
 bif !(decide ((aC.length : Int) = 16)) then
  some (v, (0, ([] : List Int)), 10, ())
 else
  bif ay (ahead.length : Int) then
  bif decide ((ahead.length : Int) > 1280) then
   some (v, (0, ([] : List Int)), 12, ())
  else
   (dN.run m_ (inner, ())).bind fun (r, r1, ()) =>
   bif !(decide (r1 = 0)) then
    some (v, (0, ([] : List Int)), r1, ())
   else
    (fC.run m_ (v, key, ([ahead, aC] : List (List Int)), r, ())).bind fun (r2, r3, r4, ()) =>
    bif !(decide (r4 = 0)) then
     some (v, (0, ([] : List Int)), r4, ())
    else
     (yu.run m_ (16, ())).bind fun r5 =>
     bif ay (r3.length : Int) then
     (yu.run m_ ((r3.length : Int), ())).bind fun r6 =>
     bif decide (r5.length + r6.length <= maxStr) then
     bif decide ((r5 ++ r6).length + aC.length <= maxStr) then
     (nX.run m_ (r3, ())).bind fun r7 =>
     bif decide (((r5 ++ r6) ++ aC).length + r7.length <= maxStr) then
     some (r2, (1028, (((r5 ++ r6) ++ aC) ++ r7)), 0, ()) else none else none else none else none else none else none
theorem k : KT (O m_) [] ⟨75, [.ag yh, .one .str, .one .str, .one .str, .one zq], .jo [.sh (.ag yh), .sh (.ag QZ), .sh (.one (.int .i64))], run m_⟩ [] := fun _ => by kernel_rfl
def c := co (k m_)
end t_

namespace bI
def inl : FuncId -> Bool := fun f => [].any (Nat.beq f)
def O (m_ : aO) : lS := (Jq [])
theorem Ok (m_ : aO) {S0 w0} : fU P S0 w0 (O m_) := (xX (an))
def run (m_ : aO) : (List (Int × List Int)) × Unit -> Option (List (Int × List Int)) := fun v_ => match v_ with
| (s, ()) =>
 bif decide (([] : List (Int × List Int)).length + s.length < 2932031007402) then
 some (([] : List (Int × List Int)) ++ s) else none
def c_ (m_ : aO) : Callee := ⟨76, [.one zq], .one (.own QZ), run m_⟩
theorem kn (m_ : aO) : ig P (O m_) inl [] [] (c_ m_).res.fin 20000 false (start 76 [.bC]) = (
 some ([] : List (Int × List Int))) := by kernel_rfl
theorem k (m_ : aO) : ∀ xs : List (Int × List Int), ig P (O m_) inl [] [] (c_ m_).res.fin 20000 false (start 76 [.lg QZ xs]) = run m_ (xs, ()) := by intro xs; kernel_rfl
theorem ok (m_ : aO) : (c_ m_).OK P := Callee.of_nil (fun S0 w0 => (Ok m_)) (by kernel_rfl) (by rfl) (fun S0 w0 cs0 => an) (fun r h => (kn m_).trans ((show (
 some ([] : List (Int × List Int))) = bI.run m_ ([], ()) from by kernel_rfl).trans h)) (fun x r h => (bI.k m_ x).trans h)
def c (m_ : aO) : CO P := ⟨c_ m_, ok m_⟩
end bI

namespace qg
def O : OO P := f_ [gK.c m_, aQ.c m_, t_.c m_, bI.c m_]
def run : yj × DT5 × (List Int) × (List Int) × (List (Int × List Int)) × Unit -> Option (yj × (List Int) × Int × Unit) := fun v_ => match v_ with
| (v, p, key, aC, inner, ()) =>
 (gK.run m_ (p.2.2.2.2.2.2.2.2.2.2.2.2.2, 1028, ())).bind fun r =>
 bif ay (r.length : Int) then
 bif decide ((r.length : Int) > 0) then
  some (v, ([] : List Int), 23, ())
 else
  (aQ.run m_ (p, ())).bind fun (r1, r2, ()) =>
  bif !(decide (r2 = 0)) then
   some (v, ([] : List Int), r2, ())
  else
   (t_.run m_ (v, key, aC, r1, inner, ())).bind fun (r3, r4, r5, ()) =>
   bif !(decide (r5 = 0)) then
    some (v, ([] : List Int), r5, ())
   else
    (bI.run m_ (p.2.2.2.2.2.2.2.2.2.2.2.2.2, ())).bind fun r6 =>
    bif decide (r6.length + ([r4] : List (Int × List Int)).length < 2932031007402) then
    (aQ.run m_ ((p.1, (p.2.1, (p.2.2.1, (p.2.2.2.1, (p.2.2.2.2.1, (p.2.2.2.2.2.1, (p.2.2.2.2.2.2.1, (p.2.2.2.2.2.2.2.1, (p.2.2.2.2.2.2.2.2.1, (p.2.2.2.2.2.2.2.2.2.1, (p.2.2.2.2.2.2.2.2.2.2.1, (p.2.2.2.2.2.2.2.2.2.2.2.1, (p.2.2.2.2.2.2.2.2.2.2.2.2.1, (r6 ++ ([r4] : List (Int × List Int)))))))))))))))), ())).bind fun (r7, r8, ()) =>
    bif !(decide (r8 = 0)) then
     some (v, ([] : List Int), r8, ())
    else
     some (r3, r7, 0, ()) else none else none
theorem k : KT (O m_) [] ⟨34, [.ag yh, .ag Uh, .one .str, .one .str, .one zq], .jo [.sh (.ag yh), .sh (.one .str), .sh (.one (.int .i64))], run m_⟩ [] := fun _ => by kernel_rfl
def c := co (k m_)
end qg

namespace H7
def xs : List (FuncId × XK) := [(117, .store), (118, .add .u64)]
theorem Q8 : ∀ x ∈ xs, x.2.OK P x.1 := ac ⟨_, Go.Proofs.Tryz.func117, by kernel_rfl, by kernel_rfl, by kernel_rfl, by kernel_rfl⟩ (ac ⟨_, Go.Proofs.Tryz.func118, by kernel_rfl, by kernel_rfl, by kernel_rfl, by kernel_rfl⟩ (an))
def O (m_ : aO) : OO P := ZI Q8
def run (m_ : aO) : Int × Unit -> Option (Int) := fun v_ => match v_ with
| (n, ()) =>
 some (IntKind.u64.wrap (n + 1))
theorem k : KT (O m_) [77, 78] ⟨36, [.one (.int .u64)], .one (.sh (.one (.int .u64))), run m_⟩ [] := fun _ => by kernel_rfl
def c := co (k m_)
end H7

namespace fG
def O : OO P := f_ [kX.c m_, strings_Repeat.c m_, qg.c m_, aG.c m_, H7.c m_]
def o0 : bJ := .c [.b, .dat HY]
def o1 : bJ := .c [.w, .s, .s, .t, .s, .s, .u, .u, .u, .u, .u]
def o2 : bJ := .c [.w, .s, .s, .pV, .s, .s, .u, .u, .u, .u, .u]
def e0 : Spec := ⟨[fs 31 [.q 1] [(0, .pJ 0 2)], fs 9 [.v 12 [10,11], .q 13, .q 7] [(2, .s), (3, .s), (4, .u), (5, .ptr 1 0), (6, .ptr 2 0), (10, .ptr 3 0), (11, .ptr 4 0)]], [(0, .c [.clo 66 [.bool, (.int .i64)], .clo 66 [.bool, (.int .i64)]]), (1, o0), (2, o1), (3, .c [.b, .pV]), (4, o2)], 5⟩
def x0 : List Spec := [⟨[fs 9 [.q 13, .q 7] [(2, .s), (3, .s), (4, .u), (5, .ptr 0 0), (6, .ptr 1 0), (10, .ptr 2 0), (11, .ptr 3 0), (14, .w)]], [(0, o0), (1, o1), (2, .c [.b, .pV]), (3, o2)], 4⟩]
abbrev A0 : Type := LI × LI × Int × (Bool × Int × Unit) × (Bool × Int × Unit) × Bool × (List (List Int × (List LI × (List Int × List Int)))) × Int × LI × LI × LL × LI × LI × Int × Int × Int × Int × Int × Bool × Int × LI × LI × LI × LI × Int × Int × Int × Int × Int × Unit
abbrev B0 : Type := (LI × LI × Int × Int × Bool × (List (List Int × (List LI × (List Int × List Int)))) × Int × LI × LI × LL × LI × LI × Int × Int × Int × Int × Int × Bool × Int × LI × LI × LI × LI × Int × Int × Int × Int × Int × Unit)
def b0 (m_ : aO) (self : A0 -> Option B0) : A0 -> Option B0 := fun v_ => match v_ with
| (unique, aC, t1, m, m1, m2) =>
 bif m.1 then
  bif m1.1 then
   some (unique, aC, t1, 0, m2)
  else
   bif !(decide (m1.2.1 = 0)) then
    some (unique, aC, t1, m1.2.1, m2)
   else
    some (unique, aC, t1, 0, m2)
 else
  bif !(decide (m.2.1 = 0)) then
   some (unique, aC, t1, m.2.1, m2)
  else
   bif m1.1 then
    some (unique, aC, t1, 0, m2)
   else
    bif !(decide (m1.2.1 = 0)) then
     some (unique, aC, t1, m1.2.1, m2)
    else
     some (unique, aC, t1, 0, m2)
theorem k0 : KQ 9 (O m_) [31, 66] e0 x0 [] (b0 m_) := fun _ _ => by kernel_rfl
def l0 := loop m_ (b0 m_)
theorem q0 (v) : l0 .lim v = b0 .lim (l0 .lim) v := KS.q (k0 .lim) v
def s0 := so m_ (k0 m_)
def o3 : bJ := .c [.row QZ]
def e1 : Spec := ⟨[fs 9 [.q 1012, .z 1012, .b 0, .q 127] [(2, .s), (3, .s), (4, .u), (5, .ptr 0 0), (6, .ptr 1 0), (10, .ptr 2 0), (11, .ptr 3 0), (15, .w), (17, .own 4 QZ), (59, .w), (60, .w)]], [(0, o0), (1, o1), (2, .c [.b, .pV]), (3, o2), (4, o3)], 5⟩
def x1 : List Spec := [⟨[fs 9 [.q 127] [(2, .s), (3, .s), (4, .u), (5, .ptr 0 0), (6, .ptr 1 0), (10, .ptr 2 0), (11, .ptr 3 0), (17, .own 4 QZ)]], [(0, o0), (1, o1), (2, .c [.b, .pV]), (3, o2), (4, o3)], 5⟩]
abbrev A1 : Type := LI × LI × Int × Int × Int × Int × Bool × (List (List Int × (List LI × (List Int × List Int)))) × Int × LI × LI × LL × LI × LI × Int × Int × Int × Int × Int × Bool × Int × LI × LI × LI × LI × Int × Int × Int × Int × Int × (List (Int × List Int)) × Unit
abbrev B1 : Type := (LI × LI × Int × Bool × (List (List Int × (List LI × (List Int × List Int)))) × Int × LI × LI × LL × LI × LI × Int × Int × Int × Int × Int × Bool × Int × LI × LI × LI × LI × Int × Int × Int × Int × Int × (List (Int × List Int)) × Unit)
def b1 (self : A1 -> Option B1) : A1 -> Option B1 := fun v_ => match v_ with
| (unique, aC, t1, size, t, t2, m, m1, m2, m3, m4, m5, m6, m7, m8, m9, m10, m11, m12, m13, m14, m15, m16, m17, m18, m19, m20, m21, m22, m23, m24, ()) =>
 bif decide (t2 < t) then
  (strings_Repeat.run m_ (([0] : List Int), (IntKind.i64.wrap (size - 4)), ())).bind fun r =>
  bif decide (m24.length + ([(772, r)] : List (Int × List Int)).length < 2932031007402) then
  self (unique, aC, t1, size, t, (IntKind.i64.wrap (t2 + 1)), m, m1, m2, m3, m4, m5, m6, m7, m8, m9, m10, m11, m12, m13, m14, m15, m16, m17, m18, m19, m20, m21, m22, m23, (m24 ++ ([(772, r)] : List (Int × List Int))), ()) else none
 else
  some (unique, aC, t1, m, m1, m2, m3, m4, m5, m6, m7, m8, m9, m10, m11, m12, m13, m14, m15, m16, m17, m18, m19, m20, m21, m22, m23, m24, ())
theorem k1 : KQ 9 (O m_) [31, 66] e1 x1 [] (b1 m_) := fun _ _ => by kernel_rfl
def l1 := loop m_ (b1 m_)
theorem q1 (v) : l1 .lim v = b1 .lim (l1 .lim) v := KS.q (k1 .lim) v
def s1 := so m_ (k1 m_)
def run : yj × VA × (List Int) × (List Int) × Int × Unit -> Option (yj × VA × (List Int) × Int × Unit) := fun v_ => match v_ with
| (v, x, unique, aC, t1, ()) =>
 bif ay (unique.length : Int) then
 (kX.run m_ (10, decide ((unique.length : Int) = 32), ())).bind fun (e, b, ()) =>
 bif ay (x.2.1.length : Int) then
 (kX.run m_ (19, decide ((x.2.1.length : Int) > 0), ())).bind fun (e1, b1, ()) =>
 (fG.l0 m_ (unique, aC, t1, (e, b, ()), (e1, b1, ()), v.1, v.2, x.1.1, x.1.2.1, x.1.2.2, x.2.1, x.2.2.1, x.2.2.2.1, x.2.2.2.2.1, x.2.2.2.2.2.1, x.2.2.2.2.2.2.1, x.2.2.2.2.2.2.2.1, x.2.2.2.2.2.2.2.2, false, 0, ([] : List Int), ([] : List Int), ([] : List Int), ([] : List Int), 0, 0, 0, 0, 0, ())).bind fun (NR, WW, t11, e2, m, m1, m2, m3, m4, m5, m6, m7, m8, m9, m10, m11, m12, m13, m14, m15, m16, m17, m18, m19, m20, m21, m22, m23, ()) =>
 bif !(decide (e2 = 0)) then
  some ((m, m1), ((m2, (m3, m4)), (m5, (m6, (m7, (m8, (m9, (m10, (m11, m12)))))))), ([] : List Int), e2, ())
 else
  bif inB 0 (m5.length : Int) then
  bif ay ((rd ([] : List Int) m5 0).length : Int) then
  bif ay (m5.length : Int) then
  bif !(decide ((IntKind.i64.wrap (4 + ((rd ([] : List Int) m5 0).length : Int))) = 0)) then
  bif inB 0 (m5.length : Int) then
  (fG.l1 m_ (NR, WW, t11, (IntKind.i64.wrap (4 + ((rd ([] : List Int) m5 0).length : Int))), (mn (IntKind.i64.wrap (8 - (m5.length : Int))) (IntKind.i64.wrap ((IntKind.i64.wrap ((1156 : Int).tdiv (IntKind.i64.wrap (4 + ((rd ([] : List Int) m5 0).length : Int))))) - 1))), 0, m, m1, m2, m3, m4, m5, m6, m7, m8, m9, m10, m11, m12, m13, m14, m15, m16, m17, m18, m19, m20, m21, m22, m23, ([(260, NR), (516, (rd ([] : List Int) m5 0))] : List (Int × List Int)), ())).bind fun (Uk, WX, t12, m24, H6, Em, Ih, Lp, Jy, JW, Lr, m32, Ii, NP, PY, NQ, Uj, XP, VB, VD, XQ, WM, WO, WQ, WR, WS, Zd, Yv, ()) =>
  (qg.run m_ ((m24, H6), (0, (4, (3, (0, (0, (0, (0, (0, (0, (0, (0, (0, (t12, Yv))))))))))))), Ih, WX, ([] : List (Int × List Int)), ())).bind fun (r2, r3, r4, ()) =>
  bif !(decide (r4 = 0)) then
   some ((m24, H6), ((Em, (Ih, Lp)), (Jy, (JW, (Lr, (m32, (Ii, (NP, (PY, NQ)))))))), ([] : List Int), r4, ())
  else
   bif eX 1 (Jy.length : Int) (Jy.length : Int) then
   (aG.run m_ ((cut Jy 1 (Jy.length : Int)), ())).bind fun r5 =>
   (H7.run m_ (Ii, ())).bind fun r6 =>
   some (r2, ((Em, (Ih, Lp)), (r5, (Uk, (r3, (t12, (r6, (NP, (PY, NQ)))))))), r3, 0, ()) else none else none else none else none else none else none else none else none
theorem k : KT (O m_) [31, 66] ⟨9, [.ag yh, .ag Jw, .one .str, .one .str, .one (.int .u64)], .jo [.sh (.ag yh), .sh (.ag Jw), .sh (.one .str), .sh (.one (.int .i64))], run m_⟩ [s0 m_, s1 m_] := fun _ => by kernel_rfl
def c := co (k m_)
end fG

namespace bg
def O : OO P := f_ [fG.c m_, jh.c m_]
def e0 : Spec := ⟨[fs 8 [.q 116, .z 116, .b 0, .q 15] [(1, .s), (12, .w)]], [], 0⟩
def x0 : List Spec := [⟨[fs 8 [.q 15] [(1, .s)]], [], 0⟩]
abbrev A0 : Type := LI × Int × Unit
abbrev B0 : Type := (LI × Unit)
def b0 (m_ : aO) (self : A0 -> Option B0) : A0 -> Option B0 := fun v_ => match v_ with
| (key, t, ()) =>
 bif decide (t < 32) then
  bif decide (key.length + ([107] : List Int).length <= maxStr) then
  self ((key ++ ([107] : List Int)), (IntKind.i64.wrap (t + 1)), ()) else none
 else
  some (key, ())
theorem k0 : KQ 8 (O m_) [] e0 x0 [] (b0 m_) := fun _ _ => by kernel_rfl
def l0 := loop m_ (b0 m_)
theorem q0 (v) : l0 .lim v = b0 .lim (l0 .lim) v := KS.q (k0 .lim) v
def s0 := so m_ (k0 m_)
def run : Unit -> Option (Bool) := fun v_ => match v_ with
| (()) =>
 (bg.l0 m_ (([] : List Int), 0, ())).bind fun (key, ()) =>
 bif Nat.blt 104 70368744177664 then
 (jh.run m_ ((15, (key, key)), ([(List.replicate 104 0)] : List (List Int)), ())).bind fun (r, r1, ()) =>
 bif eX 0 16 (key.length : Int) then
 (fG.run m_ ((false, ([] : List qO)), r, key, (cut key 0 16), 5, ())).bind fun (r2, r3, r4, r5, ()) =>
 bif eX 0 16 (key.length : Int) then
 (fG.run m_ (r2, r3, key, (cut key 0 16), 6, ())).bind fun (r6, r7, r8, r9, ()) =>
 bif ((!((decide (r1 = 0)) && (decide (r5 = 0)))) || (ay (r4.length : Int))) then
 bif ((!(((decide (r1 = 0)) && (decide (r5 = 0))) && (decide ((r4.length : Int) = 988)))) || (ay (r3.2.1.length : Int))) then
 some (((((decide (r1 = 0)) && (decide (r5 = 0))) && (decide ((r4.length : Int) = 988))) && (decide ((r3.2.1.length : Int) = 0))) && (decide (r9 = 19))) else none else none else none else none else none
theorem k : KT (O m_) [] ⟨8, [], .one (.sh (.one .bool)), run m_⟩ [s0 m_] := fun _ => by kernel_rfl
def c := co (k m_)
end bg

namespace bG
def O (m_ : aO) : OO P := f_ []
def e0 : Spec := ⟨[fs 15 [.q 116, .z 116, .b 0, .q 15] [(0, .t), (1, .t), (5, .w)]], [], 0⟩
def x0 : List Spec := [⟨[fs 15 [.q 7461, .b 1, .q 467, .z 116, .b 0, .q 15] [(4, .b)]], [], 0⟩, ⟨[fs 15 [.q 15] []], [], 0⟩]
abbrev A0 : Type := LL × LL × Int × Unit
abbrev B0 : Type := (Bool × Unit) ⊕ (Unit)
def b0 (m_ : aO) (self : A0 -> Option B0) : A0 -> Option B0 := fun v_ => match v_ with
| (a, b, i, ()) =>
 bif ay (a.length : Int) then
 bif decide (i < (a.length : Int)) then
  bif inB i (a.length : Int) then
  bif inB i (b.length : Int) then
  bif !(decide ((rd ([] : List Int) a i) = (rd ([] : List Int) b i))) then
   some (.inl (false, ()))
  else
   self (a, b, (IntKind.i64.wrap (i + 1)), ()) else none else none
 else
  some (.inr (())) else none
theorem k0 : KQ 15 (O m_) [] e0 x0 [] (b0 m_) := fun _ _ => by kernel_rfl
def l0 := loop m_ (b0 m_)
theorem q0 (v) : l0 .lim v = b0 .lim (l0 .lim) v := KS.q (k0 .lim) v
def s0 := so m_ (k0 m_)
def run : (List (List Int)) × (List (List Int)) × Unit -> Option (Bool) := fun v_ => match v_ with
| (a, b, ()) =>
 bif ay (a.length : Int) then
 bif ay (b.length : Int) then
 bif !(decide ((a.length : Int) = (b.length : Int))) then
  some false
 else
  (bG.l0 m_ (a, b, 0, ())).bind fun g_ => match g_ with
  | .inl (t, ()) =>
   some t
  | .inr (()) =>
   some true else none else none
theorem k : KT (O m_) [] ⟨15, [.one (.lst .str), .one (.lst .str)], .one (.sh (.one .bool)), run m_⟩ [s0 m_] := fun _ => by kernel_rfl
def c := co (k m_)
end bG

namespace gW
def O : OO P := f_ [bG.c m_]
def run : VA × VA × Unit -> Option (Bool) := fun v_ => match v_ with
| (a, b, ()) =>
 ((bif ((decide (a.1.1 = b.1.1)) && ((decide (a.1.2.1 = b.1.2.1)) && (decide (a.1.2.2 = b.1.2.2)))) then bG.run m_ (a.2.1, b.2.1, ()) else some false)).bind fun r =>
 some ((((((((((decide (a.1.1 = b.1.1)) && ((decide (a.1.2.1 = b.1.2.1)) && (decide (a.1.2.2 = b.1.2.2)))) && r) && (decide (a.2.2.1 = b.2.2.1))) && (decide (a.2.2.2.1 = b.2.2.2.1))) && (decide (a.2.2.2.2.1 = b.2.2.2.2.1))) && (decide (a.2.2.2.2.2.1 = b.2.2.2.2.2.1))) && (decide (a.2.2.2.2.2.2.1 = b.2.2.2.2.2.2.1))) && (decide (a.2.2.2.2.2.2.2.1 = b.2.2.2.2.2.2.2.1))) && (decide (a.2.2.2.2.2.2.2.2 = b.2.2.2.2.2.2.2.2)))
theorem k : KT (O m_) [] ⟨11, [.ag Jw, .ag Jw], .one (.sh (.one .bool)), run m_⟩ [] := fun _ => by kernel_rfl
def c := co (k m_)
end gW

namespace bW
def O : OO P := f_ [dH.c m_]
def o0 : bJ := .c [.b, .dat HY]
def e0 : Spec := ⟨[fs 10 [.q 116, .z 116, .b 0, .q 15] [(2, .ptr 0 0), (3, .ptr 1 0), (5, .w)]], [(0, o0), (1, o0)], 2⟩
def x0 : List Spec := [⟨[fs 10 [.q 7461, .b 1, .q 467, .z 116, .b 0, .q 15] [(4, .b)]], [], 0⟩, ⟨[fs 10 [.q 15] []], [], 0⟩]
abbrev A0 : Type := Int × Bool × (List (List Int × (List LI × (List Int × List Int)))) × Bool × (List (List Int × (List LI × (List Int × List Int)))) × Unit
abbrev B0 : Type := (Bool × Unit) ⊕ (Unit)
def b0 (self : A0 -> Option B0) : A0 -> Option B0 := fun v_ => match v_ with
| (i, m, m1, m2, m3, ()) =>
 bif ay (m1.length : Int) then
 bif decide (i < (m1.length : Int)) then
  bif inB i (m1.length : Int) then
  bif inB i (m3.length : Int) then
  (dH.run m_ ((rd iH m1 i), (rd iH m3 i), ())).bind fun r =>
  bif (!!!r || (inB i (m1.length : Int))) then
  bif (!!!r || (inB i (m3.length : Int))) then
  bif (!r || (!(decide (((((rd iH m1 i).2).2).2) = ((((rd iH m3 i).2).2).2))))) then
   some (.inl (false, ()))
  else
   self ((IntKind.i64.wrap (i + 1)), m, m1, m2, m3, ()) else none else none else none else none
 else
  some (.inr (())) else none
theorem k0 : KQ 10 (O m_) [] e0 x0 [] (b0 m_) := fun _ _ => by kernel_rfl
def l0 := loop m_ (b0 m_)
theorem q0 (v) : l0 .lim v = b0 .lim (l0 .lim) v := KS.q (k0 .lim) v
def s0 := so m_ (k0 m_)
def run : yj × yj × Unit -> Option (Bool) := fun v_ => match v_ with
| (a, b, ()) =>
 bif ((!(!(!(a.1 == b.1)))) || (ay (a.2.length : Int))) then
 bif ((!(!(!(a.1 == b.1)))) || (ay (b.2.length : Int))) then
 bif ((!(a.1 == b.1)) || (!(decide ((a.2.length : Int) = (b.2.length : Int))))) then
  some false
 else
  (bW.l0 m_ (0, a.1, a.2, b.1, b.2, ())).bind fun g_ => match g_ with
  | .inl (t, ()) =>
   some t
  | .inr (()) =>
   some true else none else none
theorem k : KT (O m_) [] ⟨10, [.ag yh, .ag yh], .one (.sh (.one .bool)), run m_⟩ [s0 m_] := fun _ => by kernel_rfl
def c := co (k m_)
end bW

namespace aH
def O (m_ : aO) : OO P := f_ []
def e0 : Spec := ⟨[fs 40 [.q 116, .z 116, .b 0, .q 15] [(0, .s), (3, .u), (4, .w)]], [], 0⟩
def x0 : List Spec := [⟨[fs 40 [.q 15] [(3, .u)]], [], 0⟩]
abbrev A0 : Type := LI × Int × Int × Unit
abbrev B0 : Type := (Int × Unit)
def b0 (m_ : aO) (self : A0 -> Option B0) : A0 -> Option B0 := fun v_ => match v_ with
| (s, n, i, ()) =>
 bif ay (s.length : Int) then
 bif decide (i < (s.length : Int)) then
  bif inB i (s.length : Int) then
  self (s, (Et .u64 (jP .u64 n 8) (IntKind.u64.wrap (rd 0 s i))), (IntKind.i64.wrap (i + 1)), ()) else none
 else
  some (n, ()) else none
theorem k0 : KQ 40 (O m_) [] e0 x0 [] (b0 m_) := fun _ _ => by kernel_rfl
def l0 := loop m_ (b0 m_)
theorem q0 (v) : l0 .lim v = b0 .lim (l0 .lim) v := KS.q (k0 .lim) v
def s0 := so m_ (k0 m_)
def run : (List Int) × Unit -> Option (Int) := fun v_ => match v_ with
| (s, ()) =>
 (aH.l0 m_ (s, 0, 0, ())).bind fun (n, ()) =>
 some n
theorem k : KT (O m_) [] ⟨40, [.one .str], .one (.sh (.one (.int .u64))), run m_⟩ [s0 m_] := fun _ => by kernel_rfl
def c := co (k m_)
end aH

namespace bD
def O : OO P := f_ [aH.c m_]
def o0 : bJ := .c [.row QZ]
def e0 : Spec := ⟨[fs 38 [.q 56, .z 56, .b 0, .q 15] [(0, .s), (4, .own 5009 QZ)]], [(5009, o0)], 5010⟩
def x0 : List Spec := [⟨[fs 38 [.q 3621, .q 453, .b 1, .z 56, .b 0, .q 15] [(2, .pV), (3, .w)]], [], 0⟩, ⟨[fs 38 [.q 14517, .q 1815, .b 1, .z 56, .b 0, .q 15] [(2, .pV), (3, .w)]], [], 0⟩, ⟨[fs 38 [.q 29045, .q 3631, .b 1, .z 56, .b 0, .q 15] [(2, .pV), (3, .w)]], [], 0⟩, ⟨[fs 38 [.q 15] [(4, .own 0 QZ)]], [(0, o0)], 1⟩]
abbrev A0 : Type := LI × (List (Int × List Int)) × Unit
abbrev B0 : Type := (Int × Unit) ⊕ (Int × Unit) ⊕ (Int × Unit) ⊕ ((List (Int × List Int)) × Unit)
def b0 (self : A0 -> Option B0) : A0 -> Option B0 := fun v_ => match v_ with
| (s, m, ()) =>
 bif !(decide (s = ([] : List Int))) then
  bif ay (s.length : Int) then
  bif decide ((s.length : Int) < 4) then
   some (.inl (10, ()))
  else
   bif eX 2 4 (s.length : Int) then
   (aH.run m_ ((cut s 2 4), ())).bind fun r =>
   bif ((!(!(decide ((IntKind.i64.wrap r) < 16)))) || true) then
   bif ((!(!((decide ((IntKind.i64.wrap r) < 16)) || (!(decide (((IntKind.i64.wrap r).tmod 4) = 0)))))) || (ay (s.length : Int))) then
   bif (((decide ((IntKind.i64.wrap r) < 16)) || (!(decide (((IntKind.i64.wrap r).tmod 4) = 0)))) || (decide ((IntKind.i64.wrap r) > (s.length : Int)))) then
    some (.inr (.inl (10, ())))
   else
    bif ay (m.length : Int) then
    bif decide ((m.length : Int) = 16) then
     some (.inr (.inr (.inl (18, ()))))
    else
     bif eX 0 2 (s.length : Int) then
     (aH.run m_ ((cut s 0 2), ())).bind fun r1 =>
     bif eX 4 (IntKind.i64.wrap r) (s.length : Int) then
     bif decide (m.length + ([((IntKind.i64.wrap r1), (cut s 4 (IntKind.i64.wrap r)))] : List (Int × List Int)).length < 2932031007402) then
     bif eX (IntKind.i64.wrap r) (s.length : Int) (s.length : Int) then
     self ((cut s (IntKind.i64.wrap r) (s.length : Int)), (m ++ ([((IntKind.i64.wrap r1), (cut s 4 (IntKind.i64.wrap r)))] : List (Int × List Int))), ()) else none else none else none else none else none else none else none else none else none
 else
  some (.inr (.inr (.inr (m, ()))))
theorem k0 : KQ 38 (O m_) [] e0 x0 [] (b0 m_) := fun _ _ => by kernel_rfl
def l0 := loop m_ (b0 m_)
theorem q0 (v) : l0 .lim v = b0 .lim (l0 .lim) v := KS.q (k0 .lim) v
def s0 := so m_ (k0 m_)
def run : (List Int) × Unit -> Option ((List (Int × List Int)) × Int × Unit) := fun v_ => match v_ with
| (s, ()) =>
 (bD.l0 m_ (s, ([] : List (Int × List Int)), ())).bind fun g_ => match g_ with
 | .inl (t, ()) =>
  some (([] : List (Int × List Int)), t, ())
 | .inr (.inl (t1, ())) =>
  some (([] : List (Int × List Int)), t1, ())
 | .inr (.inr (.inl (t2, ()))) =>
  some (([] : List (Int × List Int)), t2, ())
 | .inr (.inr (.inr (m, ()))) =>
  some (m, 0, ())
theorem k : KT (O m_) [] ⟨38, [.one .str], .jo [.own QZ, .sh (.one (.int .i64))], run m_⟩ [s0 m_] := fun _ => by kernel_rfl
def c := co (k m_)
end bD

namespace dZ
def O (m_ : aO) : OO P := f_ []
def run (m_ : aO) : Int × Unit -> Option (Int) := fun v_ => match v_ with
| (c, ()) =>
 bif decide (c > 127) then
  some (IntKind.i64.wrap ((IntKind.i64.wrap c) - 256))
 else
  some (IntKind.i64.wrap c)
theorem k : KT (O m_) [] ⟨39, [.one (.int .u8)], .one (.sh (.one (.int .i64))), run m_⟩ [] := fun _ => by kernel_rfl
def c := co (k m_)
end dZ

namespace gX
def O : OO P := f_ [bD.c m_, dZ.c m_, aH.c m_]
def run : (List Int) × Unit -> Option (DT5 × Int × Unit) := fun v_ => match v_ with
| (s, ()) =>
 bif ay (s.length : Int) then
 bif decide ((s.length : Int) < 48) then
  some ((0, (0, (0, (0, (0, (0, (0, (0, (0, (0, (0, (0, (0, ([] : List (Int × List Int))))))))))))))), 11, ())
 else
  bif ay (s.length : Int) then
  bif decide ((s.length : Int) > 1280) then
   some ((0, (0, (0, (0, (0, (0, (0, (0, (0, (0, (0, (0, (0, ([] : List (Int × List Int))))))))))))))), 12, ())
  else
   bif eX 48 (s.length : Int) (s.length : Int) then
   (bD.run m_ ((cut s 48 (s.length : Int)), ())).bind fun (r, r1, ()) =>
   bif !(decide (r1 = 0)) then
    some ((0, (0, (0, (0, (0, (0, (0, (0, (0, (0, (0, (0, (0, ([] : List (Int × List Int))))))))))))))), r1, ())
   else
    bif inB 0 (s.length : Int) then
    bif inB 0 (s.length : Int) then
    bif inB 0 (s.length : Int) then
    bif inB 1 (s.length : Int) then
    bif inB 2 (s.length : Int) then
    (dZ.run m_ ((rd 0 s 2), ())).bind fun r2 =>
    bif inB 3 (s.length : Int) then
    (dZ.run m_ ((rd 0 s 3), ())).bind fun r3 =>
    bif eX 4 8 (s.length : Int) then
    (aH.run m_ ((cut s 4 8), ())).bind fun r4 =>
    bif eX 8 12 (s.length : Int) then
    (aH.run m_ ((cut s 8 12), ())).bind fun r5 =>
    bif eX 12 16 (s.length : Int) then
    (aH.run m_ ((cut s 12 16), ())).bind fun r6 =>
    bif eX 16 24 (s.length : Int) then
    (aH.run m_ ((cut s 16 24), ())).bind fun r7 =>
    bif eX 24 32 (s.length : Int) then
    (aH.run m_ ((cut s 24 32), ())).bind fun r8 =>
    bif eX 32 40 (s.length : Int) then
    (aH.run m_ ((cut s 32 40), ())).bind fun r9 =>
    bif eX 40 48 (s.length : Int) then
    (aH.run m_ ((cut s 40 48), ())).bind fun r10 =>
    some (((IntKind.i64.wrap (iR .u8 (rd 0 s 0) 6)), ((IntKind.i64.wrap (h_ .u8 (iR .u8 (rd 0 s 0) 3) 7)), ((IntKind.i64.wrap (h_ .u8 (rd 0 s 0) 7)), ((IntKind.i64.wrap (rd 0 s 1)), (r2, (r3, ((IntKind.u32.wrap r4), ((IntKind.u32.wrap r5), ((IntKind.u32.wrap r6), (r7, (r8, (r9, (r10, r))))))))))))), 0, ()) else none else none else none else none else none else none else none else none else none else none else none else none else none else none else none else none
theorem k : KT (O m_) [] ⟨12, [.one .str], .jo [.sh (.ag Uh), .sh (.one (.int .i64))], run m_⟩ [] := fun _ => by kernel_rfl
def c := co (k m_)
end gX

namespace bQ
def O (m_ : aO) : OO P := f_ []
def e0 : Spec := ⟨[fs 42 [.q 116, .z 116, .b 0, .q 15] [(0, .dat zq), (1, .w), (5, .own 5010 (.int .i64)), (6, .w)]], [(5010, .c [.row (.int .i64)])], 5011⟩
def x0 : List Spec := [⟨[fs 42 [.q 15] [(5, .own 0 (.int .i64))]], [(0, .c [.row (.int .i64)])], 1⟩]
abbrev A0 : Type := (List (Int × List Int)) × Int × Int × LI × Unit
abbrev B0 : Type := (LI × Unit)
def b0 (m_ : aO) (self : A0 -> Option B0) : A0 -> Option B0 := fun v_ => match v_ with
| (l, kind, i, m, ()) =>
 bif ay (l.length : Int) then
 bif decide (i < (l.length : Int)) then
  bif inB i (l.length : Int) then
  bif decide (((rd ((0 : Int), ([] : List Int)) l i).1) = kind) then
   bif decide (m.length + ([i] : List Int).length < 8796093022208) then
   self (l, kind, (IntKind.i64.wrap (i + 1)), (m ++ ([i] : List Int)), ()) else none
  else
   self (l, kind, (IntKind.i64.wrap (i + 1)), m, ()) else none
 else
  some (m, ()) else none
theorem k0 : KQ 42 (O m_) [] e0 x0 [] (b0 m_) := fun _ _ => by kernel_rfl
def l0 := loop m_ (b0 m_)
theorem q0 (v) : l0 .lim v = b0 .lim (l0 .lim) v := KS.q (k0 .lim) v
def s0 := so m_ (k0 m_)
def run : (List (Int × List Int)) × Int × Unit -> Option (List Int) := fun v_ => match v_ with
| (l, kind, ()) =>
 (bQ.l0 m_ (l, kind, 0, ([] : List Int), ())).bind fun (m, ()) =>
 some m
theorem k : KT (O m_) [] ⟨42, [.one zq, .one (.int .i64)], .one (.own (.int .i64)), run m_⟩ [s0 m_] := fun _ => by kernel_rfl
def c := co (k m_)
end bQ

namespace fP
def O : OO P := f_ [bQ.c m_]
def run : (List (Int × List Int)) × Int × Unit -> Option ((List Int) × Int × Unit) := fun v_ => match v_ with
| (l, kind, ()) =>
 (bQ.run m_ (l, kind, ())).bind fun r =>
 bif ay (r.length : Int) then
 bif decide ((r.length : Int) = 0) then
  some (([] : List Int), 19, ())
 else
  bif ay (r.length : Int) then
  bif decide ((r.length : Int) > 1) then
   some (([] : List Int), 24, ())
  else
   bif inB 0 (r.length : Int) then
   bif inB (rd 0 r 0) (l.length : Int) then
   some ((rd ((0 : Int), ([] : List Int)) l (rd 0 r 0)).2, 0, ()) else none else none else none else none
theorem k : KT (O m_) [] ⟨14, [.one zq, .one (.int .i64)], .jo [.sh (.one .str), .sh (.one (.int .i64))], run m_⟩ [] := fun _ => by kernel_rfl
def c := co (k m_)
end fP

namespace aJ
def O : OO P := f_ [gV.c m_, bg.c m_, fG.c m_, bW.c m_, gW.c m_, gX.c m_, eG.c m_, fP.c m_, bG.c m_]
def o0 : bJ := .c [.w, .w, .w, .w, .w, .w, .dat (.int .u32), .dat (.int .u32), .dat (.int .u32), .u, .u, .u, .u, .dat zq]
def e0 : Spec := ⟨[fs 3 [.q 8180, .z 8180, .b 0, .q 1023] [(4, .u), (15, .ptr 0 0), (17, .s), (133, .t), (134, .w), (135, .w)]], [(0, o0)], 1⟩
def x0 : List Spec := [⟨[fs 3 [.q 2094285, .b 1, .q 65447, .z 8180, .b 0, .q 1023] [(10, .b)]], [], 0⟩, ⟨[fs 3 [.q 1023] [(4, .u), (15, .ptr 0 0)]], [(0, o0)], 1⟩]
abbrev A0 : Type := Int × LI × LL × Int × Int × Int × Int × Int × Int × Int × Int × Int × Int × Int × Int × Int × Int × Int × (List (Int × List Int)) × Unit
abbrev B0 : Type := (Bool × Unit) ⊕ (Int × Int × Int × Int × Int × Int × Int × Int × Int × Int × Int × Int × Int × Int × (List (Int × List Int)) × Unit)
def b0 (m_ : aO) (self : A0 -> Option B0) : A0 -> Option B0 := fun v_ => match v_ with
| (t, c, t1, t2, t3, m) =>
 bif decide (t3 < t2) then
  bif inB t3 (t1.length : Int) then
  bif decide ((rd ([] : List Int) t1 t3) = c) then
   some (.inl (false, ()))
  else
   self (t, c, t1, t2, (IntKind.i64.wrap (t3 + 1)), m) else none
 else
  some (.inr (t, m))
theorem k0 : KQ 3 (O m_) [] e0 x0 [] (b0 m_) := fun _ _ => by kernel_rfl
def l0 := loop m_ (b0 m_)
theorem q0 (v) : l0 .lim v = b0 .lim (l0 .lim) v := KS.q (k0 .lim) v
def s0 := so m_ (k0 m_)
def run : yj × VA × (List Int) × (List Int) × Int × Unit -> Option (Bool) := fun v_ => match v_ with
| (v, x, unique, aC, t, ()) =>
 (gV.run m_ (v, x, ([] : List Int), ())).bind fun r =>
 bif !r then
  (bg.run m_ (())).bind fun r1 =>
  some r1
 else
  (fG.run m_ (v, x, unique, aC, t, ())).bind fun (r2, r3, r4, r5, ()) =>
  bif !(decide (r5 = 0)) then
   (bW.run m_ (v, r2, ())).bind fun r6 =>
   ((bif r6 then gW.run m_ (x, r3, ()) else some false)).bind fun r7 =>
   bif ((!(((r6 && r7) && (decide (r4 = ([] : List Int)))) && (!(!(decide (r5 = 19)))))) || (ay (x.2.1.length : Int))) then
   ((bif (((r6 && r7) && (decide (r4 = ([] : List Int)))) && ((!(decide (r5 = 19))) || (decide ((x.2.1.length : Int) = 0)))) then bg.run m_ (()) else some false)).bind fun r8 =>
   some ((((r6 && r7) && (decide (r4 = ([] : List Int)))) && ((!(decide (r5 = 19))) || (decide ((x.2.1.length : Int) = 0)))) && r8) else none
  else
   (gX.run m_ (r4, ())).bind fun (r9, r10, ()) =>
   bif ((!(!(!(decide (r10 = 0))))) || (ay (x.2.1.length : Int))) then
   bif ((!(!((!(decide (r10 = 0))) || (decide ((x.2.1.length : Int) = 0))))) || (ay (r4.length : Int))) then
   ((bif !(((!(decide (r10 = 0))) || (decide ((x.2.1.length : Int) = 0))) || (decide ((r4.length : Int) > 1280))) then eG.run m_ (r3, ()) else some false)).bind fun r11 =>
   bif ((((!(decide (r10 = 0))) || (decide ((x.2.1.length : Int) = 0))) || (decide ((r4.length : Int) > 1280))) || !r11) then
    some false
   else
    (fP.run m_ (r9.2.2.2.2.2.2.2.2.2.2.2.2.2, 516, ())).bind fun (r12, r13, ()) =>
    bif ((!(!(!(decide (r13 = 0))))) || (inB 0 (x.2.1.length : Int))) then
    bif ((!(!((!(decide (r13 = 0))) || (!(decide (r12 = (rd ([] : List Int) x.2.1 0))))))) || (eX 1 (x.2.1.length : Int) (x.2.1.length : Int))) then
    ((bif !((!(decide (r13 = 0))) || (!(decide (r12 = (rd ([] : List Int) x.2.1 0))))) then bG.run m_ (r3.2.1, (cut x.2.1 1 (x.2.1.length : Int)), ()) else some false)).bind fun r14 =>
    bif ((((((!(decide (r13 = 0))) || (!(decide (r12 = (rd ([] : List Int) x.2.1 0))))) || !r14) || (!(decide (r3.2.2.1 = unique)))) || (!(decide (r3.2.2.2.1 = r4)))) || (!(decide (r3.2.2.2.2.2.1 = (IntKind.u64.wrap (x.2.2.2.2.2.1 + 1)))))) then
     some false
    else
     bif ay (r3.2.1.length : Int) then
     (aJ.l0 m_ (t, r12, r3.2.1, (r3.2.1.length : Int), 0, r9.1, r9.2.1, r9.2.2.1, r9.2.2.2.1, r9.2.2.2.2.1, r9.2.2.2.2.2.1, r9.2.2.2.2.2.2.1, r9.2.2.2.2.2.2.2.1, r9.2.2.2.2.2.2.2.2.1, r9.2.2.2.2.2.2.2.2.2.1, r9.2.2.2.2.2.2.2.2.2.2.1, r9.2.2.2.2.2.2.2.2.2.2.2.1, r9.2.2.2.2.2.2.2.2.2.2.2.2.1, r9.2.2.2.2.2.2.2.2.2.2.2.2.2, ())).bind fun g_ => match g_ with
     | .inl (t1, ()) =>
      some t1
     | .inr (t2, m, m1, m2, m3, m4, m5, m6, m7, m8, m9, m10, m11, m12, m13, ()) =>
      ((bif ((decide (m2 = 3)) && (decide (m12 = t2))) then bg.run m_ (()) else some false)).bind fun r15 =>
      some (((decide (m2 = 3)) && (decide (m12 = t2))) && r15) else none else none else none else none else none
theorem k : KT (O m_) [] ⟨3, [.ag yh, .ag Jw, .one .str, .one .str, .one (.int .u64)], .one (.sh (.one .bool)), run m_⟩ [s0 m_] := fun v_ => match v_ with | (v, x, unique, aC, t, ()) => by kernel_rfl
def c := co (k m_)
end aJ

namespace oU
def O (m_ : aO) : OO P := f_ []
def run (m_ : aO) : Int × Unit -> Option (Int) := fun v_ => match v_ with
| (b, ()) =>
 bif inB b (([99, 124, 119, 123, 242, 107, 111, 197, 48, 1, 103, 43, 254, 215, 171, 118, 202, 130, 201, 125, 250, 89, 71, 240, 173, 212, 162, 175, 156, 164, 114, 192, 183, 253, 147, 38, 54, 63, 247, 204, 52, 165, 229, 241, 113, 216, 49, 21, 4, 199, 35, 195, 24, 150, 5, 154, 7, 18, 128, 226, 235, 39, 178, 117, 9, 131, 44, 26, 27, 110, 90, 160, 82, 59, 214, 179, 41, 227, 47, 132, 83, 209, 0, 237, 32, 252, 177, 91, 106, 203, 190, 57, 74, 76, 88, 207, 208, 239, 170, 251, 67, 77, 51, 133, 69, 249, 2, 127, 80, 60, 159, 168, 81, 163, 64, 143, 146, 157, 56, 245, 188, 182, 218, 33, 16, 255, 243, 210, 205, 12, 19, 236, 95, 151, 68, 23, 196, 167, 126, 61, 100, 93, 25, 115, 96, 129, 79, 220, 34, 42, 144, 136, 70, 238, 184, 20, 222, 94, 11, 219, 224, 50, 58, 10, 73, 6, 36, 92, 194, 211, 172, 98, 145, 149, 228, 121, 231, 200, 55, 109, 141, 213, 78, 169, 108, 86, 244, 234, 101, 122, 174, 8, 186, 120, 37, 46, 28, 166, 180, 198, 232, 221, 116, 31, 75, 189, 139, 138, 112, 62, 181, 102, 72, 3, 246, 14, 97, 53, 87, 185, 134, 193, 29, 158, 225, 248, 152, 17, 105, 217, 142, 148, 155, 30, 135, 233, 206, 85, 40, 223, 140, 161, 137, 13, 191, 230, 66, 104, 65, 153, 45, 15, 176, 84, 187, 22] : List Int).length : Int) then
 some (rd 0 ([99, 124, 119, 123, 242, 107, 111, 197, 48, 1, 103, 43, 254, 215, 171, 118, 202, 130, 201, 125, 250, 89, 71, 240, 173, 212, 162, 175, 156, 164, 114, 192, 183, 253, 147, 38, 54, 63, 247, 204, 52, 165, 229, 241, 113, 216, 49, 21, 4, 199, 35, 195, 24, 150, 5, 154, 7, 18, 128, 226, 235, 39, 178, 117, 9, 131, 44, 26, 27, 110, 90, 160, 82, 59, 214, 179, 41, 227, 47, 132, 83, 209, 0, 237, 32, 252, 177, 91, 106, 203, 190, 57, 74, 76, 88, 207, 208, 239, 170, 251, 67, 77, 51, 133, 69, 249, 2, 127, 80, 60, 159, 168, 81, 163, 64, 143, 146, 157, 56, 245, 188, 182, 218, 33, 16, 255, 243, 210, 205, 12, 19, 236, 95, 151, 68, 23, 196, 167, 126, 61, 100, 93, 25, 115, 96, 129, 79, 220, 34, 42, 144, 136, 70, 238, 184, 20, 222, 94, 11, 219, 224, 50, 58, 10, 73, 6, 36, 92, 194, 211, 172, 98, 145, 149, 228, 121, 231, 200, 55, 109, 141, 213, 78, 169, 108, 86, 244, 234, 101, 122, 174, 8, 186, 120, 37, 46, 28, 166, 180, 198, 232, 221, 116, 31, 75, 189, 139, 138, 112, 62, 181, 102, 72, 3, 246, 14, 97, 53, 87, 185, 134, 193, 29, 158, 225, 248, 152, 17, 105, 217, 142, 148, 155, 30, 135, 233, 206, 85, 40, 223, 140, 161, 137, 13, 191, 230, 66, 104, 65, 153, 45, 15, 176, 84, 187, 22] : List Int) b) else none
theorem k : KT (O m_) [] ⟨174, [.one (.int .u8)], .one (.sh (.one (.int .u8))), run m_⟩ [] := fun _ => by kernel_rfl
def c := co (k m_)
end oU

end
end Go.AM
end
section
namespace Go.AM
def WY : Nat -> Int -> Int -> Int -> Int
 | 0, _, _, r => r
 | n + 1, a, b, r => WY n (bif decide (h_ .u8 a 128 = 0) then jP .u8 a 1 else dX .u8 (jP .u8 a 1) 27) (iR .u8 b 1) (bif decide (h_ .u8 b 1 = 1) then dX .u8 r a else r)
def tm (a b : Int) : Int := WY 8 a b 0
theorem VG : ∀ n a b r, B8 r -> B8 (WY n a b r)
 | 0, _, _, _, h => h
 | n + 1, a, b, r, h => VG n _ _ _ (by cases decide (h_ .u8 b 1 = 1) <;> first | exact h | exact Ac _ _)
theorem Ul (a b : Int) : B8 (tm a b) := VG 8 a b 0 ⟨by decide, by decide⟩
theorem JA : ∀ n a r, WY n a 0 r = r
 | 0, _, _ => rfl
 | n + 1, a, r => by
  rw [WY, show iR .u8 0 1 = 0 from by decide, JA n];rfl
theorem step_a {a : Int} (h : B8 a) : dX .u8 (jP .u8 a 1) (IntKind.u8.wrap (iR .u8 a 7 * 27)) = bif decide (h_ .u8 a 128 = 0) then jP .u8 a 1 else dX .u8 (jP .u8 a 1) 27 :=
 jd (p := fun a => dX .u8 (jP .u8 a 1) (IntKind.u8.wrap (iR .u8 a 7 * 27)) = bif decide (h_ .u8 a 128 = 0) then jP .u8 a 1 else dX .u8 (jP .u8 a 1) 27) (by decide +kernel) h
theorem YH {b : Int} (h : B8 b) : h_ .u8 b 1 = 0 \/ h_ .u8 b 1 = 1 :=
 jd (p := fun b => h_ .u8 b 1 = 0 \/ h_ .u8 b 1 = 1) (by decide +kernel) h
theorem WZ {a : Int} : B8 (bif decide (h_ .u8 a 128 = 0) then jP .u8 a 1 else dX .u8 (jP .u8 a 1) 27) := by
 cases decide (h_ .u8 a 128 = 0)
 ·exact Ac _ _
 ·exact NK _ _
theorem ny {a b : Int} (ha : B8 a) (hb : B8 b) : dM.run .lim (a, b, ()) = some (tm a b) := by
 have key : ∀ (n : Nat) (a b r : Int), B8 a -> B8 r -> 0 <= b -> b < 2 ^ n -> n <= 8 -> dM.l0 .lim (a, b, r, ()) = some (WY n a b r, ()) := by
  intro n
  induction n with
  | zero =>
   intro a b r ha hr h0 h1 _;obtain rfl : b = 0 := by simp at h1; omega
   rw [dM.q0];simp (disch := omega) only [aN, aF, aY, wrap64, au, aA, dec_not, dec_and, dD, bK, cond_true, cond_false, Option.bind_some, Option.bind_none, Bool.or_true, Bool.true_or, Bool.and_true, Bool.true_and, Bool.and_false, Bool.false_and, Bool.or_false, Bool.false_or, Bool.not_true, Bool.not_false, Bool.or_self, Bool.and_self, Bool.not_not, if_true, if_false, and_self, true_and, and_true, and_false, false_and, or_true, true_or, or_false, false_or, not_true_eq_false, not_false_eq_true, decide_true, decide_false, eq_self, if_pos, if_neg, eU, dR, dM.b0];rfl
  | succ n ih =>
   intro a b r ha hr h0 h1 hn;have hb : B8 b := by
    refine ⟨h0, Int.lt_of_lt_of_le h1 ?_⟩;have h2 : (2 : Int) ^ (n + 1) = ((2 ^ (n + 1) : Nat) : Int) := by simp
    have h3 : 2 ^ (n + 1) <= 2 ^ 8 := Nat.pow_le_pow_right (by omega) hn;rw [h2]; omega
   rw [dM.q0];by_cases hz : b = 0
   ·subst hz;rw [JA];simp (disch := omega) only [aN, aF, aY, wrap64, au, aA, dec_not, dec_and, dD, bK, cond_true, cond_false, Option.bind_some, Option.bind_none, Bool.or_true, Bool.true_or, Bool.and_true, Bool.true_and, Bool.and_false, Bool.false_and, Bool.or_false, Bool.false_or, Bool.not_true, Bool.not_false, Bool.or_self, Bool.and_self, Bool.not_not, if_true, if_false, and_self, true_and, and_true, and_false, false_and, or_true, true_or, or_false, false_or, not_true_eq_false, not_false_eq_true, decide_true, decide_false, eq_self, if_pos, if_neg, eU, dR, dM.b0]
   ·have hs : iR .u8 b 1 = b / 2 := by rw [WH]; rfl
    have hm : IntKind.u8.wrap (a * h_ .u8 b 1) = bif decide (h_ .u8 b 1 = 1) then a else 0 := by
     rcases YH hb with e | e
     ·rw [e]; simp; decide
     ·rw [e, Int.mul_one, pX ha]; rfl
    have hx : dX .u8 r (bif decide (h_ .u8 b 1 = 1) then a else 0) = bif decide (h_ .u8 b 1 = 1) then dX .u8 r a else r := by
     cases decide (h_ .u8 b 1 = 1)
     ·exact xor_zero hr
     ·rfl
    have hr' : B8 (bif decide (h_ .u8 b 1 = 1) then dX .u8 r a else r) := by
     cases decide (h_ .u8 b 1 = 1)
     ·exact hr
     ·exact Ac _ _
    have h2 := ih _ (iR .u8 b 1) _ (@WZ a) hr' (by rw [hs]; omega) (by rw [hs, Int.pow_succ] at *; omega) (by omega);simp only [dM.b0, au (show b > 0 by omega), cond_true, step_a ha, hm, hx];rw [h2, WY]
 have := key 8 a b 0 ha ⟨by decide, by decide⟩ hb.1 hb.2 (by omega);simp only [dM.run, this, Option.bind_some];rfl
noncomputable def Aw (b : Int) : Int := (oU.run (.fuel 0) (b, ())).getD 0
def invS : Nat -> Int -> Int -> Int
 | 0, r, _ => r
 | n + 1, r, s => invS n (tm r (tm s s)) (tm s s)
def Um (b n : Int) : Int := Et .u8 (jP .u8 b n) (iR .u8 b (8 - n))
def Un (b : Int) : Int := dX .u8 (dX .u8 (dX .u8 (dX .u8 (dX .u8 (invS 7 1 b) (Um (invS 7 1 b) 1)) (Um (invS 7 1 b) 2)) (Um (invS 7 1 b) 3)) (Um (invS 7 1 b) 4)) 99
theorem Lu {b : Int} (hb : B8 b) : fJ.run .lim (b, ()) = some (invS 7 1 b) := by
 have key : ∀ (n i : Nat) (r s : Int), i + n = 7 -> B8 r -> B8 s -> fJ.l0 .lim (r, s, (i : Int), ()) = some (invS n r s, ()) := by
  intro n
  induction n with
  | zero =>
   intro i r s h _ _;rw [fJ.q0];simp (disch := omega) only [aN, aF, aY, wrap64, au, aA, dec_not, dec_and, dD, bK, cond_true, cond_false, Option.bind_some, Option.bind_none, Bool.or_true, Bool.true_or, Bool.and_true, Bool.true_and, Bool.and_false, Bool.false_and, Bool.or_false, Bool.false_or, Bool.not_true, Bool.not_false, Bool.or_self, Bool.and_self, Bool.not_not, if_true, if_false, and_self, true_and, and_true, and_false, false_and, or_true, true_or, or_false, false_or, not_true_eq_false, not_false_eq_true, decide_true, decide_false, eq_self, if_pos, if_neg, eU, dR, fJ.b0];rfl
  | succ n ih =>
   intro i r s h hr hs;rw [fJ.q0];simp only [fJ.b0, oh i (by omega), au (show (i : Int) < 7 by omega), cond_true, ny hs hs, Option.bind_some, ny hr (Ul s s), ih (i + 1) _ _ (by omega) (Ul _ _) (Ul _ _)];rfl
 have := key 7 0 1 b rfl ⟨by decide, by decide⟩ hb;rw [show ((0 : Nat) : Int) = 0 from rfl] at this;simp only [fJ.run, this, Option.bind_some]
theorem W9 {b : Int} (hb : B8 b) : oQ.run .lim (b, ()) = some (Un b) := by
 simp only [oQ.run, Lu hb, Option.bind_some];have w : ∀ n : Int, nS.run .lim (invS 7 1 b, n, ()) = bif decide (0 <= n) then (bif decide (0 <= IntKind.i64.wrap (8 - n)) then some (Et .u8 (jP .u8 (invS 7 1 b) n) (iR .u8 (invS 7 1 b) (IntKind.i64.wrap (8 - n)))) else none) else none := fun n => rfl
 rw [w, w, w, w];rfl
theorem FC : ∀ n : Nat, n < 256 -> Un n = Aw n := by decide +kernel
theorem NS {b : Int} (hb : B8 b) : oQ.run .lim (b, ()) = some (Aw b) := by rw [W9 hb, jd (p := fun b => Un b = Aw b) FC hb]
theorem NT {b : Int} (hb : B8 b) : B8 (Aw b) := by rw [<- jd (p := fun b => Un b = Aw b) FC hb]; exact Ac _ _
end Go.AM
end
section
namespace Go.AM
abbrev z4 : List Int := List.replicate 4 0
abbrev FD : List Int := List.replicate 16 0
abbrev dh : List Int := List.replicate 256 0
abbrev kL : List Int := [1, 2, 3, 9, 11, 13, 14]
theorem VH : ∀ k : Nat, k < 7 -> 0 <= rd 0 kL (k : Int) /\ rd 0 kL (k : Int) < 16 := by decide
def bY (k : Nat) : List (List Int) :=
 let t := fun j : Int => zl 256 k fun i => tm (i : Int) j
 [dh, t 1, t 2, t 3, dh, dh, dh, dh, dh, t 9, dh, t 11, dh, t 13, t 14, dh]
def Ad (i : Nat) (yb : List (List Int)) : Nat -> List (List Int)
 | 0 => yb
 | k + 1 => (Ad i yb k).set (rd 0 kL (k : Int)).toNat ((rd dh (Ad i yb k) (rd 0 kL (k : Int))).set i (tm (i : Int) (rd 0 kL (k : Int))))
theorem NU (k : Nat) : Ad k (bY k) 7 = bY (k + 1) := by
 have e : Ad k (bY k) 7 = (
  let t := fun j : Int => (zl 256 k fun i => tm (i : Int) j).set k (tm (k : Int) j)
  [dh, t 1, t 2, t 3, dh, dh, dh, dh, dh, t 9, dh, t 11, dh, t 13, t 14, dh]) := rfl
 have h : ∀ j : Int, (zl 256 k fun i => tm (i : Int) j).set k (tm (k : Int) j) = zl 256 (k + 1) fun i => tm (i : Int) j := fun j => DC rfl
 rw [e];simp only [h];rfl
theorem DF : bY 0 = List.replicate 16 dh := by
 unfold bY;simp only [zn];rfl
noncomputable def zu : Nat -> List Int
 | 0 => dh
 | k + 1 => (zu k).set (Aw (k : Int)).toNat (k : Int)
noncomputable def lq (k : Nat) : List Int := zl 256 k fun i => Aw (i : Int)
theorem pF {x : Int} (h : B8 x) : rd 0 (lq 256) x = Aw x := by
 unfold lq;rw [Jv, NM h.1 (by exact h.2), show ((x.toNat : Nat) : Int) = x by have := h.1; omega]
theorem oV {x : Int} (h : B8 x) : rd 0 (rd dh (bY 256) 1) x = tm x 1 /\ rd 0 (rd dh (bY 256) 2) x = tm x 2 /\ rd 0 (rd dh (bY 256) 3) x = tm x 3 := by
 have e : ∀ j : Int, rd 0 (zl 256 256 fun i => tm (i : Int) j) x = tm x j := fun j => by rw [Jv, NM h.1 (by exact h.2), show ((x.toNat : Nat) : Int) = x by have := h.1; omega]
 exact ⟨e 1, e 2, e 3⟩
def word (key : List Int) (j : Nat) : List Int := [rd 0 key ((4 * j : Nat) : Int), rd 0 key ((4 * j + 1 : Nat) : Int), rd 0 key ((4 * j + 2 : Nat) : Int), rd 0 key ((4 * j + 3 : Nat) : Int)]
theorem YI {m : List Int} {k : Nat} (h : k + 4 <= m.length) : (m.drop k).take 4 = [rd 0 m (k : Int), rd 0 m ((k + 1 : Nat) : Int), rd 0 m ((k + 2 : Nat) : Int), rd 0 m ((k + 3 : Nat) : Int)] := by
 rw [kN (show k < m.length by omega), kN (show k + 1 < m.length by omega), kN (show k + 2 < m.length by omega), kN (show k + 3 < m.length by omega)];rw [List.drop_eq_getElem_cons (show k < m.length by omega), List.drop_eq_getElem_cons (show k + 1 < m.length by omega), List.drop_eq_getElem_cons (show k + 2 < m.length by omega), List.drop_eq_getElem_cons (show k + 3 < m.length by omega)];rfl
theorem uS {α : Type} (m : List α) (a b : Nat) : cut m (a : Int) (b : Int) = (m.drop a).take (b - a) := by unfold cut; rw [Int.toNat_natCast, Int.toNat_natCast, List.drop_take]
theorem JB {key : List Int} {j : Nat} (h : 4 * j + 4 <= key.length) : (cut key ((4 * j : Nat) : Int) ((4 * j + 4 : Nat) : Int)).take 4 = word key j := by
 rw [uS, show 4 * j + 4 - 4 * j = 4 by omega, List.take_take, Nat.min_self, YI h];rfl
def Words (W : List (List Int)) : Prop := ∀ w ∈ W, w.length = 4 /\ ∀ x ∈ w, B8 x
theorem Words.at {W : List (List Int)} (h : Words W) {i : Nat} (hi : i < W.length) : (rd z4 W (i : Int)).length = 4 /\ ∀ x ∈ rd z4 W (i : Int), B8 x := h _ (jc (by omega) (by omega))
theorem Words.byte {W : List (List Int)} (h : Words W) {i : Nat} (hi : i < W.length) {j : Int} (h0 : 0 <= j) (hj : j < 4) : B8 (rd 0 (rd z4 W (i : Int)) j) := by
 have := h.at hi;exact this.2 _ (jc h0 (by omega))
noncomputable def Rf (nk : Nat) (i : Nat) (x : Int) (t : List Int) : List Int :=
 if i % nk = 0 then [dX .u8 (Aw (rd 0 t 1)) x, Aw (rd 0 t 2), Aw (rd 0 t 3), Aw (rd 0 t 0)]
 else if nk = 8 /\ i % 8 = 4 then [Aw (rd 0 t 0), Aw (rd 0 t 1), Aw (rd 0 t 2), Aw (rd 0 t 3)]
 else [rd 0 t 0, rd 0 t 1, rd 0 t 2, rd 0 t 3]
def Pg (t w : List Int) : List Int := [dX .u8 (rd 0 t 0) (rd 0 w 0), dX .u8 (rd 0 t 1) (rd 0 w 1), dX .u8 (rd 0 t 2) (rd 0 w 2), dX .u8 (rd 0 t 3) (rd 0 w 3)]
noncomputable def stepW (nk : Nat) (s : List (List Int) × Int) : List (List Int) × Int :=
 (s.1 ++ [Pg (Rf nk s.1.length s.2 (rd z4 s.1 ((s.1.length - 1 : Nat) : Int))) (rd z4 s.1 ((s.1.length - nk : Nat) : Int))], if s.1.length % nk = 0 then tm s.2 2 else s.2)
noncomputable def sched (nk : Nat) (key : List Int) : Nat -> List (List Int) × Int
 | 0 => ((List.range nk).map (word key), 1)
 | k + 1 => stepW nk (sched nk key k)
theorem uK (nk : Nat) (key : List Int) : ∀ k, (sched nk key k).1.length = nk + k
 | 0 => by simp [sched]
 | k + 1 => by rw [sched, stepW, List.length_append, uK nk key k]; rfl
theorem Uo (t w : List Int) : (Pg t w).length = 4 /\ ∀ x ∈ Pg t w, B8 x := by
 refine ⟨rfl, fun x hx => ?_⟩;simp only [Pg, List.mem_cons, List.not_mem_nil, or_false] at hx;rcases hx with rfl | rfl | rfl | rfl <;> exact Ac _ _
theorem yw (nk : Nat) (key : List Int) (hk : 4 * nk <= key.length) (hb : ∀ x ∈ key, B8 x) : ∀ k, Words (sched nk key k).1 /\ B8 (sched nk key k).2
 | 0 => by
  refine ⟨fun w hw => ?_, show B8 1 from ⟨by decide, by decide⟩⟩;obtain ⟨j, hj, rfl⟩ := List.mem_map.1 hw;have hj := List.mem_range.1 hj;refine ⟨rfl, fun x hx => ?_⟩;simp only [word, List.mem_cons, List.not_mem_nil, or_false] at hx;rcases hx with rfl | rfl | rfl | rfl <;> exact hb _ (jc (by omega) (by omega))
 | k + 1 => by
  obtain ⟨h1, h2⟩ := yw nk key hk hb k;refine ⟨fun w hw => ?_, ?_⟩
  ·rcases List.mem_append.1 hw with hw | hw
   ·exact h1 w hw
   ·rw [List.mem_singleton.1 hw]; exact Uo _ _
  ·show B8 (if _ then tm _ 2 else _);split
   ·exact Ul _ _
   ·exact h2
noncomputable def kY (key : List Int) : List (List Int) := (sched (key.length / 4) key (3 * (key.length / 4) + 28)).1
theorem uf (key : List Int) : (kY key).length = 4 * (key.length / 4) + 28 := by unfold kY; rw [uK]; omega
theorem yx (key : List Int) (hb : ∀ x ∈ key, B8 x) : Words (kY key) := (yw _ key (by omega) hb _).1
def qP (W : List (List Int)) (j : Nat) : List Int := rd z4 W ((4 * j : Nat) : Int) ++ (rd z4 W ((4 * j + 1 : Nat) : Int) ++ (rd z4 W ((4 * j + 2 : Nat) : Int) ++ rd z4 W ((4 * j + 3 : Nat) : Int)))
def eH (W : List (List Int)) : List (List Int) := (List.range (W.length / 4)).map (qP W)
theorem JC {W : List (List Int)} (h : Words W) {j : Nat} (hj : 4 * j + 3 < W.length) : (qP W j).length = 16 := by
 unfold qP;simp only [List.length_append, (h.at (show 4 * j < W.length by omega)).1, (h.at (show 4 * j + 1 < W.length by omega)).1, (h.at (show 4 * j + 2 < W.length by omega)).1, (h.at hj).1]
noncomputable def ug (b : List Int) : List Int := tab 16 fun i => Aw (rd 0 b (((i + 4 * (i % 4)) % 16 : Nat) : Int))
def wG (b : List Int) : List Int := tab 16 fun i =>
 dX .u8 (dX .u8 (dX .u8 (dX .u8 0 (tm (rd 0 b ((i / 4 * 4 + i % 4 : Nat) : Int)) 2)) (tm (rd 0 b ((i / 4 * 4 + (i + 1) % 4 : Nat) : Int)) 3)) (tm (rd 0 b ((i / 4 * 4 + (i + 2) % 4 : Nat) : Int)) 1)) (tm (rd 0 b ((i / 4 * 4 + (i + 3) % 4 : Nat) : Int)) 1)
def yA (b k : List Int) : List Int := tab 16 fun i => dX .u8 (rd 0 b (i : Int)) (rd 0 k (i : Int))
noncomputable def Rh (last : Bool) (b k : List Int) : List Int := yA (bif last then ug b else wG (ug b)) k
noncomputable def uh (W : List (List Int)) (b : List Int) : Nat -> List Int
 | 0 => yA b (qP W 0)
 | j + 1 => Rh (decide (j + 2 = W.length / 4)) (uh W b j) (qP W (j + 1))
noncomputable def encS (key b : List Int) : List Int := uh (kY key) b ((kY key).length / 4 - 1)
def DI (b : List Int) : Prop := b.length = 16 /\ ∀ x ∈ b, B8 x
theorem FH {n : Nat} {g : Nat -> Int} (h : ∀ k, k < n -> B8 (g k)) : ∀ x ∈ tab n g, B8 x := by
 intro x hx;obtain ⟨i, hi, rfl⟩ := List.mem_map.1 hx;exact h i (List.mem_range.1 hi)
theorem JD (b k : List Int) : DI (yA b k) := ⟨jm, FH fun _ _ => Ac _ _⟩
theorem H8 (W : List (List Int)) (b : List Int) : ∀ j, DI (uh W b j)
 | 0 => JD _ _
 | _ + 1 => JD _ _
theorem qQ (key b : List Int) : DI (encS key b) := H8 _ _ _
theorem DI.at {b : List Int} (h : DI b) {i : Nat} (hi : i < 16) : B8 (rd 0 b (i : Int)) := h.2 _ (jc (by omega) (by rw [h.1]; omega))
end Go.AM
end
section
namespace Go.AM
theorem LC {α : Type} {d : α} {a b : List α} {k : Nat} (h : k < a.length) : rd d (a ++ b) (k : Int) = rd d a (k : Int) := by unfold rd; rw [Int.toNat_natCast, List.getD_eq_getElem?_getD, List.getD_eq_getElem?_getD, List.getElem?_append_left h]
end Go.AM
end
section
namespace Go.AM
section
variable {ok : Bool} {n dn mu sm four nk x i t t1 t2 tp tq : Int} {key b tw ta out K was kb T sb bk : List Int} {yb W rn : List (List Int)} {last : Bool}
theorem YJ (i : Nat) (hi : i < 256) : aj.l0 .lim ((i : Int), t, 7, 0, ok, key, dn, mu, sm, sb, bk, yb, kL, b, tw, ()) = some (t, ok, key, dn, mu, sm, sb, bk, Ad i yb 7, b, tw, ()) := by
 have e := dI (f := aj.l0 .lim) (fun k => ((i : Int), t, 7, (k : Int), ok, key, dn, mu, sm, sb, bk, Ad i yb k, kL, b, tw, ())) (n := 7) (fun k hk => by
  rw [aj.q0];obtain ⟨h1, h2⟩ := VH k hk;have hB : B8 (rd 0 kL (k : Int)) := ⟨h1, by omega⟩;have Ph : B8 (i : Int) := ⟨by omega, by omega⟩;simp only [aj.b0, au (show (k : Int) < 7 by omega), aF (show (0 : Int) <= k by omega) (show (k : Int) < (kL.length : Int) from show (k : Int) < 7 by omega), pX Ph, ny Ph hB, Option.bind_some, aF h1 (show rd 0 kL (k : Int) < 16 from h2), aF (show (0 : Int) <= i by omega) (show (i : Int) < 256 by omega), cond_true, oh k (by omega), Int.toNat_natCast];rfl)
 refine e.trans ?_;rw [aj.q0];simp only [aj.b0, aA (show ¬ ((7 : Nat) : Int) < 7 by decide), cond_false]
theorem Ri : aj.l1 .lim (0, ok, key, dn, mu, sm, dh, dh, List.replicate 16 dh, b, tw, ()) = some (ok, key, dn, mu, sm, lq 256, zu 256, bY 256, b, tw, ()) := by
 have e := dI (f := aj.l1 .lim) (fun k => ((k : Int), ok, key, dn, mu, sm, lq k, zu k, bY k, b, tw, ())) (n := 256) (fun k hk => by
  rw [aj.q1];have Ph : B8 (k : Int) := ⟨by omega, by omega⟩;have hs := NT Ph;have hm := fun sb bk => YJ (ok := ok) (key := key) (dn := dn) (mu := mu) (sm := sm) (sb := sb) (bk := bk) (yb := bY k) (b := b) (tw := tw) (t := (k : Int))  k hk
  simp only [aj.b1, au (show (k : Int) < 256 by omega), pX Ph, NS Ph, Option.bind_some, aF (show (0 : Int) <= k by omega) (show (k : Int) < 256 by omega), aF hs.1 hs.2, cond_true, show ((([1, 2, 3, 9, 11, 13, 14] : List Int).length : Nat) : Int) = 7 from rfl, aN (show (7 : Int) < 9223372036854775808 by omega), hm, oh k (by omega), NU];rw [show (lq k).set ((k : Int)).toNat (Aw k) = lq (k + 1) from DC rfl];rfl)
 rw [show lq 0 = dh from zn, DF, show zu 0 = dh from rfl, show ((0 : Nat) : Int) = 0 from rfl] at e;refine e.trans ?_;rw [aj.q1];simp only [aj.b1, aA (show ¬ ((256 : Nat) : Int) < 256 by decide), cond_false]
theorem Ur {q : Nat} (hk : kb.length = 4 * q) (hq : q <= 100) : aj.l2 .lim (0, nk, ok, 4, key, dn, mu, sm, sb, bk, yb, b, tw, kb, [], ()) = some (nk, ok, key, dn, mu, sm, sb, bk, yb, b, tw, (List.range q).map (word kb), ()) := by
 have e := dI (f := aj.l2 .lim) (fun k => (((4 * k : Nat) : Int), nk, ok, 4, key, dn, mu, sm, sb, bk, yb, b, tw, kb, (List.range k).map (word kb), ())) (n := q) (fun k hkq => by
  rw [aj.q2];have w1 : IntKind.i64.wrap (((4 * k : Nat) : Int) + 4) = ((4 * k + 4 : Nat) : Int) := by rw [wrap64 (by omega) (by omega)]; omega
  have w2 : mn 4 ((kb.length : Int) - ((4 * k : Nat) : Int)) = 4 := by rw [dR]; omega
  have w3 : (cut kb ((4 * k : Nat) : Int) ((4 * k + 4 : Nat) : Int)).length = 4 := by rw [uS, List.length_take, List.length_drop]; omega
  have w4 : (Nat.ble 1 4 && Nat.ble 4 (cut kb ((4 * k : Nat) : Int) ((4 * k + 4 : Nat) : Int)).length) = true := by rw [w3]; rfl
  simp only [aj.b2, aN (show (kb.length : Int) < 9223372036854775808 by omega), au (show ((4 * k : Nat) : Int) < (kb.length : Int) by omega), aY (show (0 : Int) <= ((4 * k : Nat) : Int) by omega) (show ((4 * k : Nat) : Int) <= (kb.length : Int) by omega) (Int.le_refl _), aN (show (kb.length : Int) - ((4 * k : Nat) : Int) < 9223372036854775808 by omega), w2, w1, aY (show (0 : Int) <= ((4 * k : Nat) : Int) by omega) (show ((4 * k : Nat) : Int) <= ((4 * k + 4 : Nat) : Int) by omega) (Int.le_refl _), au (show ((4 * k + 4 : Nat) : Int) <= (kb.length : Int) by omega), Bool.and_self, w4, cond_true];rw [cond_pos (by simp; omega), JB (by omega)];simp only [List.range_succ, List.map_append, List.map_cons, List.map_nil];rfl)
 refine e.trans ?_;rw [aj.q2];simp only [aj.b2, aN (show (kb.length : Int) < 9223372036854775808 by omega), aA (show ¬ ((4 * q : Nat) : Int) < (kb.length : Int) by omega), cond_true, cond_false]
theorem YK (hW : Words W) {i nk : Nat} (h1 : nk <= i) (h2 : i <= W.length) (h3 : 0 < nk) (h4 : i < 1000) (hT : T.length = 4) : aj.l3 .lim ((nk : Int), x, (i : Int), 0, ok, T, key, dn, mu, sm, sb, bk, yb, b, tw, W, ()) = some ((nk : Int), x, (i : Int), ok, Pg T (rd z4 W ((i - nk : Nat) : Int)), key, dn, mu, sm, sb, bk, yb, b, tw, W, ()) := by
 have w : IntKind.i64.wrap ((i : Int) - (nk : Int)) = ((i - nk : Nat) : Int) := by rw [wrap64 (by omega) (by omega)]; omega
 have e := iP (f := aj.l3 .lim) (fun k T => ((nk : Int), x, (i : Int), (k : Int), ok, T, key, dn, mu, sm, sb, bk, yb, b, tw, W, ())) (fun k v => dX .u8 v (rd 0 (rd z4 W ((i - nk : Nat) : Int)) (k : Int))) T hT (fun k hk m' hm hj => by
  rw [aj.q3];simp only [aj.b3, au (show (k : Int) < 4 by omega), aF (show (0 : Int) <= k by omega) (show (k : Int) < 4 by omega), w, aF (show (0 : Int) <= ((i - nk : Nat) : Int) by omega) (show ((i - nk : Nat) : Int) < (W.length : Int) by omega), cond_true, oh k (by omega), hj k (Nat.le_refl _), Int.toNat_natCast])
 refine e.trans ?_;rw [aj.q3];simp only [aj.b3, aA (show ¬ ((4 : Nat) : Int) < 4 by decide), cond_false];rfl
end
end Go.AM
end
section
namespace Go.AM
section
variable {ok : Bool} {n dn mu sm four x i t t1 t2 tp tq : Int} {key b tw ta out K was kb T sb bk : List Int} {yb W rn : List (List Int)} {last : Bool}
theorem W_ (a b c d : Int) : ((((List.replicate 4 (0 : Int)).set 0 a).set 1 b).set 2 c).set 3 d = [a, b, c, d] := rfl
theorem Us {nk : Nat} (hn : nk = 4 \/ nk = 8) (hk : 4 * nk <= kb.length) (hb : ∀ x ∈ kb, B8 x) :
  aj.l4 .lim ((nk : Int), 1, (nk : Int), ok, key, dn, mu, sm, lq 256, bk, yb, b, tw, (List.range nk).map (word kb), ()) = some (ok, key, dn, mu, sm, lq 256, bk, yb, b, tw, (sched nk kb (3 * nk + 28)).1, ()) := by
 have e := dI (f := aj.l4 .lim) (fun k => ((nk : Int), (sched nk kb k).2, ((nk + k : Nat) : Int), ok, key, dn, mu, sm, lq 256, bk, yb, b, tw, (sched nk kb k).1, ())) (n := 3 * nk + 28) (fun k hkq => by
  rw [aj.q4];obtain ⟨hW, hx⟩ := yw nk kb hk hb k;have hl := uK nk kb k;have hs : sched nk kb (k + 1) = stepW nk (sched nk kb k) := rfl;rw [hs];unfold stepW;generalize hq : sched nk kb k = q at hW hx hl;obtain ⟨W, x⟩ := q;simp only at hW hx hl ⊢
  have hi0 : nk + k < 1000 := by omega
  generalize hi : nk + k = i at hl hi0;have hw := hW.at (show i - 1 < W.length by omega);have hb0 := hW.byte (show i - 1 < W.length by omega) (j := 0) (by omega) (by omega);have hb1 := hW.byte (show i - 1 < W.length by omega) (j := 1) (by omega) (by omega);have hb2 := hW.byte (show i - 1 < W.length by omega) (j := 2) (by omega) (by omega);have hb3 := hW.byte (show i - 1 < W.length by omega) (j := 3) (by omega) (by omega);have w1 : IntKind.i64.wrap (4 * IntKind.i64.wrap ((nk : Int) + 7)) = ((4 * nk + 28 : Nat) : Int) := by rw [wrap64 (n := (nk : Int) + 7) (by omega) (by omega), wrap64 (by omega) (by omega)]; omega
  have w2 : IntKind.i64.wrap ((i : Int) - 1) = ((i - 1 : Nat) : Int) := by rw [wrap64 (by omega) (by omega)]; omega
  have m1 : ((i : Int)).tmod (nk : Int) = ((i % nk : Nat) : Int) := by rw [Int.tmod_eq_emod_of_nonneg (Int.natCast_nonneg i)]; simp
  have m2 : ((i : Int)).tmod 8 = ((i % 8 : Nat) : Int) := by rw [Int.tmod_eq_emod_of_nonneg (Int.natCast_nonneg i)]; simp
  have LD := fun x T hT => YK (ok := ok) (key := key) (dn := dn) (mu := mu) (sm := sm) (sb := lq 256) (bk := bk) (yb := yb) (b := b) (tw := tw) (x := x) (T := T)  hW (i := i) (nk := nk) (by omega) (by omega) (by omega) (by omega) hT
  have cap : ∀ T : List Int, decide (W.length + ([T] : List (List Int)).length < 17592186044416) = true := fun T => au (by simp; omega)
  simp only [aj.b4, w1, au (show (i : Int) < ((4 * nk + 28 : Nat) : Int) by omega), w2, aF (show (0 : Int) <= ((i - 1 : Nat) : Int) by omega) (show ((i - 1 : Nat) : Int) < (W.length : Int) by omega), aA (show ¬ (nk : Int) = 0 by omega), m1, m2, cond_true, Bool.not_false, aF hb0.1 hb0.2, aF hb1.1 hb1.2, aF hb2.1 hb2.2, aF hb3.1 hb3.2, pF hb0, pF hb1, pF hb2, pF hb3, W_, Bool.or_true];rw [hl];unfold Rf;by_cases c1 : i % nk = 0
  ·rw [au (show ((i % nk : Nat) : Int) = 0 by omega), if_pos c1, if_pos c1];simp only [cond_true, ny hx (show B8 2 from ⟨by decide, by decide⟩), Option.bind_some];rw [LD _ _ rfl];simp only [Option.bind_some];rw [cond_pos (by simp; omega), oh i (by omega)];rw [show i + 1 = nk + (k + 1) by omega]
  ·rw [aA (show ¬ ((i % nk : Nat) : Int) = 0 by omega), if_neg c1, if_neg c1];simp only [cond_false];by_cases c2 : nk = 8 /\ i % 8 = 4
   ·rw [au (show (nk : Int) = 8 by omega), au (show ((i % 8 : Nat) : Int) = 4 by omega), if_pos c2];simp only [Bool.and_self, cond_true];rw [LD _ _ rfl];simp only [Option.bind_some];rw [cond_pos (by simp; omega), oh i (by omega)];rw [show i + 1 = nk + (k + 1) by omega]
   ·have : (decide ((nk : Int) = 8) && decide (((i % 8 : Nat) : Int) = 4)) = false := by
     by_cases c3 : nk = 8
     ·rw [aA (show ¬ ((i % 8 : Nat) : Int) = 4 by omega), Bool.and_false]
     ·rw [aA (show ¬ (nk : Int) = 8 by omega), Bool.false_and]
    rw [this, if_neg c2];simp only [cond_false];rw [LD _ _ hw.1];simp only [Option.bind_some];rw [cond_pos (by simp; omega), oh i (by omega), <- list4 hw.1];rw [show i + 1 = nk + (k + 1) by omega])
 refine (show _ = _ from e).trans ?_;rw [aj.q4];have w1 : IntKind.i64.wrap (4 * IntKind.i64.wrap ((nk : Int) + 7)) = ((4 * nk + 28 : Nat) : Int) := by rw [wrap64 (n := (nk : Int) + 7) (by omega) (by omega), wrap64 (by omega) (by omega)]; omega
 simp only [aj.b4, w1, aA (show ¬ ((nk + (3 * nk + 28) : Nat) : Int) < ((4 * nk + 28 : Nat) : Int) by omega), cond_false]
end
end Go.AM
end
section
namespace Go.AM
theorem FI {l : List (List Int)} {k : Nat} (h : k < l.length) : (l.take (k + 1)).flatten = (l.take k).flatten ++ rd [] l (k : Int) := by rw [Ba (d := ([] : List Int)) h, List.flatten_append]; simp
theorem yB (l : List (List Int)) (k : Nat) : (l.take k).flatten.length <= l.flatten.length := by
 have : l.flatten = (l.take k).flatten ++ (l.drop k).flatten := by rw [<- List.flatten_append, List.take_append_drop]
 rw [this, List.length_append]; omega
theorem FK (l : List (List Int)) (h : l.flatten.length <= 1000000) (hl : l.length <= 1000000) : aB.run .lim (l, ()) = some l.flatten := by
 have e := dI (f := aB.l0 .lim) (fun k => (l, (((l.take k).flatten.length : Nat) : Int), l, (l.length : Int), (k : Int), ())) (n := l.length) (fun k hk => by
  rw [aB.q0];have h1 := FI hk;have h2 := yB l (k + 1);rw [h1, List.length_append] at h2;have w : IntKind.i64.wrap ((((l.take k).flatten.length : Nat) : Int) + ((rd ([] : List Int) l (k : Int)).length : Int)) = (((l.take (k + 1)).flatten.length : Nat) : Int) := by rw [wrap64 (by omega) (by omega), h1, List.length_append]; omega
  simp only [aB.b0, au (show (k : Int) < (l.length : Int) by omega), aF (show (0 : Int) <= k by omega) (show (k : Int) < (l.length : Int) by omega), aI (show (rd ([] : List Int) l (k : Int)).length < 9223372036854775808 by omega), w, aA (show ¬ ((((l.take (k + 1)).flatten.length : Nat) : Int) < 0) by omega), cond_true, cond_false, oh k (by omega)])
 have e1 := fun N : Nat => fun hN : N = l.flatten.length => dI (f := aB.l1 .lim) (fun k => ((((l.take k).flatten.length : Nat) : Int), l, (l.length : Int), (k : Int), (l.take k).flatten ++ List.replicate (N - (l.take k).flatten.length) 0, ())) (n := l.length) (fun k hk => by
  rw [aB.q1];have h1 := FI hk;have h2 := yB l (k + 1);rw [h1, List.length_append] at h2;simp only [aB.b1, au (show (k : Int) < (l.length : Int) by omega), aF (show (0 : Int) <= k by omega) (show (k : Int) < (l.length : Int) by omega), cond_true, oh k (by omega), Int.toNat_natCast];have hc : (decide (((l.take k).flatten ++ List.replicate (N - (l.take k).flatten.length) (0 : Int)).length + (rd ([] : List Int) l (k : Int)).length < 70368744177664) && decide (0 <= (((l.take k).flatten.length : Nat) : Int))) = true := by rw [List.length_append, List.length_replicate, au (by omega), au (by omega)]; rfl
  rw [cond_pos hc, h1, List.length_append];have e3 : ((((l.take k).flatten.length : Nat) : Int) + ((rd ([] : List Int) l (k : Int)).length : Int)) = (((l.take k).flatten.length + (rd ([] : List Int) l (k : Int)).length : Nat) : Int) := by omega
  rw [e3, List.take_append_of_le_length (Nat.le_refl _), List.take_length, List.drop_append, List.drop_eq_nil_of_le (by omega), List.nil_append, List.drop_replicate, List.append_assoc];have e4 : N - (l.take k).flatten.length - ((l.take k).flatten.length + (rd ([] : List Int) l (k : Int)).length - (l.take k).flatten.length) = N - ((l.take k).flatten.length + (rd ([] : List Int) l (k : Int)).length) := by omega
  rw [e4])
 rw [List.take_length, List.take_zero, show ((([] : List (List Int)).flatten.length : Nat) : Int) = 0 from rfl, show ((0 : Nat) : Int) = 0 from rfl] at e;have ee : aB.l0 .lim (l, ((l.flatten.length : Nat) : Int), l, (l.length : Int), (l.length : Int), ()) = some (l, ((l.flatten.length : Nat) : Int), ()) := by
  rw [aB.q0];simp only [aB.b0, aA (show ¬ (l.length : Int) < (l.length : Int) by omega), cond_false]
 have ee1 : ∀ m, aB.l1 .lim (((l.flatten.length : Nat) : Int), l, (l.length : Int), (l.length : Int), m, ()) = some (((l.flatten.length : Nat) : Int), m, ()) := fun m => by
  rw [aB.q1];simp only [aB.b1, aA (show ¬ (l.length : Int) < (l.length : Int) by omega), cond_false]
 have e2 : aB.l1 .lim (0, l, (l.length : Int), 0, List.replicate l.flatten.length 0, ()) = some (((l.flatten.length : Nat) : Int), l.flatten, ()) := by
  have := e1 _ rfl;rw [List.take_length, List.take_zero, Nat.sub_self, List.replicate_zero, List.append_nil] at this;exact this.trans (ee1 _)
 simp only [aB.run, aI (show l.length < 9223372036854775808 by omega), cond_true, e, ee, Option.bind_some, Int.sub_zero, aA (show ¬ ((l.flatten.length : Nat) : Int) < 0 by omega), cond_false, wrap64 (show -9223372036854775808 <= ((l.flatten.length : Nat) : Int) by omega) (show ((l.flatten.length : Nat) : Int) < 9223372036854775808 by omega), Int.toNat_natCast];by_cases h0 : l.flatten.length = 0
 ·rw [aA (show ¬ ((l.flatten.length : Nat) : Int) > 0 by omega)];rw [h0, List.replicate_zero] at e2;simp only [cond_false];rw [e2];simp [List.length_eq_zero_iff.1 h0]
 ·rw [au (show ((l.flatten.length : Nat) : Int) > 0 by omega)];have hb : Nat.blt l.flatten.length 70368744177664 = true := by rw [Nat.blt_eq]; omega
  simp only [cond_true, au (show (0 : Int) <= ((l.flatten.length : Nat) : Int) by omega), hb, Bool.and_self, e2, Option.bind_some, List.drop_zero, Int.toNat_natCast, List.take_length];rw [cond_pos (aY (Int.le_refl 0) (Int.le_refl 0) (Int.natCast_nonneg _))]
end Go.AM
end
section
namespace Go.AM
section
variable {ok : Bool} {n dn mu sm four x i t t1 t2 tp tq : Int} {key b tw ta out K was kb T sb bk : List Int} {yb W rn : List (List Int)} {last : Bool}
theorem Rj {q : Nat} (hW : Words W) (hl : W.length = 4 * q) (hq : q <= 100) : aj.l5 .lim (0, ok, 4, key, dn, mu, sm, sb, bk, yb, b, tw, W, [], ()) = some (ok, key, dn, mu, sm, sb, bk, yb, b, tw, eH W, ()) := by
 have e := dI (f := aj.l5 .lim) (fun k => (((4 * k : Nat) : Int), ok, 4, key, dn, mu, sm, sb, bk, yb, b, tw, W, (List.range k).map (qP W), ())) (n := q) (fun k hkq => by
  rw [aj.q5];have w1 : IntKind.i64.wrap (((4 * k : Nat) : Int) + 4) = ((4 * k + 4 : Nat) : Int) := by rw [wrap64 (by omega) (by omega)]; omega
  have w2 : mn 4 ((W.length : Int) - ((4 * k : Nat) : Int)) = 4 := by rw [dR]; omega
  have w3 : (cut W ((4 * k : Nat) : Int) ((4 * k + 4 : Nat) : Int)).length = 4 := by rw [uS, List.length_take, List.length_drop]; omega
  have at_ : ∀ j : Nat, j < 4 -> rd z4 (cut W ((4 * k : Nat) : Int) ((4 * k + 4 : Nat) : Int)) (j : Int) = rd z4 W ((4 * k + j : Nat) : Int) := fun j hj => by
   rw [uS];unfold rd;rw [Int.toNat_natCast, Int.toNat_natCast, List.getD_eq_getElem?_getD, List.getD_eq_getElem?_getD, List.getElem?_take_of_lt (by omega), List.getElem?_drop]
  have a0 : rd z4 (cut W ((4 * k : Nat) : Int) ((4 * k + 4 : Nat) : Int)) 0 = rd z4 W ((4 * k : Nat) : Int) := at_ 0 (by omega);have a1 : rd z4 (cut W ((4 * k : Nat) : Int) ((4 * k + 4 : Nat) : Int)) 1 = rd z4 W ((4 * k + 1 : Nat) : Int) := at_ 1 (by omega);have a2 : rd z4 (cut W ((4 * k : Nat) : Int) ((4 * k + 4 : Nat) : Int)) 2 = rd z4 W ((4 * k + 2 : Nat) : Int) := at_ 2 (by omega);have a3 : rd z4 (cut W ((4 * k : Nat) : Int) ((4 * k + 4 : Nat) : Int)) 3 = rd z4 W ((4 * k + 3 : Nat) : Int) := at_ 3 (by omega);have c4 : ∀ l : List Int, l.length = 4 -> cut l 0 4 = l := fun l hl => by
   have := uS l 0 4;rw [show ((0 : Nat) : Int) = 0 from rfl, show ((4 : Nat) : Int) = 4 from rfl] at this;rw [this, List.drop_zero, List.take_of_length_le (by omega)]
  have l0 := (hW.at (show 4 * k < W.length by omega)).1;have l1 := (hW.at (show 4 * k + 1 < W.length by omega)).1;have l2 := (hW.at (show 4 * k + 2 < W.length by omega)).1;have l3 := (hW.at (show 4 * k + 3 < W.length by omega)).1;have hfl : [rd z4 W ((4 * k : Nat) : Int), rd z4 W ((4 * k + 1 : Nat) : Int), rd z4 W ((4 * k + 2 : Nat) : Int), rd z4 W ((4 * k + 3 : Nat) : Int)].flatten = qP W k := by simp [qP]
  have hrl := JC hW (j := k) (by omega);have qA := FK [rd z4 W ((4 * k : Nat) : Int), rd z4 W ((4 * k + 1 : Nat) : Int), rd z4 W ((4 * k + 2 : Nat) : Int), rd z4 W ((4 * k + 3 : Nat) : Int)] (by rw [hfl, hrl]; omega) (by simp);rw [hfl] at qA;simp only [aj.b5, aN (show (W.length : Int) < 9223372036854775808 by omega), au (show ((4 * k : Nat) : Int) < (W.length : Int) by omega), aY (show (0 : Int) <= ((4 * k : Nat) : Int) by omega) (show ((4 * k : Nat) : Int) <= (W.length : Int) by omega) (Int.le_refl _), aN (show (W.length : Int) - ((4 * k : Nat) : Int) < 9223372036854775808 by omega), w2, w1, aY (show (0 : Int) <= ((4 * k : Nat) : Int) by omega) (show ((4 * k : Nat) : Int) <= ((4 * k + 4 : Nat) : Int) by omega) (Int.le_refl _), au (show ((4 * k + 4 : Nat) : Int) <= (W.length : Int) by omega), Bool.and_self, w3, cond_true, aF (show (0 : Int) <= 0 by omega) (show (0 : Int) < ((4 : Nat) : Int) by decide), aF (show (0 : Int) <= 1 by omega) (show (1 : Int) < ((4 : Nat) : Int) by decide), aF (show (0 : Int) <= 2 by omega) (show (2 : Int) < ((4 : Nat) : Int) by decide), aF (show (0 : Int) <= 3 by omega) (show (3 : Int) < ((4 : Nat) : Int) by decide), a0, a1, a2, a3, c4 _ l0, c4 _ l1, c4 _ l2, c4 _ l3, qA, Option.bind_some, hrl, List.take_of_length_le (Nat.le_of_eq hrl)];rw [show (Nat.ble 1 16 && Nat.ble 16 16) = true from rfl, cond_true, cond_pos (by simp; omega)];simp only [List.range_succ, List.map_append, List.map_cons, List.map_nil];rfl)
 refine (show _ = _ from e).trans ?_;rw [aj.q5];simp only [aj.b5, aN (show (W.length : Int) < 9223372036854775808 by omega), aA (show ¬ ((4 * q : Nat) : Int) < (W.length : Int) by omega), cond_true, cond_false];unfold eH;rw [hl, Nat.mul_div_cancel_left _ (by omega)]
theorem Ut (hk : key.length = 16 \/ key.length = 32) (hb : ∀ x ∈ key, B8 x) : aj.l6 .lim (key, 0, 0, sm, dh, dh, List.replicate 16 dh, b, tw, ()) = some (b, tw, key, 1, 0, sm, lq 256, zu 256, bY 256, eH (kY key), ()) := by
 have h0 : aj.l6 .lim (key, 0, 0, sm, dh, dh, List.replicate 16 dh, b, tw, ()) = aj.b6 .lim (aj.l6 .lim) (key, 0, 0, sm, dh, dh, List.replicate 16 dh, b, tw, ()) := aj.q6 _;rw [h0];have hd : (key.length : Int).tdiv 4 = ((key.length / 4 : Nat) : Int) := by rw [Int.tdiv_eq_ediv_of_nonneg (Int.natCast_nonneg _)]; simp
 have w1 : IntKind.i64.wrap ((key.length : Int).tdiv 4) = ((key.length / 4 : Nat) : Int) := by rw [hd, wrap64 (by omega) (by omega)]
 have t := Ri (ok := true) (key := key) (dn := 0) (mu := 1) (sm := sm) (b := b) (tw := tw);have s := Ur (kb := key) (q := key.length / 4) (nk := ((key.length / 4 : Nat) : Int)) (ok := true) (key := key) (dn := 0) (mu := 1) (sm := sm) (sb := lq 256) (bk := zu 256) (yb := bY 256) (b := b) (tw := tw)  (by omega) (by omega);have w := Us (kb := key) (nk := key.length / 4) (ok := true) (key := key) (dn := 0) (mu := 1) (sm := sm) (bk := zu 256) (yb := bY 256) (b := b) (tw := tw)  (by omega) (by omega) hb;have r := Rj (W := kY key) (q := key.length / 4 + 7) (ok := true) (key := key) (dn := 0) (mu := 1) (sm := sm) (sb := lq 256) (bk := zu 256) (yb := bY 256) (b := b) (tw := tw)  (yx key hb) (by rw [uf]; omega) (by omega);have hs : fQ.run .lim (true, ()) = some 1 := rfl;have hw : (sched (key.length / 4) key (3 * (key.length / 4) + 28)).1 = kY key := rfl;simp only [aj.b6, decide_true, Bool.not_true, Bool.not_false, cond_true, t, Option.bind_some, aN (show (key.length : Int) < 9223372036854775808 by omega), w1];rw [s];simp only [Option.bind_some];rw [w];simp only [Option.bind_some];rw [hw, r];simp only [Option.bind_some, hs, show IntKind.i32.wrap (1 + -1) = 0 from by decide, decide_true, Bool.not_true, cond_false]
end
end Go.AM
end
