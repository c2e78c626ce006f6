import Derived.Test.YtepefklelohplaaGreatPart2

/-! The functions that the laws of this seat reach, as plain functions, and what these answer; no condition. -/
set_option linter.unusedSimpArgs false
set_option linter.unusedVariables false

section
namespace Go.AM
theorem wrapu32 (n : Int) : IntKind.u32.wrap n = n % 4294967296 := by
 unfold IntKind.wrap; simp [IntKind.signed, IntKind.bits]
theorem or_nat {w x y : Nat} (hx : x < 2 ^ w) (hy : y < 2 ^ w) : (BitVec.ofInt w (x : Int) ||| BitVec.ofInt w (y : Int)).toNat = x ||| y := by
 rw [BitVec.toNat_or, BitVec.toNat_ofInt, BitVec.toNat_ofInt]
 have e : ∀ z : Nat, z < 2 ^ w → ((z : Int) % ((2 ^ w : Nat) : Int)).toNat = z := fun z hz => by
  rw [← Int.natCast_emod, Int.toNat_natCast, Nat.mod_eq_of_lt hz]
 rw [e x hx, e y hy]
theorem or_add {a b m : Nat} (h : b < 2 ^ m) : 2 ^ m * a ||| b = 2 ^ m * a + b := (Nat.two_pow_add_eq_or_of_lt h a).symm
theorem ior32 {a b : Nat} (m : Nat) (h : b < 2 ^ m) (hm : 2 ^ m * a + b < 4294967296) : ior .u32 ((2 ^ m * a : Nat) : Int) (b : Int) = ((2 ^ m * a + b : Nat) : Int) := by
 show IntKind.u32.wrap ((BitVec.ofInt 32 ((2 ^ m * a : Nat) : Int) ||| BitVec.ofInt 32 (b : Int)).toNat : Int) = _
 rw [or_nat (Nat.lt_of_le_of_lt (Nat.le_add_right _ _) hm) (Nat.lt_of_le_of_lt (Nat.le_add_left _ _) hm), or_add h, wrapu32]
 omega
theorem ior64 {a b : Nat} (m : Nat) (h : b < 2 ^ m) (hm : 2 ^ m * a + b < 9223372036854775808) : ior .i64 ((2 ^ m * a : Nat) : Int) (b : Int) = ((2 ^ m * a + b : Nat) : Int) := by
 show IntKind.i64.wrap ((BitVec.ofInt 64 ((2 ^ m * a : Nat) : Int) ||| BitVec.ofInt 64 (b : Int)).toNat : Int) = _
 have h1 : 2 ^ m * a < 2 ^ 64 := Nat.lt_of_le_of_lt (Nat.le_add_right _ b) (Nat.lt_of_lt_of_le hm (by decide))
 have h2 : b < 2 ^ 64 := Nat.lt_of_le_of_lt (Nat.le_add_left _ (2 ^ m * a)) (Nat.lt_of_lt_of_le hm (by decide))
 rw [or_nat h1 h2, or_add h, wrap64 (by omega) (by omega)]
theorem b8_nat {a : Int} (h : B8 a) : ∃ n : Nat, a = (n : Int) ∧ n < 256 := ⟨a.toNat, by have := h.1; omega, by have := h.1; have := h.2; omega⟩
theorem num2 {a b : Int} (ha : B8 a) (hb : B8 b) : ior .i64 (ishl .i64 (IntKind.i64.wrap a) 8) (IntKind.i64.wrap b) = a * 256 + b := by
 obtain ⟨x, rfl, hx⟩ := b8_nat ha
 obtain ⟨y, rfl, hy⟩ := b8_nat hb
 rw [wrap64 (by omega) (by omega), wrap64 (by omega) (by omega)]
 have e : ishl .i64 (x : Int) 8 = ((2 ^ 8 * x : Nat) : Int) := by
  show IntKind.i64.wrap ((x : Int) * 2 ^ 8) = _
  rw [wrap64 (by omega) (by omega)]; omega
 rw [e, ior64 8 (by omega) (by omega)]
 omega
theorem num2' {a b : Int} (ha : B8 a) (hb : B8 b) : IntKind.i64.wrap (IntKind.i64.wrap (IntKind.i64.wrap a * 256) + IntKind.i64.wrap b) = a * 256 + b := by
 unfold B8 at ha hb
 rw [wrap64 (n := a) (by omega) (by omega), wrap64 (n := b) (by omega) (by omega), wrap64 (n := a * 256) (by omega) (by omega), wrap64 (by omega) (by omega)]
theorem shl32 {x : Nat} (hx : x < 256) (m : Nat) (hm : m ≤ 24) : ishl .u32 (x : Int) (m : Int) = ((2 ^ m * x : Nat) : Int) := by
 show IntKind.u32.wrap ((x : Int) * 2 ^ min ((m : Int).toNat) 32) = _
 rw [Int.toNat_natCast, Nat.min_eq_left (by omega), wrapu32]
 have h1 : 2 ^ m ≤ 2 ^ 24 := Nat.pow_le_pow_right (by decide) hm
 have h2 : 2 ^ m * x < 4294967296 := Nat.lt_of_le_of_lt (Nat.mul_le_mul h1 (Nat.le_of_lt_succ (show x < 255 + 1 by omega))) (by decide)
 rw [show (x : Int) * 2 ^ m = ((2 ^ m * x : Nat) : Int) by rw [Nat.mul_comm]; simp]
 omega
theorem num4 {a b c d : Int} (ha : B8 a) (hb : B8 b) (hc : B8 c) (hd : B8 d) :
  ior .u32 (ior .u32 (ior .u32 (ishl .u32 (IntKind.u32.wrap a) 24) (ishl .u32 (IntKind.u32.wrap b) 16)) (ishl .u32 (IntKind.u32.wrap c) 8)) (IntKind.u32.wrap d) = ((a * 256 + b) * 256 + c) * 256 + d := by
 obtain ⟨x, rfl, hx⟩ := b8_nat ha
 obtain ⟨y, rfl, hy⟩ := b8_nat hb
 obtain ⟨z, rfl, hz⟩ := b8_nat hc
 obtain ⟨t, rfl, ht⟩ := b8_nat hd
 have w : ∀ n : Nat, n < 256 → IntKind.u32.wrap (n : Int) = (n : Int) := fun n hn => by rw [wrapu32]; omega
 rw [w x hx, w y hy, w z hz, w t ht, show (24 : Int) = ((24 : Nat) : Int) from rfl, show (16 : Int) = ((16 : Nat) : Int) from rfl, show (8 : Int) = ((8 : Nat) : Int) from rfl,
  shl32 hx 24 (by decide), shl32 hy 16 (by decide), shl32 hz 8 (by decide), ior32 24 (by omega) (by omega),
  show ((2 ^ 24 * x + 2 ^ 16 * y : Nat) : Int) = ((2 ^ 16 * (256 * x + y) : Nat) : Int) by omega, ior32 16 (by omega) (by omega),
  show ((2 ^ 16 * (256 * x + y) + 2 ^ 8 * z : Nat) : Int) = ((2 ^ 8 * ((256 * x + y) * 256 + z) : Nat) : Int) by omega, ior32 8 (by omega) (by omega)]
 omega
theorem shr_div (x : Int) (k m : Nat) (K : IntKind) (hm : m ≤ K.bits) : ishr K x (m : Int) = x / 2 ^ m := by
 show x.fdiv (2 ^ min ((m : Int).toNat) K.bits) = _
 rw [Int.toNat_natCast, Nat.min_eq_left hm, Int.fdiv_eq_ediv_of_nonneg _ (by exact Int.le_of_lt (Int.pow_pos (by decide)))]
end Go.AM
end
section
namespace Go.AM
def findS (xs : List RK) (id : Int) : Int := match (List.range xs.length).find? (fun j : Nat => decide ((rd r0 xs (j : Int)).1 = id)) with
 | some k => (k : Int)
 | none => -1
theorem rgf_eq {r : RR} (id : Int) (h : r.1.length < lim63) : ring_Find.run .lim (r, id, ()) = some (findS r.1 id) := by
 have h63 : r.1.length < 9223372036854775808 := h
 have e := loop_first (f := ring_Find.l0 .lim) (fun j => (r.1, (r.1.length : Int), (j : Int), id, ())) r.1.length (fun j => decide ((rd r0 r.1 (j : Int)).1 = id)) (fun j => some (.inl ((j : Int), ()))) (fun k hk => by
  rw [ring_Find.q0]
  simp only [ring_Find.b0, dec_t (show (k : Int) < (r.1.length : Int) by omega), inB_t (show (0 : Int) ≤ (k : Int) by omega) (show (k : Int) < (r.1.length : Int) by omega), cond_true, wk k (by omega)])
 rw [show ((0 : Nat) : Int) = 0 from rfl] at e
 simp only [ring_Find.run, smallN h63, cond_true, e]
 unfold findS
 cases hq : (List.range r.1.length).find? (fun j : Nat => decide ((rd r0 r.1 (j : Int)).1 = id)) with
 | some k => rfl
 | none =>
  simp only
  rw [ring_Find.q0]
  simp only [ring_Find.b0, dec_f (show ¬ (r.1.length : Int) < (r.1.length : Int) by omega), cond_false, Option.bind_some]
theorem rgf2_eq {r : RR} (id : Int) (h : r.1.length < lim63) : pendulumref24_Find.run .lim (r, id, ()) = some (findS r.1 id) := by
 have h63 : r.1.length < 9223372036854775808 := h
 have e := loop_first (f := pendulumref24_Find.l0 .lim) (fun j => (id, (j : Int), r.1, r.2, ())) r.1.length (fun j => decide ((rd r0 r.1 (j : Int)).1 = id)) (fun j => some (.inl ((j : Int), ()))) (fun k hk => by
  rw [pendulumref24_Find.q0]
  simp only [pendulumref24_Find.b0, smallN h63, dec_t (show (k : Int) < (r.1.length : Int) by omega), inB_t (show (0 : Int) ≤ (k : Int) by omega) (show (k : Int) < (r.1.length : Int) by omega), cond_true, wk k (by omega)])
 rw [show ((0 : Nat) : Int) = 0 from rfl] at e
 simp only [pendulumref24_Find.run, e]
 unfold findS
 cases hq : (List.range r.1.length).find? (fun j : Nat => decide ((rd r0 r.1 (j : Int)).1 = id)) with
 | some k => rfl
 | none =>
  simp only
  rw [pendulumref24_Find.q0]
  simp only [pendulumref24_Find.b0, smallN h63, dec_f (show ¬ (r.1.length : Int) < (r.1.length : Int) by omega), cond_true, cond_false, Option.bind_some]
theorem findS_spec {xs : List RK} {id : Int} : (findS xs id = -1 ∧ ∀ k, k < xs.length → (rd r0 xs (k : Int)).1 ≠ id) ∨ ∃ k, k < xs.length ∧ findS xs id = (k : Int) ∧ (rd r0 xs (k : Int)).1 = id ∧ ∀ j, j < k → (rd r0 xs (j : Int)).1 ≠ id := by
 unfold findS
 cases hq : (List.range xs.length).find? (fun j : Nat => decide ((rd r0 xs (j : Int)).1 = id)) with
 | some k =>
  obtain ⟨h1, h2, h3⟩ := List.find?_range_eq_some.1 hq
  exact .inr ⟨k, List.mem_range.1 h2, rfl, by simpa using h1, fun j hj => by simpa using h3 j hj⟩
 | none =>
  refine .inl ⟨rfl, fun k hk => ?_⟩
  have := List.find?_eq_none.1 hq k (List.mem_range.2 hk)
  simpa using this
def numS (s : List Int) : Int := ((rd 0 s 0 * 256 + rd 0 s 1) * 256 + rd 0 s 2) * 256 + rd 0 s 3
theorem bs_rd {s : List Int} (h : Bs s) {i : Int} (h1 : 0 ≤ i) (h2 : i < s.length) : B8 (rd 0 s i) := h _ (rd_mem h1 h2)
def kOf (p : List Int) : CK := (rd 0 p 0 * 256 + rd 0 p 1, cut p 4 ((2 + p.length / 2 : Nat) : Int), cut p ((2 + p.length / 2 : Nat) : Int) (p.length : Int))
def keysS (p : List Int) : CK × Int := if 4 ≤ p.length ∧ fitK (kOf p) = true ∧ plainS (kOf p) = p then (kOf p, 0) else ((0, ([], [])), 10)
noncomputable def openC (v : VV) (r : RR) (s : List Int) : CK × Int :=
 if s.length < 20 then ((0, ([], [])), 11) else
 if findS r.1 (numS s) < 0 then ((0, ([], [])), 19) else
 if (openV' v (rd r0 r.1 (findS r.1 (numS s))).2.1 [cut s 0 4, cut s 4 20] (cut s 20 (s.length : Int))).2 = 0 then
  keysS (openV' v (rd r0 r.1 (findS r.1 (numS s))).2.1 [cut s 0 4, cut s 4 20] (cut s 20 (s.length : Int))).1
 else ((0, ([], [])), (openV' v (rd r0 r.1 (findS r.1 (numS s))).2.1 [cut s 0 4, cut s 4 20] (cut s 20 (s.length : Int))).2)
theorem cutN_len {α : Type} {s : List α} {a b : Nat} (h1 : a ≤ b) (h2 : b ≤ s.length) : (cut s (a : Int) (b : Int)).length = b - a := by
 unfold cut; simp; omega
theorem cut_bs {s : List Int} (h : Bs s) (a b : Int) : Bs (cut s a b) := fun x hx => by
 unfold cut at hx
 exact h x (List.mem_of_mem_take (List.mem_of_mem_drop hx))
theorem okK_of {p : List Int} (h : p.length < lim63) (h4 : 4 ≤ p.length) : KOk (kOf p) := by
 have h' : p.length < 9223372036854775808 := h
 unfold kOf
 refine ⟨?_, ?_⟩
 ·show (cut p ((4 : Nat) : Int) ((2 + p.length / 2 : Nat) : Int)).length < lim63
  rw [cutN_len (by omega) (by omega)]; exact lim_of (by omega)
 ·show (cut p ((2 + p.length / 2 : Nat) : Int) (p.length : Int)).length < lim63
  rw [cutN_len (by omega) (by omega)]; exact lim_of (by omega)
theorem copen_eq {v : VV} {r : RR} {s : List Int} (hv : okV v) (hf : fitV v = true) (hb : vB v) (hr : ROk r) (hs : s.length < lim63) (hsb : Bs s) :
  cook_Open.run .lim (v, r, s, ()) = some ((openC v r s).1, (openC v r s).2, ()) := by
 have hs63 : s.length < 9223372036854775808 := hs
 have hl := hr.len
 unfold openC
 simp only [cook_Open.run, smallN hs63, cond_true]
 by_cases h1 : s.length < 20
 ·rw [dec_t (show (s.length : Int) < 20 by omega), if_pos h1]; rfl
 ·rw [dec_f (show ¬ (s.length : Int) < 20 by omega), if_neg h1]
  have hi : ∀ i : Int, 0 ≤ i → i < 4 → B8 (rd 0 s i) := fun i a b => bs_rd hsb a (by omega)
  have hn : ior .u32 (ior .u32 (ior .u32 (ishl .u32 (IntKind.u32.wrap (rd 0 s 0)) 24) (ishl .u32 (IntKind.u32.wrap (rd 0 s 1)) 16)) (ishl .u32 (IntKind.u32.wrap (rd 0 s 2)) 8)) (IntKind.u32.wrap (rd 0 s 3)) = numS s :=
   num4 (hi 0 (by omega) (by omega)) (hi 1 (by omega) (by omega)) (hi 2 (by omega) (by omega)) (hi 3 (by omega) (by omega))
  simp only [cond_false, inB_t (show (0 : Int) ≤ 0 by omega) (show (0 : Int) < (s.length : Int) by omega), inB_t (show (0 : Int) ≤ 1 by omega) (show (1 : Int) < (s.length : Int) by omega), inB_t (show (0 : Int) ≤ 2 by omega) (show (2 : Int) < (s.length : Int) by omega), inB_t (show (0 : Int) ≤ 3 by omega) (show (3 : Int) < (s.length : Int) by omega), cond_true, hn, rgf_eq (numS s) (show r.1.length < lim63 from lim_of (by omega)), Option.bind_some]
  rcases findS_spec (xs := r.1) (id := numS s) with ⟨e, _⟩ | ⟨k, hk, e, _, _⟩
  ·rw [e, dec_t (show (-1 : Int) < 0 by decide), if_pos (show (-1 : Int) < 0 by decide)]; rfl
  ·rw [e, dec_f (show ¬ (k : Int) < 0 by omega), if_neg (show ¬ (k : Int) < 0 by omega)]
   have hm : rd r0 r.1 (k : Int) ∈ r.1 := rd_mem (by omega) (by omega)
   have T : Txts (rd r0 r.1 (k : Int)).2.1 [cut s 0 4, cut s 4 20] (cut s 20 (s.length : Int)) := by
    have c1 : (cut s 0 4).length = 4 := cutN_len (a := 0) (b := 4) (by omega) (by omega)
    have c2 : (cut s 4 20).length = 16 := cutN_len (a := 4) (b := 20) (by omega) (by omega)
    have c3 : (cut s 20 (s.length : Int)).length = s.length - 20 := cutN_len (a := 20) (b := s.length) (by omega) (by omega)
    refine ⟨lim_of (by rw [hr.key _ hm]; omega), hr.kb _ hm, (show (2 : Nat) < lim63 by decide), fun t ht => ?_, lim_of (by omega)⟩
    simp only [List.mem_cons, List.not_mem_nil, or_false] at ht
    rcases ht with rfl | rfl
    ·exact lim_of (by omega)
    ·exact lim_of (by omega)
   simp only [cond_false, inB_t (show (0 : Int) ≤ (k : Int) by omega) (show (k : Int) < (r.1.length : Int) by omega), cutB_t (show (0 : Int) ≤ 0 by omega) (show (0 : Int) ≤ 4 by omega) (show (4 : Int) ≤ (s.length : Int) by omega),
    cutB_t (show (0 : Int) ≤ 4 by omega) (show (4 : Int) ≤ 20 by omega) (show (20 : Int) ≤ (s.length : Int) by omega), cutB_t (show (0 : Int) ≤ 20 by omega) (show (20 : Int) ≤ (s.length : Int) by omega) (show (s.length : Int) ≤ (s.length : Int) by omega), cond_true, openv_eq hv T (cut_bs hsb _ _), Option.bind_some]
   by_cases h0 : (openV' v (rd r0 r.1 (k : Int)).2.1 [cut s 0 4, cut s 4 20] (cut s 20 (s.length : Int))).2 = 0
   ·obtain ⟨_, y2, _, y4⟩ := open_yes hf hb h0
    rw [dec_t h0, if_pos h0]
    generalize (openV' v (rd r0 r.1 (k : Int)).2.1 [cut s 0 4, cut s 4 20] (cut s 20 (s.length : Int))).1 = p at y2 y4 ⊢
    unfold keysS
    simp only [Bool.not_true, cond_false, smallN (show p.length < 9223372036854775808 by omega), cond_true]
    by_cases h4 : p.length < 4
    ·rw [dec_t (show (p.length : Int) < 4 by omega), if_neg (by omega)]; rfl
    ·have hm2 : IntKind.i64.wrap (2 + IntKind.i64.wrap ((p.length : Int).tdiv 2)) = ((2 + p.length / 2 : Nat) : Int) := by
      rw [Int.tdiv_eq_ediv_of_nonneg (by omega), wrap64 (n := (p.length : Int) / 2) (by omega) (by omega), wrap64 (by omega) (by omega)]; omega
     have hn2 := num2 (bs_rd y4 (show (0 : Int) ≤ 0 by omega) (show (0 : Int) < (p.length : Int) by omega)) (bs_rd y4 (show (0 : Int) ≤ 1 by omega) (show (1 : Int) < (p.length : Int) by omega))
     have hko := okK_of (p := p) (lim_of (by omega)) (by omega)
     rw [dec_f (show ¬ (p.length : Int) < 4 by omega)]
     simp only [cond_false, inB_t (show (0 : Int) ≤ 0 by omega) (show (0 : Int) < (p.length : Int) by omega), inB_t (show (0 : Int) ≤ 1 by omega) (show (1 : Int) < (p.length : Int) by omega), cond_true, hm2, hn2,
      cutB_t (show (0 : Int) ≤ 4 by omega) (show (4 : Int) ≤ ((2 + p.length / 2 : Nat) : Int) by omega) (show ((2 + p.length / 2 : Nat) : Int) ≤ (p.length : Int) by omega),
      cutB_t (show (0 : Int) ≤ ((2 + p.length / 2 : Nat) : Int) by omega) (show ((2 + p.length / 2 : Nat) : Int) ≤ (p.length : Int) by omega) (show (p.length : Int) ≤ (p.length : Int) by omega)]
     change (cook_Fit.run .lim (kOf p, ())).bind _ = _
     rw [cfit_eq hko, Option.bind_some]
     by_cases hq : fitK (kOf p) = true
     ·have hpl := cplain_eq hq
      unfold kOf at hq hpl ⊢
      rw [hq]
      simp only [Bool.not_true, Bool.not_false, cond_true, hpl, Option.bind_some, Bool.false_or]
      by_cases hw : plainS (rd 0 p 0 * 256 + rd 0 p 1, cut p 4 ((2 + p.length / 2 : Nat) : Int), cut p ((2 + p.length / 2 : Nat) : Int) (p.length : Int)) = p
      ·rw [dec_t hw, if_pos ⟨by omega, by first | rfl | trivial, hw⟩]; rfl
      ·rw [dec_f hw, if_neg (fun z => hw z.2.2)]; rfl
     ·have hq' : fitK (kOf p) = false := by simpa using hq
      rw [if_neg (fun z => hq z.2.1)]
      rw [hq']
      rfl
   ·rw [dec_f h0, if_neg h0]; rfl
theorem rcopen_eq {v : VV} {r : RR} {s : List Int} (hv : okV v) (hf : fitV v = true) (hb : vB v) (hr : ROk r) (hs : s.length < lim63) (hsb : Bs s) :
  pendulumref25_Open.run .lim (v, r, s, ()) = some ((openC v r s).1, (openC v r s).2, ()) := by
 have hs63 : s.length < 9223372036854775808 := hs
 have hl := hr.len
 unfold openC
 simp only [pendulumref25_Open.run, smallN hs63, cond_true]
 by_cases h1 : s.length < 20
 ·rw [dec_t (show (s.length : Int) < 20 by omega), if_pos h1]; rfl
 ·rw [dec_f (show ¬ (s.length : Int) < 20 by omega), if_neg h1]
  have hi : ∀ i : Int, 0 ≤ i → i < 4 → B8 (rd 0 s i) := fun i a b => bs_rd hsb a (by omega)
  have hn : ior .u32 (ior .u32 (ior .u32 (ishl .u32 (IntKind.u32.wrap (rd 0 s 0)) 24) (ishl .u32 (IntKind.u32.wrap (rd 0 s 1)) 16)) (ishl .u32 (IntKind.u32.wrap (rd 0 s 2)) 8)) (IntKind.u32.wrap (rd 0 s 3)) = numS s :=
   num4 (hi 0 (by omega) (by omega)) (hi 1 (by omega) (by omega)) (hi 2 (by omega) (by omega)) (hi 3 (by omega) (by omega))
  simp only [cond_false, inB_t (show (0 : Int) ≤ 0 by omega) (show (0 : Int) < (s.length : Int) by omega), inB_t (show (0 : Int) ≤ 1 by omega) (show (1 : Int) < (s.length : Int) by omega), inB_t (show (0 : Int) ≤ 2 by omega) (show (2 : Int) < (s.length : Int) by omega), inB_t (show (0 : Int) ≤ 3 by omega) (show (3 : Int) < (s.length : Int) by omega), cond_true, hn, rgf2_eq (numS s) (show r.1.length < lim63 from lim_of (by omega)), Option.bind_some]
  rcases findS_spec (xs := r.1) (id := numS s) with ⟨e, _⟩ | ⟨k, hk, e, _, _⟩
  ·rw [e, dec_t (show (-1 : Int) < 0 by decide), if_pos (show (-1 : Int) < 0 by decide)]; rfl
  ·rw [e, dec_f (show ¬ (k : Int) < 0 by omega), if_neg (show ¬ (k : Int) < 0 by omega)]
   have hm : rd r0 r.1 (k : Int) ∈ r.1 := rd_mem (by omega) (by omega)
   have T : Txts (rd r0 r.1 (k : Int)).2.1 [cut s 0 4, cut s 4 20] (cut s 20 (s.length : Int)) := by
    have c1 : (cut s 0 4).length = 4 := cutN_len (a := 0) (b := 4) (by omega) (by omega)
    have c2 : (cut s 4 20).length = 16 := cutN_len (a := 4) (b := 20) (by omega) (by omega)
    have c3 : (cut s 20 (s.length : Int)).length = s.length - 20 := cutN_len (a := 20) (b := s.length) (by omega) (by omega)
    refine ⟨lim_of (by rw [hr.key _ hm]; omega), hr.kb _ hm, (show (2 : Nat) < lim63 by decide), fun t ht => ?_, lim_of (by omega)⟩
    simp only [List.mem_cons, List.not_mem_nil, or_false] at ht
    rcases ht with rfl | rfl
    ·exact lim_of (by omega)
    ·exact lim_of (by omega)
   simp only [cond_false, inB_t (show (0 : Int) ≤ (k : Int) by omega) (show (k : Int) < (r.1.length : Int) by omega), cutB_t (show (0 : Int) ≤ 0 by omega) (show (0 : Int) ≤ 4 by omega) (show (4 : Int) ≤ (s.length : Int) by omega),
    cutB_t (show (0 : Int) ≤ 4 by omega) (show (4 : Int) ≤ 20 by omega) (show (20 : Int) ≤ (s.length : Int) by omega), cutB_t (show (0 : Int) ≤ 20 by omega) (show (20 : Int) ≤ (s.length : Int) by omega) (show (s.length : Int) ≤ (s.length : Int) by omega), cond_true, ropenv_eq hv T, Option.bind_some]
   by_cases h0 : (openV' v (rd r0 r.1 (k : Int)).2.1 [cut s 0 4, cut s 4 20] (cut s 20 (s.length : Int))).2 = 0
   ·obtain ⟨_, y2, _, y4⟩ := open_yes hf hb h0
    rw [dec_t h0, if_pos h0]
    generalize (openV' v (rd r0 r.1 (k : Int)).2.1 [cut s 0 4, cut s 4 20] (cut s 20 (s.length : Int))).1 = p at y2 y4 ⊢
    unfold keysS
    simp only [Bool.not_true, cond_false, smallN (show p.length < 9223372036854775808 by omega), cond_true]
    by_cases h4 : p.length < 4
    ·rw [dec_f (show ¬ (p.length : Int) ≥ 4 by omega), if_neg (by omega)]; rfl
    ·have hm2 : IntKind.i64.wrap (4 + IntKind.i64.wrap ((IntKind.i64.wrap ((p.length : Int) - 4)).tdiv 2)) = ((2 + p.length / 2 : Nat) : Int) := by
      rw [wrap64 (n := (p.length : Int) - 4) (by omega) (by omega), Int.tdiv_eq_ediv_of_nonneg (by omega), wrap64 (n := ((p.length : Int) - 4) / 2) (by omega) (by omega), wrap64 (by omega) (by omega)]; omega
     have hn2 := num2' (bs_rd y4 (show (0 : Int) ≤ 0 by omega) (show (0 : Int) < (p.length : Int) by omega)) (bs_rd y4 (show (0 : Int) ≤ 1 by omega) (show (1 : Int) < (p.length : Int) by omega))
     have hko := okK_of (p := p) (lim_of (by omega)) (by omega)
     rw [dec_t (show (p.length : Int) ≥ 4 by omega)]
     simp only [cond_false, inB_t (show (0 : Int) ≤ 0 by omega) (show (0 : Int) < (p.length : Int) by omega), inB_t (show (0 : Int) ≤ 1 by omega) (show (1 : Int) < (p.length : Int) by omega), cond_true, hm2, hn2,
      cutB_t (show (0 : Int) ≤ 4 by omega) (show (4 : Int) ≤ ((2 + p.length / 2 : Nat) : Int) by omega) (show ((2 + p.length / 2 : Nat) : Int) ≤ (p.length : Int) by omega),
      cutB_t (show (0 : Int) ≤ ((2 + p.length / 2 : Nat) : Int) by omega) (show ((2 + p.length / 2 : Nat) : Int) ≤ (p.length : Int) by omega) (show (p.length : Int) ≤ (p.length : Int) by omega)]
     change (pendulumref25_Fit.run .lim (kOf p, ())).bind _ = _
     rw [rcfit_eq hko, Option.bind_some]
     by_cases hq : fitK (kOf p) = true
     ·have hpl := rcplain_eq hq
      unfold kOf at hq hpl ⊢
      rw [hq]
      simp only [Bool.not_true, Bool.not_false, cond_true, hpl, Option.bind_some, Bool.false_or]
      by_cases hw : plainS (rd 0 p 0 * 256 + rd 0 p 1, cut p 4 ((2 + p.length / 2 : Nat) : Int), cut p ((2 + p.length / 2 : Nat) : Int) (p.length : Int)) = p
      ·rw [dec_t hw, if_pos ⟨by omega, by first | rfl | trivial, hw⟩]; rfl
      ·rw [dec_f hw, if_neg (fun z => hw z.2.2)]; rfl
     ·have hq' : fitK (kOf p) = false := by simpa using hq
      rw [if_neg (fun z => hq z.2.1)]
      rw [hq']
      rfl
   ·rw [dec_f h0, if_neg h0]; rfl
end Go.AM
end
section
namespace Go.AM
def badR (r : RR) (i : Nat) : Bool :=
 ((!decide ((rd r0 r.1 (i : Int)).2.1.length = 32)) || (!decide ((rd r0 r.1 (i : Int)).1 = (r.2 - ((r.1.length - i : Nat) : Int)) % 4294967296))) || (decide (0 < i) && decide ((rd r0 r.1 (i : Int)).2.2 < (rd r0 r.1 ((i - 1 : Nat) : Int)).2.2))
def fitR (r : RR) : Bool := decide (1 ≤ r.1.length ∧ r.1.length ≤ 8) && !((List.range r.1.length).any (badR r))
theorem fitr_eq {r : RR} (hl : r.1.length < lim63) (hk : ∀ k ∈ r.1, k.2.1.length < lim63) : pendulumref24_Fit.run .lim (r, ()) = some (fitR r) := by
 have hl63 : r.1.length < 9223372036854775808 := hl
 simp only [pendulumref24_Fit.run, smallN hl63, cond_true]
 unfold fitR
 by_cases h : 1 ≤ r.1.length ∧ r.1.length ≤ 8
 ·have hn : (decide ((r.1.length : Int) < 1) || decide ((r.1.length : Int) > 8)) = false := by
   rw [dec_f (show ¬ (r.1.length : Int) < 1 by omega), dec_f (show ¬ (r.1.length : Int) > 8 by omega)]; rfl
  have e := loop_any (f := pendulumref24_Fit.l0 .lim) (fun j => ((r.1.length : Int), (j : Int), r.1, r.2, ())) r.1.length (badR r) (some (.inl (false, ()))) (fun k hk' => by
   have hkl := hk _ (rd_mem (d := r0) (xs := r.1) (i := (k : Int)) (by omega) (by omega))
   have hkl63 : (rd r0 r.1 (k : Int)).2.1.length < 9223372036854775808 := hkl
   rw [pendulumref24_Fit.q0]
   have hw : IntKind.u32.wrap (r.2 - IntKind.u32.wrap (IntKind.i64.wrap ((r.1.length : Int) - (k : Int)))) = (r.2 - ((r.1.length - k : Nat) : Int)) % 4294967296 := by
    rw [wrap64 (by omega) (by omega), wrapu32, wrapu32]; omega
   have hd : decide (((rd r0 r.1 (k : Int)).2.1.length : Int) = 32) = decide ((rd r0 r.1 (k : Int)).2.1.length = 32) := by
    by_cases q : (rd r0 r.1 (k : Int)).2.1.length = 32
    ·rw [dec_t q, dec_t (by omega)]
    ·rw [dec_f q, dec_f (by omega)]
   simp only [pendulumref24_Fit.b0, dec_t (show (k : Int) < (r.1.length : Int) by omega), inB_t (show (0 : Int) ≤ (k : Int) by omega) (show (k : Int) < (r.1.length : Int) by omega), cond_true, smallN hkl63, hw, hd, wk k (by omega)]
   unfold badR
   by_cases h0 : 0 < k
   ·have w1 : IntKind.i64.wrap ((k : Int) - 1) = ((k - 1 : Nat) : Int) := by rw [wrap64 (by omega) (by omega)]; omega
    rw [w1, inB_t (show (0 : Int) ≤ ((k - 1 : Nat) : Int) by omega) (show ((k - 1 : Nat) : Int) < (r.1.length : Int) by omega), dec_t h0, dec_t (show (k : Int) > 0 by omega)]
    simp only [Bool.or_true, cond_true, Bool.true_and]
   ·rw [dec_f h0, dec_f (show ¬ (k : Int) > 0 by omega)]
    simp only [Bool.and_false, Bool.not_false, Bool.true_or, cond_true, Bool.false_and, Bool.or_false])
  rw [show ((0 : Nat) : Int) = 0 from rfl] at e
  rw [hn, dec_t h]
  simp only [cond_false, Bool.true_and, e]
  cases hb : (List.range r.1.length).any (badR r) with
  | true => rfl
  | false =>
   simp only [cond_false]
   rw [pendulumref24_Fit.q0]
   simp only [pendulumref24_Fit.b0, dec_f (show ¬ (r.1.length : Int) < (r.1.length : Int) by omega), cond_false, Option.bind_some, Bool.not_false]
 ·have hn : (decide ((r.1.length : Int) < 1) || decide ((r.1.length : Int) > 8)) = true := by
   by_cases q : r.1.length < 1
   ·rw [dec_t (show (r.1.length : Int) < 1 by omega)]; rfl
   ·rw [dec_t (show (r.1.length : Int) > 8 by omega), Bool.or_true]
  rw [hn, dec_f h]; rfl
theorem fitR_spec {r : RR} (h : fitR r = true) : (1 ≤ r.1.length ∧ r.1.length ≤ 8) ∧ ∀ i, i < r.1.length → (rd r0 r.1 (i : Int)).2.1.length = 32 ∧ (rd r0 r.1 (i : Int)).1 = (r.2 - ((r.1.length - i : Nat) : Int)) % 4294967296 ∧ (0 < i → (rd r0 r.1 ((i - 1 : Nat) : Int)).2.2 ≤ (rd r0 r.1 (i : Int)).2.2) := by
 unfold fitR at h
 simp only [Bool.and_eq_true, decide_eq_true_eq, Bool.not_eq_true', List.any_eq_false, List.mem_range] at h
 refine ⟨h.1, fun i hi => ?_⟩
 have := h.2 i hi
 unfold badR at this
 simp only [Bool.or_eq_true, Bool.not_eq_true', decide_eq_false_iff_not, Bool.and_eq_true, decide_eq_true_eq, not_or, not_and, Decidable.not_not] at this
 exact ⟨this.1.1, this.1.2, fun h0 => by have := this.2 h0; omega⟩
structure RB (r : RR) : Prop where
 l : r.1.length < lim63
 k : ∀ k ∈ r.1, k.2.1.length < lim63 ∧ Bs k.2.1
theorem rOk_of {r : RR} (h : fitR r = true) (b : RB r) : ROk r := by
 obtain ⟨h1, h2⟩ := fitR_spec h
 refine ⟨h1, fun k hk => ?_, fun k hk => (b.k k hk).2⟩
 obtain ⟨i, hi, e⟩ := List.getElem_of_mem hk
 have := (h2 i hi).1
 rw [rd_ix hi, e] at this
 exact this
theorem good_eq {v : VV} {r : RR} (hv : okV v) (b : RB r) : ∃ l, pendulumref22_Light.run .lim (v, ()) = some l ∧ pendulumlaw25_good.run .lim (v, r, ()) = some ((l && fitV v) && fitR r) := by
 obtain ⟨l, e⟩ := light_some v hv
 refine ⟨l, e, ?_⟩
 simp only [pendulumlaw25_good.run, e, Option.bind_some, rfit_eq v hv, fitr_eq b.l (fun k hk => (b.k k hk).1)]
 cases l <;> cases fitV v <;> rfl
end Go.AM
end
section
namespace Go.AM
theorem numS_id {id : Int} (h0 : 0 ≤ id) (h1 : id < 4294967296) (s : List Int) : numS (idS id ++ s) = id := by
 have e : ∀ m : Nat, m ≤ 32 → ishr .u32 id (m : Int) = id / 2 ^ m := fun m hm => shr_div id 0 m .u32 hm
 unfold numS
 have r : ∀ i : Nat, i < 4 → rd 0 (idS id ++ s) (i : Int) = rd 0 (idS id) (i : Int) := fun i hi => rd_app (by exact hi)
 rw [show (0 : Int) = ((0 : Nat) : Int) from rfl, show (1 : Int) = ((1 : Nat) : Int) from rfl, show (2 : Int) = ((2 : Nat) : Int) from rfl, show (3 : Int) = ((3 : Nat) : Int) from rfl,
  show rd ((0 : Nat) : Int) (idS id ++ s) ((0 : Nat) : Int) = _ from r 0 (by omega), show rd ((0 : Nat) : Int) (idS id ++ s) ((1 : Nat) : Int) = _ from r 1 (by omega), show rd ((0 : Nat) : Int) (idS id ++ s) ((2 : Nat) : Int) = _ from r 2 (by omega), show rd ((0 : Nat) : Int) (idS id ++ s) ((3 : Nat) : Int) = _ from r 3 (by omega)]
 show ((IntKind.u8.wrap (ishr .u32 id ((24 : Nat) : Int)) * 256 + IntKind.u8.wrap (ishr .u32 id ((16 : Nat) : Int))) * 256 + IntKind.u8.wrap (ishr .u32 id ((8 : Nat) : Int))) * 256 + IntKind.u8.wrap id = id
 rw [e 24 (by omega), e 16 (by omega), e 8 (by omega), wrapu8, wrapu8, wrapu8, wrapu8]
 omega
theorem cut3 {a b c : List Int} (ha : a.length = 4) (hb : b.length = 16) :
  cut ((a ++ b) ++ c) 0 4 = a ∧ cut ((a ++ b) ++ c) 4 20 = b ∧ cut ((a ++ b) ++ c) 20 ((((a ++ b) ++ c).length : Nat) : Int) = c := by
 unfold cut
 refine ⟨?_, ?_, ?_⟩
 ·show (((a ++ b) ++ c).take 4).drop 0 = a
  rw [List.drop_zero, List.append_assoc, List.take_append_of_le_length (by omega), List.take_of_length_le (by omega)]
 ·show (((a ++ b) ++ c).take 20).drop 4 = b
  rw [List.take_append_of_le_length (by simp; omega), List.take_of_length_le (by simp; omega), List.drop_append_of_le_length (by omega), List.drop_of_length_le (by omega), List.nil_append]
 ·rw [Int.toNat_natCast, List.take_of_length_le (Nat.le_refl _)]
  show ((a ++ b) ++ c).drop 20 = c
  rw [List.drop_append_of_le_length (by simp; omega), List.drop_of_length_le (by simp; omega), List.nil_append]
structure KB (k : CK) : Prop where
 a : Bs k.2.1
 b : Bs k.2.2
theorem plainS_B {k : CK} (hf : fitK k = true) (b : KB k) : Bs (plainS k) := fun x h => by
 have hs := fitK_spec hf
 unfold plainS at h
 rcases List.mem_append.1 h with h | h
 ·rcases List.mem_append.1 h with h | h
  ·simp only [List.mem_cons, List.not_mem_nil, or_false] at h
   rcases h with rfl | rfl | rfl | rfl
   ·exact ⟨by decide, by decide⟩
   ·rcases hs with ⟨q, _⟩ | ⟨q, _⟩ <;> rw [q] <;> exact ⟨by decide, by decide⟩
   ·exact ⟨by decide, by decide⟩
   ·exact ⟨by decide, by decide⟩
  ·exact b.a x h
 ·exact b.b x h
theorem kOf_plain {k : CK} (hf : fitK k = true) : kOf (plainS k) = k := by
 have hs := fitK_spec hf
 obtain ⟨a, x, y⟩ := k
 have hxy : x.length = y.length := by rcases hs with ⟨_, p, q⟩ | ⟨_, p, q⟩ <;> exact p.trans q.symm
 have hl : (plainS (a, x, y)).length = 4 + x.length + x.length := by rw [plainS_len]; simp only; omega
 unfold kOf
 rw [hl, show 2 + (4 + x.length + x.length) / 2 = 4 + x.length by omega]
 refine Prod.ext ?_ (Prod.ext ?_ ?_)
 ·show (0 : Int) * 256 + a = a
  omega
 ·show ((([0, a, 0, 0] ++ x) ++ y).take (((4 + x.length : Nat) : Int)).toNat).drop 4 = x
  rw [Int.toNat_natCast, List.take_append_of_le_length (by simp; omega), List.take_of_length_le (by simp; omega)]
  rfl
 ·show ((([0, a, 0, 0] ++ x) ++ y).take (((4 + x.length + x.length : Nat) : Int)).toNat).drop (((4 + x.length : Nat) : Int)).toNat = y
  rw [Int.toNat_natCast, Int.toNat_natCast, List.take_of_length_le (by simp; omega), List.drop_append_of_le_length (by simp; omega), List.drop_of_length_le (by simp; omega), List.nil_append]
theorem keysS_plain {k : CK} (hf : fitK k = true) : keysS (plainS k) = (k, 0) := by
 unfold keysS
 rw [kOf_plain hf, if_pos ⟨by rw [plainS_len]; omega, hf, rfl⟩]
theorem mkS_zero {v : VV} {m : RK} {k : CK} {nonce : List Int} (h : (mkS v m k nonce).2.2 = 0) :
  fitK k = true ∧ nonce.length = 16 ∧ (sealV v m.2.1 [idS m.1, nonce] (plainS k)).2.2 = 0 ∧ mkS v m k nonce = ((sealV v m.2.1 [idS m.1, nonce] (plainS k)).1, (idS m.1 ++ nonce) ++ (sealV v m.2.1 [idS m.1, nonce] (plainS k)).2.1, 0) := by
 unfold mkS at h ⊢
 by_cases h1 : fitK k = true
 ·rw [if_pos h1] at h ⊢
  by_cases h2 : nonce.length = 16
  ·rw [if_pos h2] at h ⊢
   by_cases h3 : (sealV v m.2.1 [idS m.1, nonce] (plainS k)).2.2 = 0
   ·rw [if_pos h3]; exact ⟨h1, h2, h3, rfl⟩
   ·rw [if_neg h3] at h; exact absurd h h3
  ·rw [if_neg h2] at h; exact absurd h (show (10 : Int) ≠ 0 by decide)
 ·rw [if_neg h1] at h; exact absurd h (show (13 : Int) ≠ 0 by decide)
theorem mkS_len {v : VV} {m : RK} {k : CK} {nonce : List Int} (hf : fitV v = true) (h : (mkS v m k nonce).2.2 = 0) : (mkS v m k nonce).2.1.length = 40 + k.2.1.length + k.2.2.length := by
 obtain ⟨h1, h2, h3, e⟩ := mkS_zero h
 rw [e]
 have := (seal_yes hf h3).2.2.1
 simp only [List.length_append, this, plainS_len, h2]
 have : (idS m.1).length = 4 := rfl
 omega
theorem openC_made {v w : VV} {m : RK} {k : CK} {nonce : List Int} {r : RR} {i : Nat} (hf : fitV v = true) (h : (mkS v m k nonce).2.2 = 0) (kb : KB k) (h0 : 0 ≤ m.1) (h1 : m.1 < 4294967296)
  (x : Ext (mkS v m k nonce).1 w) (hw : fitV w = true) (hi : findS r.1 m.1 = (i : Int)) (hm : (rd r0 r.1 (i : Int)).2.1 = m.2.1) : openC w r (mkS v m k nonce).2.1 = (k, 0) := by
 have hl := mkS_len hf h
 obtain ⟨g1, g2, g3, e⟩ := mkS_zero h
 rw [e] at x hl ⊢
 simp only at x hl ⊢
 have hso := seal_open hf g3 (plainS_B g1 kb) x hw
 generalize (sealV v m.2.1 [idS m.1, nonce] (plainS k)).2.1 = t at hl hso ⊢
 obtain ⟨c1, c2, c3⟩ := cut3 (a := idS m.1) (b := nonce) (c := t) rfl g2
 have hn : numS ((idS m.1 ++ nonce) ++ t) = m.1 := by rw [List.append_assoc]; exact numS_id h0 h1 _
 unfold openC
 rw [if_neg (by omega), hn, hi, if_neg (by omega), hm, c1, c2, c3, hso, if_pos rfl]
 exact keysS_plain g1
end Go.AM
end
section
set_option maxRecDepth 100000
namespace Go.AM
abbrev awA_k : List Int := [107, 107, 107, 107, 107, 107, 107, 107, 107, 107, 107, 107, 107, 107, 107, 107]
theorem awA_l0 : encS awA_k z16 = [149, 35, 162, 94, 91, 120, 42, 85, 225, 107, 199, 167, 192, 89, 27, 127] := by decide +kernel
theorem awA_k1 : k1S awA_k = [42, 71, 68, 188, 182, 240, 84, 171, 194, 215, 143, 79, 128, 178, 54, 121] := (congrArg twS awA_l0).trans (by decide +kernel)
abbrev awA_c0s : List Int := [0, 0, 0, 0, 0, 0, 0, 0, 0, 0, 0, 0, 0, 0, 0, 0]
theorem awA_c0_0 : cmN awA_k awA_c0s 0 = [0, 0, 0, 0, 0, 0, 0, 0, 0, 0, 0, 0, 0, 0, 0, 0] := rfl
theorem awA_c0_l : lastS awA_k (awA_c0s.drop (16 * 0)) = [42, 71, 68, 188, 182, 240, 84, 171, 194, 215, 143, 79, 128, 178, 54, 121] := by unfold lastS; rw [if_pos (by decide), awA_k1]; decide +kernel
theorem awA_c0 : cmS awA_k awA_c0s = [138, 17, 135, 69, 125, 68, 78, 155, 36, 236, 23, 96, 235, 236, 220, 208] := by
 have e : cmS awA_k awA_c0s = encS awA_k (xorL (cmN awA_k awA_c0s 0) (lastS awA_k (awA_c0s.drop (16 * 0)))) := rfl
 rw [e, awA_c0_0, awA_c0_l, show xorL [0, 0, 0, 0, 0, 0, 0, 0, 0, 0, 0, 0, 0, 0, 0, 0] [42, 71, 68, 188, 182, 240, 84, 171, 194, 215, 143, 79, 128, 178, 54, 121] = [42, 71, 68, 188, 182, 240, 84, 171, 194, 215, 143, 79, 128, 178, 54, 121] by decide +kernel]; decide +kernel
abbrev awA_t : List (List Int) := [[0, 0, 0, 1], [110, 110, 110, 110, 110, 110, 110, 110, 110, 110, 110, 110, 110, 110, 110, 110], [0, 15, 0, 0, 107, 107, 107, 107, 107, 107, 107, 107, 107, 107, 107, 107, 107, 107, 107, 107, 107, 107, 107, 107, 107, 107, 107, 107, 107, 107, 107, 107, 107, 107, 107, 107, 107, 107, 107, 107, 107, 107, 107, 107, 107, 107, 107, 107, 107, 107, 107, 107, 107, 107, 107, 107, 107, 107, 107, 107, 107, 107, 107, 107, 107, 107, 107, 107]]
theorem awA_d0 : s2N awA_k awA_t 0 = [138, 17, 135, 69, 125, 68, 78, 155, 36, 236, 23, 96, 235, 236, 220, 208] := awA_c0
abbrev awA_c1s : List Int := [0, 0, 0, 1]
theorem awA_c1_0 : cmN awA_k awA_c1s 0 = [0, 0, 0, 0, 0, 0, 0, 0, 0, 0, 0, 0, 0, 0, 0, 0] := rfl
theorem awA_c1_l : lastS awA_k (awA_c1s.drop (16 * 0)) = [84, 142, 137, 120, 237, 224, 169, 87, 133, 175, 30, 159, 1, 100, 108, 242] := by unfold lastS; rw [if_neg (by decide), awA_k1]; decide +kernel
theorem awA_c1 : cmS awA_k awA_c1s = [138, 195, 108, 129, 163, 29, 209, 70, 191, 139, 122, 235, 137, 230, 129, 187] := by
 have e : cmS awA_k awA_c1s = encS awA_k (xorL (cmN awA_k awA_c1s 0) (lastS awA_k (awA_c1s.drop (16 * 0)))) := rfl
 rw [e, awA_c1_0, awA_c1_l, show xorL [0, 0, 0, 0, 0, 0, 0, 0, 0, 0, 0, 0, 0, 0, 0, 0] [84, 142, 137, 120, 237, 224, 169, 87, 133, 175, 30, 159, 1, 100, 108, 242] = [84, 142, 137, 120, 237, 224, 169, 87, 133, 175, 30, 159, 1, 100, 108, 242] by decide +kernel]; decide +kernel
theorem awA_d1 : s2N awA_k awA_t 1 = [158, 224, 98, 11, 89, 149, 76, 112, 246, 83, 84, 42, 94, 63, 56, 156] := by
 have e : s2N awA_k awA_t 1 = xorL (twS (s2N awA_k awA_t 0)) (cmS awA_k awA_c1s) := rfl
 rw [e, awA_d0, awA_c1]; decide +kernel
abbrev awA_c2s : List Int := [110, 110, 110, 110, 110, 110, 110, 110, 110, 110, 110, 110, 110, 110, 110, 110]
theorem awA_c2_0 : cmN awA_k awA_c2s 0 = [0, 0, 0, 0, 0, 0, 0, 0, 0, 0, 0, 0, 0, 0, 0, 0] := rfl
theorem awA_c2_l : lastS awA_k (awA_c2s.drop (16 * 0)) = [68, 41, 42, 210, 216, 158, 58, 197, 172, 185, 225, 33, 238, 220, 88, 23] := by unfold lastS; rw [if_pos (by decide), awA_k1]; decide +kernel
theorem awA_c2 : cmS awA_k awA_c2s = [206, 198, 234, 8, 192, 39, 116, 124, 62, 87, 143, 239, 202, 29, 86, 93] := by
 have e : cmS awA_k awA_c2s = encS awA_k (xorL (cmN awA_k awA_c2s 0) (lastS awA_k (awA_c2s.drop (16 * 0)))) := rfl
 rw [e, awA_c2_0, awA_c2_l, show xorL [0, 0, 0, 0, 0, 0, 0, 0, 0, 0, 0, 0, 0, 0, 0, 0] [68, 41, 42, 210, 216, 158, 58, 197, 172, 185, 225, 33, 238, 220, 88, 23] = [68, 41, 42, 210, 216, 158, 58, 197, 172, 185, 225, 33, 238, 220, 88, 23] by decide +kernel]; decide +kernel
theorem awA_d2 : s2N awA_k awA_t 2 = [243, 6, 46, 30, 115, 13, 236, 157, 210, 241, 39, 187, 118, 99, 39, 226] := by
 have e : s2N awA_k awA_t 2 = xorL (twS (s2N awA_k awA_t 1)) (cmS awA_k awA_c2s) := rfl
 rw [e, awA_d1, awA_c2]; decide +kernel
abbrev awA_p : List Int := [0, 15, 0, 0, 107, 107, 107, 107, 107, 107, 107, 107, 107, 107, 107, 107, 107, 107, 107, 107, 107, 107, 107, 107, 107, 107, 107, 107, 107, 107, 107, 107, 107, 107, 107, 107, 107, 107, 107, 107, 107, 107, 107, 107, 107, 107, 107, 107, 107, 107, 107, 107, 107, 107, 107, 107, 107, 107, 107, 107, 107, 107, 107, 107, 107, 107, 107, 107]
abbrev awA_c3s : List Int := [0, 15, 0, 0, 107, 107, 107, 107, 107, 107, 107, 107, 107, 107, 107, 107, 107, 107, 107, 107, 107, 107, 107, 107, 107, 107, 107, 107, 107, 107, 107, 107, 107, 107, 107, 107, 107, 107, 107, 107, 107, 107, 107, 107, 107, 107, 107, 107, 107, 107, 107, 107, 152, 109, 69, 117, 24, 102, 135, 246, 185, 154, 76, 208, 29, 8, 76, 137]
theorem awA_c3_0 : cmN awA_k awA_c3s 0 = [0, 0, 0, 0, 0, 0, 0, 0, 0, 0, 0, 0, 0, 0, 0, 0] := rfl
theorem awA_c3_1 : cmN awA_k awA_c3s 1 = [237, 252, 222, 43, 234, 129, 196, 84, 104, 185, 72, 200, 135, 100, 28, 140] := ((congrArg (fun z => encS awA_k (xorL z ((awA_c3s.drop (16 * 0)).take 16))) awA_c3_0).trans (congrArg (encS awA_k) (show xorL [0, 0, 0, 0, 0, 0, 0, 0, 0, 0, 0, 0, 0, 0, 0, 0] ((awA_c3s.drop (16 * 0)).take 16) = [0, 15, 0, 0, 107, 107, 107, 107, 107, 107, 107, 107, 107, 107, 107, 107] by decide +kernel))).trans (by decide +kernel)
theorem awA_c3_2 : cmN awA_k awA_c3s 2 = [15, 74, 185, 170, 115, 72, 77, 106, 3, 210, 97, 112, 159, 55, 145, 201] := ((congrArg (fun z => encS awA_k (xorL z ((awA_c3s.drop (16 * 1)).take 16))) awA_c3_1).trans (congrArg (encS awA_k) (show xorL [237, 252, 222, 43, 234, 129, 196, 84, 104, 185, 72, 200, 135, 100, 28, 140] ((awA_c3s.drop (16 * 1)).take 16) = [134, 151, 181, 64, 129, 234, 175, 63, 3, 210, 35, 163, 236, 15, 119, 231] by decide +kernel))).trans (by decide +kernel)
theorem awA_c3_3 : cmN awA_k awA_c3s 3 = [25, 73, 150, 14, 186, 141, 82, 198, 127, 204, 68, 215, 62, 202, 17, 250] := ((congrArg (fun z => encS awA_k (xorL z ((awA_c3s.drop (16 * 2)).take 16))) awA_c3_2).trans (congrArg (encS awA_k) (show xorL [15, 74, 185, 170, 115, 72, 77, 106, 3, 210, 97, 112, 159, 55, 145, 201] ((awA_c3s.drop (16 * 2)).take 16) = [100, 33, 210, 193, 24, 35, 38, 1, 104, 185, 10, 27, 244, 92, 250, 162] by decide +kernel))).trans (by decide +kernel)
theorem awA_c3_4 : cmN awA_k awA_c3s 4 = [201, 138, 180, 254, 153, 244, 140, 92, 61, 250, 45, 25, 1, 58, 124, 82] := ((congrArg (fun z => encS awA_k (xorL z ((awA_c3s.drop (16 * 3)).take 16))) awA_c3_3).trans (congrArg (encS awA_k) (show xorL [25, 73, 150, 14, 186, 141, 82, 198, 127, 204, 68, 215, 62, 202, 17, 250] ((awA_c3s.drop (16 * 3)).take 16) = [114, 34, 253, 101, 34, 224, 23, 179, 103, 170, 195, 33, 135, 80, 93, 42] by decide +kernel))).trans (by decide +kernel)
theorem awA_c3_l : lastS awA_k (awA_c3s.drop (16 * 4)) = [73, 134, 197, 240, 237, 224, 169, 87, 133, 175, 30, 159, 1, 100, 108, 242] := by unfold lastS; rw [if_neg (by decide), awA_k1]; decide +kernel
theorem awA_c3 : cmS awA_k awA_c3s = [237, 24, 204, 249, 72, 101, 100, 19, 229, 25, 69, 137, 189, 215, 0, 28] := by
 have e : cmS awA_k awA_c3s = encS awA_k (xorL (cmN awA_k awA_c3s 4) (lastS awA_k (awA_c3s.drop (16 * 4)))) := rfl
 rw [e, awA_c3_4, awA_c3_l, show xorL [201, 138, 180, 254, 153, 244, 140, 92, 61, 250, 45, 25, 1, 58, 124, 82] [73, 134, 197, 240, 237, 224, 169, 87, 133, 175, 30, 159, 1, 100, 108, 242] = [128, 12, 113, 14, 116, 20, 37, 11, 184, 85, 51, 134, 0, 94, 16, 160] by decide +kernel]; decide +kernel
theorem awA_h : awA_p.take (awA_p.length - 16) ++ xorL (awA_p.drop (awA_p.length - 16)) [243, 6, 46, 30, 115, 13, 236, 157, 210, 241, 39, 187, 118, 99, 39, 226] = awA_c3s := by decide +kernel
theorem awA_s : s2S awA_k awA_t = [237, 24, 204, 249, 72, 101, 100, 19, 229, 25, 69, 137, 189, 215, 0, 28] := by
 have e : s2S awA_k awA_t = s2E awA_k (s2N awA_k awA_t 2) awA_p := rfl
 rw [e, awA_d2]
 exact (if_neg (by decide)).trans ((congrArg (cmS awA_k) awA_h).trans awA_c3)
abbrev awB_k : List Int := [108, 107, 107, 107, 107, 107, 107, 107, 107, 107, 107, 107, 107, 107, 107, 107]
theorem awB_l0 : encS awB_k z16 = [72, 105, 80, 207, 204, 188, 69, 105, 107, 206, 137, 110, 83, 155, 121, 119] := by decide +kernel
theorem awB_k1 : k1S awB_k = [144, 210, 161, 159, 153, 120, 138, 210, 215, 157, 18, 220, 167, 54, 242, 238] := (congrArg twS awB_l0).trans (by decide +kernel)
abbrev awB_c0s : List Int := [0, 0, 0, 0, 0, 0, 0, 0, 0, 0, 0, 0, 0, 0, 0, 0]
theorem awB_c0_0 : cmN awB_k awB_c0s 0 = [0, 0, 0, 0, 0, 0, 0, 0, 0, 0, 0, 0, 0, 0, 0, 0] := rfl
theorem awB_c0_l : lastS awB_k (awB_c0s.drop (16 * 0)) = [144, 210, 161, 159, 153, 120, 138, 210, 215, 157, 18, 220, 167, 54, 242, 238] := by unfold lastS; rw [if_pos (by decide), awB_k1]; decide +kernel
theorem awB_c0 : cmS awB_k awB_c0s = [83, 155, 82, 208, 64, 112, 161, 159, 6, 65, 170, 3, 137, 167, 52, 73] := by
 have e : cmS awB_k awB_c0s = encS awB_k (xorL (cmN awB_k awB_c0s 0) (lastS awB_k (awB_c0s.drop (16 * 0)))) := rfl
 rw [e, awB_c0_0, awB_c0_l, show xorL [0, 0, 0, 0, 0, 0, 0, 0, 0, 0, 0, 0, 0, 0, 0, 0] [144, 210, 161, 159, 153, 120, 138, 210, 215, 157, 18, 220, 167, 54, 242, 238] = [144, 210, 161, 159, 153, 120, 138, 210, 215, 157, 18, 220, 167, 54, 242, 238] by decide +kernel]; decide +kernel
abbrev awB_t : List (List Int) := [[0, 0, 0, 1], [110, 110, 110, 110, 110, 110, 110, 110, 110, 110, 110, 110, 110, 110, 110, 110], [0, 15, 0, 0, 107, 107, 107, 107, 107, 107, 107, 107, 107, 107, 107, 107, 107, 107, 107, 107, 107, 107, 107, 107, 107, 107, 107, 107, 107, 107, 107, 107, 107, 107, 107, 107, 107, 107, 107, 107, 107, 107, 107, 107, 107, 107, 107, 107, 107, 107, 107, 107, 107, 107, 107, 107, 107, 107, 107, 107, 107, 107, 107, 107, 107, 107, 107, 107]]
theorem awB_d0 : s2N awB_k awB_t 0 = [83, 155, 82, 208, 64, 112, 161, 159, 6, 65, 170, 3, 137, 167, 52, 73] := awB_c0
abbrev awB_c1s : List Int := [0, 0, 0, 1]
theorem awB_c1_0 : cmN awB_k awB_c1s 0 = [0, 0, 0, 0, 0, 0, 0, 0, 0, 0, 0, 0, 0, 0, 0, 0] := rfl
theorem awB_c1_l : lastS awB_k (awB_c1s.drop (16 * 0)) = [33, 165, 67, 62, 178, 241, 21, 165, 175, 58, 37, 185, 78, 109, 229, 91] := by unfold lastS; rw [if_neg (by decide), awB_k1]; decide +kernel
theorem awB_c1 : cmS awB_k awB_c1s = [186, 74, 146, 129, 101, 158, 113, 198, 186, 225, 48, 82, 12, 109, 54, 203] := by
 have e : cmS awB_k awB_c1s = encS awB_k (xorL (cmN awB_k awB_c1s 0) (lastS awB_k (awB_c1s.drop (16 * 0)))) := rfl
 rw [e, awB_c1_0, awB_c1_l, show xorL [0, 0, 0, 0, 0, 0, 0, 0, 0, 0, 0, 0, 0, 0, 0, 0] [33, 165, 67, 62, 178, 241, 21, 165, 175, 58, 37, 185, 78, 109, 229, 91] = [33, 165, 67, 62, 178, 241, 21, 165, 175, 58, 37, 185, 78, 109, 229, 91] by decide +kernel]; decide +kernel
theorem awB_d1 : s2N awB_k awB_t 1 = [29, 124, 55, 33, 229, 127, 50, 248, 182, 98, 100, 85, 31, 35, 94, 89] := by
 have e : s2N awB_k awB_t 1 = xorL (twS (s2N awB_k awB_t 0)) (cmS awB_k awB_c1s) := rfl
 rw [e, awB_d0, awB_c1]; decide +kernel
abbrev awB_c2s : List Int := [110, 110, 110, 110, 110, 110, 110, 110, 110, 110, 110, 110, 110, 110, 110, 110]
theorem awB_c2_0 : cmN awB_k awB_c2s 0 = [0, 0, 0, 0, 0, 0, 0, 0, 0, 0, 0, 0, 0, 0, 0, 0] := rfl
theorem awB_c2_l : lastS awB_k (awB_c2s.drop (16 * 0)) = [254, 188, 207, 241, 247, 22, 228, 188, 185, 243, 124, 178, 201, 88, 156, 128] := by unfold lastS; rw [if_pos (by decide), awB_k1]; decide +kernel
theorem awB_c2 : cmS awB_k awB_c2s = [62, 16, 34, 141, 230, 109, 25, 97, 83, 24, 54, 47, 127, 95, 170, 147] := by
 have e : cmS awB_k awB_c2s = encS awB_k (xorL (cmN awB_k awB_c2s 0) (lastS awB_k (awB_c2s.drop (16 * 0)))) := rfl
 rw [e, awB_c2_0, awB_c2_l, show xorL [0, 0, 0, 0, 0, 0, 0, 0, 0, 0, 0, 0, 0, 0, 0, 0] [254, 188, 207, 241, 247, 22, 228, 188, 185, 243, 124, 178, 201, 88, 156, 128] = [254, 188, 207, 241, 247, 22, 228, 188, 185, 243, 124, 178, 201, 88, 156, 128] by decide +kernel]; decide +kernel
theorem awB_d2 : s2N awB_k awB_t 2 = [4, 232, 76, 206, 44, 147, 124, 144, 63, 220, 254, 133, 65, 25, 22, 33] := by
 have e : s2N awB_k awB_t 2 = xorL (twS (s2N awB_k awB_t 1)) (cmS awB_k awB_c2s) := rfl
 rw [e, awB_d1, awB_c2]; decide +kernel
abbrev awB_p : List Int := [0, 15, 0, 0, 107, 107, 107, 107, 107, 107, 107, 107, 107, 107, 107, 107, 107, 107, 107, 107, 107, 107, 107, 107, 107, 107, 107, 107, 107, 107, 107, 107, 107, 107, 107, 107, 107, 107, 107, 107, 107, 107, 107, 107, 107, 107, 107, 107, 107, 107, 107, 107, 107, 107, 107, 107, 107, 107, 107, 107, 107, 107, 107, 107, 107, 107, 107, 107]
abbrev awB_c3s : List Int := [0, 15, 0, 0, 107, 107, 107, 107, 107, 107, 107, 107, 107, 107, 107, 107, 107, 107, 107, 107, 107, 107, 107, 107, 107, 107, 107, 107, 107, 107, 107, 107, 107, 107, 107, 107, 107, 107, 107, 107, 107, 107, 107, 107, 107, 107, 107, 107, 107, 107, 107, 107, 111, 131, 39, 165, 71, 248, 23, 251, 84, 183, 149, 238, 42, 114, 125, 74]
theorem awB_c3_0 : cmN awB_k awB_c3s 0 = [0, 0, 0, 0, 0, 0, 0, 0, 0, 0, 0, 0, 0, 0, 0, 0] := rfl
theorem awB_c3_1 : cmN awB_k awB_c3s 1 = [186, 192, 1, 116, 217, 248, 2, 132, 155, 5, 41, 217, 17, 190, 103, 160] := ((congrArg (fun z => encS awB_k (xorL z ((awB_c3s.drop (16 * 0)).take 16))) awB_c3_0).trans (congrArg (encS awB_k) (show xorL [0, 0, 0, 0, 0, 0, 0, 0, 0, 0, 0, 0, 0, 0, 0, 0] ((awB_c3s.drop (16 * 0)).take 16) = [0, 15, 0, 0, 107, 107, 107, 107, 107, 107, 107, 107, 107, 107, 107, 107] by decide +kernel))).trans (by decide +kernel)
theorem awB_c3_2 : cmN awB_k awB_c3s 2 = [54, 102, 177, 18, 120, 116, 129, 51, 112, 21, 233, 231, 46, 192, 161, 237] := ((congrArg (fun z => encS awB_k (xorL z ((awB_c3s.drop (16 * 1)).take 16))) awB_c3_1).trans (congrArg (encS awB_k) (show xorL [186, 192, 1, 116, 217, 248, 2, 132, 155, 5, 41, 217, 17, 190, 103, 160] ((awB_c3s.drop (16 * 1)).take 16) = [209, 171, 106, 31, 178, 147, 105, 239, 240, 110, 66, 178, 122, 213, 12, 203] by decide +kernel))).trans (by decide +kernel)
theorem awB_c3_3 : cmN awB_k awB_c3s 3 = [51, 124, 20, 246, 211, 60, 207, 73, 152, 213, 201, 179, 173, 209, 184, 223] := ((congrArg (fun z => encS awB_k (xorL z ((awB_c3s.drop (16 * 2)).take 16))) awB_c3_2).trans (congrArg (encS awB_k) (show xorL [54, 102, 177, 18, 120, 116, 129, 51, 112, 21, 233, 231, 46, 192, 161, 237] ((awB_c3s.drop (16 * 2)).take 16) = [93, 13, 218, 121, 19, 31, 234, 88, 27, 126, 130, 140, 69, 171, 202, 134] by decide +kernel))).trans (by decide +kernel)
theorem awB_c3_4 : cmN awB_k awB_c3s 4 = [1, 91, 4, 106, 46, 59, 164, 211, 204, 45, 144, 8, 215, 6, 24, 39] := ((congrArg (fun z => encS awB_k (xorL z ((awB_c3s.drop (16 * 3)).take 16))) awB_c3_3).trans (congrArg (encS awB_k) (show xorL [51, 124, 20, 246, 211, 60, 207, 73, 152, 213, 201, 179, 173, 209, 184, 223] ((awB_c3s.drop (16 * 3)).take 16) = [88, 23, 127, 157, 188, 191, 232, 236, 223, 45, 222, 72, 249, 102, 45, 49] by decide +kernel))).trans (by decide +kernel)
theorem awB_c3_l : lastS awB_k (awB_c3s.drop (16 * 4)) = [11, 215, 62, 117, 178, 241, 21, 165, 175, 58, 37, 185, 78, 109, 229, 91] := by unfold lastS; rw [if_neg (by decide), awB_k1]; decide +kernel
theorem awB_c3 : cmS awB_k awB_c3s = [40, 145, 84, 150, 84, 164, 125, 51, 174, 219, 50, 102, 166, 122, 82, 0] := by
 have e : cmS awB_k awB_c3s = encS awB_k (xorL (cmN awB_k awB_c3s 4) (lastS awB_k (awB_c3s.drop (16 * 4)))) := rfl
 rw [e, awB_c3_4, awB_c3_l, show xorL [1, 91, 4, 106, 46, 59, 164, 211, 204, 45, 144, 8, 215, 6, 24, 39] [11, 215, 62, 117, 178, 241, 21, 165, 175, 58, 37, 185, 78, 109, 229, 91] = [10, 140, 58, 31, 156, 202, 177, 118, 99, 23, 181, 177, 153, 107, 253, 124] by decide +kernel]; decide +kernel
theorem awB_h : awB_p.take (awB_p.length - 16) ++ xorL (awB_p.drop (awB_p.length - 16)) [4, 232, 76, 206, 44, 147, 124, 144, 63, 220, 254, 133, 65, 25, 22, 33] = awB_c3s := by decide +kernel
theorem awB_s : s2S awB_k awB_t = [40, 145, 84, 150, 84, 164, 125, 51, 174, 219, 50, 102, 166, 122, 82, 0] := by
 have e : s2S awB_k awB_t = s2E awB_k (s2N awB_k awB_t 2) awB_p := rfl
 rw [e, awB_d2]
 exact (if_neg (by decide)).trans ((congrArg (cmS awB_k) awB_h).trans awB_c3)
theorem aw_unlike : s2S awA_k awA_t ≠ s2S awB_k awB_t := by rw [awA_s, awB_s]; decide
end Go.AM
end
section
set_option maxRecDepth 100000
namespace Go.AM
abbrev awK : List Int := List.replicate 32 107
abbrev awN : List Int := [110, 110, 110, 110, 110, 110, 110, 110, 110, 110, 110, 110, 110, 110, 110, 110]
abbrev awL : List Int := 108 :: List.replicate 31 107
abbrev awV : VV := (false, [])
abbrev awC : CK := (15, (awK, awK))
abbrev awR (k : List Int) : RR := ([(1, (k, 0))], 2)
theorem rep_B {n : Nat} {x : Int} (h : B8 x) : Bs (List.replicate n x) := fun y hy => by rw [(List.mem_replicate.1 hy).2]; exact h
theorem awK_B : Bs awK := rep_B (by decide)
theorem awL_B : Bs awL := fun y hy => by
 rcases List.mem_cons.1 hy with rfl | hy
 ·decide
 ·exact rep_B (n := 31) (x := 107) (by decide) y hy
theorem awV_ok : okV awV := ⟨by decide, fun k hk => nomatch hk⟩
theorem awV_B : vB awV := fun k hk => nomatch hk
theorem awR_ok {k : List Int} (hl : k.length = 32) (hb : Bs k) : ROk (awR k) := by
 refine ⟨⟨Nat.le_refl _, by show 1 ≤ 8; decide⟩, fun q hq => ?_, fun q hq => ?_⟩ <;> rw [List.mem_singleton.1 hq]
 ·exact hl
 ·exact hb
theorem awC_fit : fitK awC = true := by decide
theorem awLoop : pendulumlaw25_awake.l0 .lim ([], awN, 0, ()) = some (awK, awN, ()) := by
 have e := loop_to (f := pendulumlaw25_awake.l0 .lim) (fun j => (List.replicate j (107 : Int), awN, (j : Int), ())) (n := 32) (fun k hk => by
  rw [pendulumlaw25_awake.q0]
  have hl : decide ((List.replicate k (107 : Int)).length + ([107] : List Int).length ≤ maxStr) = true := dec_t (by unfold maxStr; simp; omega)
  simp only [pendulumlaw25_awake.b0, dec_t (show (k : Int) < 32 by omega), cond_true, hl, wk k (by omega)]
  rw [List.replicate_succ'])
 have e0 : pendulumlaw25_awake.l0 .lim (List.replicate 0 (107 : Int), awN, ((0 : Nat) : Int), ()) = _ := e
 refine (show pendulumlaw25_awake.l0 .lim ([], awN, 0, ()) = pendulumlaw25_awake.l0 .lim (List.replicate 32 (107 : Int), awN, ((32 : Nat) : Int), ()) from e0).trans ?_
 rw [pendulumlaw25_awake.q0]
 rfl
theorem aw_find (k : List Int) : findS (awR k).1 1 = ((0 : Nat) : Int) := rfl
noncomputable abbrev awS : List Int := sealS awK [idS 1, awN] (plainS awC)
theorem aw_seal : sealV awV awK [idS 1, awN] (plainS awC) = (awV, awS, 0) := by
 show (awV, sealR awK [idS 1, awN] (plainS awC)) = _
 unfold sealR
 rw [if_pos (show sivE awK [idS 1, awN] = 0 by decide), if_neg (show ¬ (plainS awC).length > 65536 by decide)]
theorem aw_make : mkS awV (1, (awK, 0)) awC awN = (awV, (idS 1 ++ awN) ++ awS, 0) := by
 unfold mkS
 rw [if_pos awC_fit, if_pos (show awN.length = 16 by decide)]
 simp only [aw_seal]
 rfl
theorem aw_half1 : half1 awK = awA_k := by decide
theorem aw_half1' : half1 awL = awB_k := by decide
theorem aw_half2 : half2 awL = half2 awK := by decide
theorem aw_ad : [idS 1, awN] ++ [plainS awC] = awA_t := by decide
theorem aw_adB : [idS 1, awN] ++ [plainS awC] = awB_t := by decide
theorem aw_not : openR awL [idS 1, awN] awS = ([], 17) := by
 have hv := s2S_ok (half1 awK) ([idS 1, awN] ++ [plainS awC])
 have hl : awS.length = (plainS awC).length + 16 := sealS_len awK [idS 1, awN] (plainS awC)
 have hp : (plainS awC).length = 68 := by decide
 have ht : awS.take 16 = s2S (half1 awK) ([idS 1, awN] ++ [plainS awC]) := by
  unfold awS sealS; rw [List.take_append_of_le_length (by rw [hv.1]; omega), List.take_of_length_le (by rw [hv.1]; omega)]
 have hd : awS.drop 16 = strmS (half2 awK) (s2S (half1 awK) ([idS 1, awN] ++ [plainS awC])) (plainS awC) := by
  unfold awS sealS; rw [List.drop_append_of_le_length (by rw [hv.1]; omega), List.drop_of_length_le (by rw [hv.1]; omega), List.nil_append]
 have ho : openS awL awS = plainS awC := by
  unfold openS; rw [aw_half2, ht, hd, strmS_back _ _ (plainS_B awC_fit ⟨awK_B, awK_B⟩)]
 unfold openR
 rw [if_pos (show sivE awL [idS 1, awN] = 0 by decide), if_neg (by omega), if_neg (by omega), ho, ht, aw_half1, aw_half1', if_neg (fun h => aw_unlike (by rw [← aw_ad, ← h, ← aw_adB]))]
theorem aw_open2 : openC awV (awR awL) ((idS 1 ++ awN) ++ awS) = ((0, ([], [])), 17) := by
 have hl : awS.length = 84 := (sealS_len awK [idS 1, awN] (plainS awC)).trans (by rw [plainS_len]; rfl)
 obtain ⟨c1, c2, c3⟩ := cut3 (a := idS 1) (b := awN) (c := awS) rfl rfl
 have hn : numS ((idS 1 ++ awN) ++ awS) = 1 := by rw [List.append_assoc]; exact numS_id (by decide) (by decide) _
 have hlen : ((idS 1 ++ awN) ++ awS).length = 104 := by
  rw [List.length_append, List.length_append, hl]; rfl
 unfold openC
 rw [if_neg (by omega), hn, aw_find, if_neg (by omega), c1, c2, c3]
 have hk : (rd r0 (awR awL).1 ((0 : Nat) : Int)).2.1 = awL := rfl
 have ho : openV' awV awL [idS 1, awN] awS = ([], 17) := by
  unfold openV'
  rw [show awV.1 = false from rfl, cond_false]
  exact aw_not
 rw [hk, ho, if_neg (show ¬ (17 : Int) = 0 by decide)]
theorem aw_open1 : openC awV (awR awK) ((idS 1 ++ awN) ++ awS) = (awC, 0) := by
 have h := openC_made (v := awV) (w := awV) (m := (1, (awK, 0))) (k := awC) (nonce := awN) (r := awR awK) (i := 0) rfl (by rw [aw_make]) ⟨awK_B, awK_B⟩ (show (0 : Int) ≤ 1 by decide) (show (1 : Int) < 4294967296 by decide)
  (by rw [aw_make]; exact Ext.rfl' _) rfl (aw_find awK) rfl
 rw [aw_make] at h
 exact h
theorem awake25 : pendulumlaw25_awake.run .lim () = some true := by
 have hl : awS.length = 84 := (sealS_len awK [idS 1, awN] (plainS awC)).trans (by rw [plainS_len]; rfl)
 have hlen : ((idS 1 ++ awN) ++ awS).length = 104 := by
  rw [List.length_append, List.length_append, hl]; rfl
 have hB : Bs ((idS 1 ++ awN) ++ awS) := fun x hx => by
  rcases List.mem_append.1 hx with hx | hx
  ·rcases List.mem_append.1 hx with hx | hx
   ·exact idS_B _ x hx
   ·exact rep_B (n := 16) (x := 110) (by decide) x hx
  ·exact sealS_B _ _ _ x hx
 have m := make_eq (v := awV) (r := awR awK) (k := awC) (nonce := awN) awV_ok rfl (awR_ok rfl awK_B) ⟨by decide, by decide⟩ (by decide)
 have lk : lastK (awR awK) = (1, (awK, 0)) := rfl
 rw [lk, aw_make] at m
 have o1 := copen_eq (v := awV) (r := awR awK) (s := (idS 1 ++ awN) ++ awS) awV_ok rfl awV_B (awR_ok rfl awK_B) (lim_of (by omega)) hB
 have o2 := copen_eq (v := awV) (r := awR awL) (s := (idS 1 ++ awN) ++ awS) awV_ok rfl awV_B (awR_ok rfl awL_B) (lim_of (by omega)) hB
 rw [aw_open1] at o1
 rw [aw_open2] at o2
 have n1 : pendulumref24_New.run .lim (awK, 0, ()) = some (awR awK, 0, ()) := rfl
 have n2 : pendulumref24_New.run .lim ([108] ++ cut awK 1 (awK.length : Int), 0, ()) = some (awR awL, 0, ()) := rfl
 have c1 : cutB 1 (awK.length : Int) (awK.length : Int) = true := by decide
 have c2 : decide (([108] : List Int).length + (cut awK 1 (awK.length : Int)).length ≤ maxStr) = true := by decide
 simp only [pendulumlaw25_awake.run, awLoop, Option.bind_some, n1, n2, c1, c2, cond_true, m, o1, o2]
 have c3 : cutB 0 4 ((((idS 1 ++ awN) ++ awS).length : Nat) : Int) = true := by rw [hlen]; decide
 have c4 := (cut3 (a := idS 1) (b := awN) (c := awS) rfl rfl).1
 have c5 : smallI ((((idS 1 ++ awN) ++ awS).length : Nat) : Int) = true := by rw [hlen]; decide
 rw [c3, c4, c5, hlen]
 decide
end Go.AM
end
section
namespace Go.AM
theorem opens_true {v : VV} {r : RR} {s : List Int} (hv : okV v) (hb : vB v) (b : RB r) (hs : s.length < lim63) (hsb : Bs s) : pendulumlaw25_CookOpens.run .lim (v, r, s, ()) = some true := by
 have hs63 : s.length < 9223372036854775808 := hs
 obtain ⟨l, _, e⟩ := good_eq hv b
 simp only [pendulumlaw25_CookOpens.run, e, Option.bind_some, smallN hs63, Bool.or_true, cond_true, awake25]
 cases hg : ((l && fitV v) && fitR r) with
 | false => rfl
 | true =>
  simp only [Bool.and_eq_true] at hg
  by_cases h3 : s.length > 3000
  ·rw [dec_t (show (s.length : Int) > 3000 by omega)]; rfl
  ·rw [dec_f (show ¬ (s.length : Int) > 3000 by omega)]
   have ro := rOk_of hg.2 b
   simp only [Bool.not_true, Bool.or_self, cond_false, copen_eq hv hg.1.2 hb ro hs hsb, rcopen_eq hv hg.1.2 hb ro hs hsb, Option.bind_some, decide_true, Bool.and_self, cond_true]
theorem r_B {r : RR} (h : Ty.ok (.pair (.lst (.pair (.int .u32) (.pair .str (.int .i64)))) (.int .u32)) r) : RB r := by
 obtain ⟨⟨h1, h2⟩, _⟩ := h
 exact ⟨lt63 h1, fun k hk => ⟨lt63 (h2 k hk).2.1.1, (h2 k hk).2.1.2⟩⟩
theorem ckopens_ok : ∀ x, oks [.ag (.pair .bool (.lst (.pair .str (.pair (.lst .str) (.pair .str .str))))), .ag (.pair (.lst (.pair (.int .u32) (.pair .str (.int .i64)))) (.int .u32)), .one .str] x → pendulumlaw25_CookOpens.run .lim x = some true := by
 intro x h
 match x with
 | (v, r, s, ()) =>
  obtain ⟨h1, h2, h3, _⟩ := h
  exact opens_true (ok_v h1) (v_B h1) (r_B h2) (lt63 h3.1) h3.2
end Go.AM
end
