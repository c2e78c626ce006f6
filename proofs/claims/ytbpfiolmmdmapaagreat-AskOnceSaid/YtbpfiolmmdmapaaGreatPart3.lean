import Derived.Test.YtbpfiolmmdmapaaGreatPart2

/-! The functions that the laws of this seat reach, as plain functions, and what these answer; no condition. -/
set_option linter.unusedSimpArgs false
set_option linter.unusedVariables false
set_option linter.unusedSectionVars false

section
namespace Go.AM
def Yz : Nat -> Int -> Int -> Int -> Int
 | 0, _, _, r => r
 | n + 1, a, b, r => Yz n (bif decide (fO .u8 a 128 = 0) then eP .u8 a 1 else dN .u8 (eP .u8 a 1) 27) (iI .u8 b 1) (bif decide (fO .u8 b 1 = 1) then dN .u8 r a else r)
def tm (a b : Int) : Int := Yz 8 a b 0
theorem XE : ∀ n a b r, B8 r -> B8 (Yz n a b r)
 | 0, _, _, _, h => h
 | n + 1, a, b, r, h => XE n _ _ _ (by cases decide (fO .u8 b 1 = 1) <;> first | exact h | exact Bd _ _)
theorem VZ (a b : Int) : B8 (tm a b) := XE 8 a b 0 ⟨by decide, by decide⟩
theorem KP : ∀ n a r, Yz n a 0 r = r
 | 0, _, _ => rfl
 | n + 1, a, r => by
  rw [Yz, show iI .u8 0 1 = 0 from by decide, KP n];rfl
theorem step_a {a : Int} (h : B8 a) : dN .u8 (eP .u8 a 1) (IntKind.u8.wrap (iI .u8 a 7 * 27)) = bif decide (fO .u8 a 128 = 0) then eP .u8 a 1 else dN .u8 (eP .u8 a 1) 27 :=
 gB (p := fun a => dN .u8 (eP .u8 a 1) (IntKind.u8.wrap (iI .u8 a 7 * 27)) = bif decide (fO .u8 a 128 = 0) then eP .u8 a 1 else dN .u8 (eP .u8 a 1) 27) (by decide +kernel) h
theorem ZY {b : Int} (h : B8 b) : fO .u8 b 1 = 0 \/ fO .u8 b 1 = 1 :=
 gB (p := fun b => fO .u8 b 1 = 0 \/ fO .u8 b 1 = 1) (by decide +kernel) h
theorem YA {a : Int} : B8 (bif decide (fO .u8 a 128 = 0) then eP .u8 a 1 else dN .u8 (eP .u8 a 1) 27) := by
 cases decide (fO .u8 a 128 = 0)
 ·exact Bd _ _
 ·exact O7 _ _
theorem nZ {a b : Int} (ha : B8 a) (hb : B8 b) : dV.run .lim (a, b, ()) = some (tm a b) := by
 have key : ∀ (n : Nat) (a b r : Int), B8 a -> B8 r -> 0 <= b -> b < 2 ^ n -> n <= 8 -> dV.l0 .lim (a, b, r, ()) = some (Yz n a b r, ()) := by
  intro n
  induction n with
  | zero =>
   intro a b r ha hr h0 h1 _;obtain rfl : b = 0 := by simp at h1; omega
   rw [dV.q0];simp (disch := omega) only [aO, aG, aT, wrap64, au, aA, dec_not, dec_and, dU, bP, cond_true, cond_false, Option.bind_some, Option.bind_none, Bool.or_true, Bool.true_or, Bool.and_true, Bool.true_and, Bool.and_false, Bool.false_and, Bool.or_false, Bool.false_or, Bool.not_true, Bool.not_false, Bool.or_self, Bool.and_self, Bool.not_not, if_true, if_false, and_self, true_and, and_true, and_false, false_and, or_true, true_or, or_false, false_or, not_true_eq_false, not_false_eq_true, decide_true, decide_false, eq_self, if_pos, if_neg, gQ, fG, dV.b0];rfl
  | succ n ih =>
   intro a b r ha hr h0 h1 hn;have hb : B8 b := by
    refine ⟨h0, Int.lt_of_lt_of_le h1 ?_⟩;have h2 : (2 : Int) ^ (n + 1) = ((2 ^ (n + 1) : Nat) : Int) := by simp
    have h3 : 2 ^ (n + 1) <= 2 ^ 8 := Nat.pow_le_pow_right (by omega) hn;rw [h2]; omega
   rw [dV.q0];by_cases hz : b = 0
   ·subst hz;rw [KP];simp (disch := omega) only [aO, aG, aT, wrap64, au, aA, dec_not, dec_and, dU, bP, cond_true, cond_false, Option.bind_some, Option.bind_none, Bool.or_true, Bool.true_or, Bool.and_true, Bool.true_and, Bool.and_false, Bool.false_and, Bool.or_false, Bool.false_or, Bool.not_true, Bool.not_false, Bool.or_self, Bool.and_self, Bool.not_not, if_true, if_false, and_self, true_and, and_true, and_false, false_and, or_true, true_or, or_false, false_or, not_true_eq_false, not_false_eq_true, decide_true, decide_false, eq_self, if_pos, if_neg, gQ, fG, dV.b0]
   ·have hs : iI .u8 b 1 = b / 2 := by rw [Yo]; rfl
    have hm : IntKind.u8.wrap (a * fO .u8 b 1) = bif decide (fO .u8 b 1 = 1) then a else 0 := by
     rcases ZY hb with e | e
     ·rw [e]; simp; decide
     ·rw [e, Int.mul_one, nV ha]; rfl
    have hx : dN .u8 r (bif decide (fO .u8 b 1 = 1) then a else 0) = bif decide (fO .u8 b 1 = 1) then dN .u8 r a else r := by
     cases decide (fO .u8 b 1 = 1)
     ·exact xor_zero hr
     ·rfl
    have hr' : B8 (bif decide (fO .u8 b 1 = 1) then dN .u8 r a else r) := by
     cases decide (fO .u8 b 1 = 1)
     ·exact hr
     ·exact Bd _ _
    have h2 := ih _ (iI .u8 b 1) _ (@YA a) hr' (by rw [hs]; omega) (by rw [hs, Int.pow_succ] at *; omega) (by omega);simp only [dV.b0, au (show b > 0 by omega), cond_true, step_a ha, hm, hx];rw [h2, Yz]
 have := key 8 a b 0 ha ⟨by decide, by decide⟩ hb.1 hb.2 (by omega);simp only [dV.run, this, Option.bind_some];rfl
noncomputable def BP (b : Int) : Int := (qj.run (.fuel 0) (b, ())).getD 0
def invS : Nat -> Int -> Int -> Int
 | 0, r, _ => r
 | n + 1, r, s => invS n (tm r (tm s s)) (tm s s)
def V3 (b n : Int) : Int := nM .u8 (eP .u8 b n) (iI .u8 b (8 - n))
def V4 (b : Int) : Int := dN .u8 (dN .u8 (dN .u8 (dN .u8 (dN .u8 (invS 7 1 b) (V3 (invS 7 1 b) 1)) (V3 (invS 7 1 b) 2)) (V3 (invS 7 1 b) 3)) (V3 (invS 7 1 b) 4)) 99
theorem Nw {b : Int} (hb : B8 b) : f_.run .lim (b, ()) = some (invS 7 1 b) := by
 have key : ∀ (n i : Nat) (r s : Int), i + n = 7 -> B8 r -> B8 s -> f_.l0 .lim (r, s, (i : Int), ()) = some (invS n r s, ()) := by
  intro n
  induction n with
  | zero =>
   intro i r s h _ _;rw [f_.q0];simp (disch := omega) only [aO, aG, aT, wrap64, au, aA, dec_not, dec_and, dU, bP, cond_true, cond_false, Option.bind_some, Option.bind_none, Bool.or_true, Bool.true_or, Bool.and_true, Bool.true_and, Bool.and_false, Bool.false_and, Bool.or_false, Bool.false_or, Bool.not_true, Bool.not_false, Bool.or_self, Bool.and_self, Bool.not_not, if_true, if_false, and_self, true_and, and_true, and_false, false_and, or_true, true_or, or_false, false_or, not_true_eq_false, not_false_eq_true, decide_true, decide_false, eq_self, if_pos, if_neg, gQ, fG, f_.b0];rfl
  | succ n ih =>
   intro i r s h hr hs;rw [f_.q0];simp only [f_.b0, nX i (by omega), au (show (i : Int) < 7 by omega), cond_true, nZ hs hs, Option.bind_some, nZ hr (VZ s s), ih (i + 1) _ _ (by omega) (VZ _ _) (VZ _ _)];rfl
 have := key 7 0 1 b rfl ⟨by decide, by decide⟩ hb;rw [show ((0 : Nat) : Int) = 0 from rfl] at this;simp only [f_.run, this, Option.bind_some]
theorem YB {b : Int} (hb : B8 b) : qg.run .lim (b, ()) = some (V4 b) := by
 simp only [qg.run, Nw hb, Option.bind_some];have w : ∀ n : Int, oM.run .lim (invS 7 1 b, n, ()) = bif decide (0 <= n) then (bif decide (0 <= IntKind.i64.wrap (8 - n)) then some (nM .u8 (eP .u8 (invS 7 1 b) n) (iI .u8 (invS 7 1 b) (IntKind.i64.wrap (8 - n)))) else none) else none := fun n => rfl
 rw [w, w, w, w];rfl
theorem G5 : ∀ n : Nat, n < 256 -> V4 n = BP n := by decide +kernel
theorem Pm {b : Int} (hb : B8 b) : qg.run .lim (b, ()) = some (BP b) := by rw [YB hb, gB (p := fun b => V4 b = BP b) G5 hb]
theorem Pn {b : Int} (hb : B8 b) : B8 (BP b) := by rw [<- gB (p := fun b => V4 b = BP b) G5 hb]; exact Bd _ _
end Go.AM
end
section
namespace Go.AM
abbrev z4 : List Int := List.replicate 4 0
abbrev G6 : List Int := List.replicate 16 0
abbrev dw : List Int := List.replicate 256 0
abbrev kL : List Int := [1, 2, 3, 9, 11, 13, 14]
theorem XF : ∀ k : Nat, k < 7 -> 0 <= rd 0 kL (k : Int) /\ rd 0 kL (k : Int) < 16 := by decide
def bW (k : Nat) : List (List Int) :=
 let t := fun j : Int => zW 256 k fun i => tm (i : Int) j
 [dw, t 1, t 2, t 3, dw, dw, dw, dw, dw, t 9, dw, t 11, dw, t 13, t 14, dw]
def Bj (i : Nat) (yb : List (List Int)) : Nat -> List (List Int)
 | 0 => yb
 | k + 1 => (Bj i yb k).set (rd 0 kL (k : Int)).toNat ((rd dw (Bj i yb k) (rd 0 kL (k : Int))).set i (tm (i : Int) (rd 0 kL (k : Int))))
theorem Po (k : Nat) : Bj k (bW k) 7 = bW (k + 1) := by
 have e : Bj k (bW k) 7 = (
  let t := fun j : Int => (zW 256 k fun i => tm (i : Int) j).set k (tm (k : Int) j)
  [dw, t 1, t 2, t 3, dw, dw, dw, dw, dw, t 9, dw, t 11, dw, t 13, t 14, dw]) := rfl
 have h : ∀ j : Int, (zW 256 k fun i => tm (i : Int) j).set k (tm (k : Int) j) = zW 256 (k + 1) fun i => tm (i : Int) j := fun j => Ey rfl
 rw [e];simp only [h];rfl
theorem EC : bW 0 = List.replicate 16 dw := by
 unfold bW;simp only [zX];rfl
noncomputable def Aa : Nat -> List Int
 | 0 => dw
 | k + 1 => (Aa k).set (BP (k : Int)).toNat (k : Int)
noncomputable def lJ (k : Nat) : List Int := zW 256 k fun i => BP (i : Int)
theorem qA {x : Int} (h : B8 x) : rd 0 (lJ 256) x = BP x := by
 unfold lJ;rw [KJ, O8 h.1 (by exact h.2), show ((x.toNat : Nat) : Int) = x by have := h.1; omega]
theorem ql {x : Int} (h : B8 x) : rd 0 (rd dw (bW 256) 1) x = tm x 1 /\ rd 0 (rd dw (bW 256) 2) x = tm x 2 /\ rd 0 (rd dw (bW 256) 3) x = tm x 3 := by
 have e : ∀ j : Int, rd 0 (zW 256 256 fun i => tm (i : Int) j) x = tm x j := fun j => by rw [KJ, O8 h.1 (by exact h.2), show ((x.toNat : Nat) : Int) = x by have := h.1; omega]
 exact ⟨e 1, e 2, e 3⟩
def word (key : List Int) (j : Nat) : List Int := [rd 0 key ((4 * j : Nat) : Int), rd 0 key ((4 * j + 1 : Nat) : Int), rd 0 key ((4 * j + 2 : Nat) : Int), rd 0 key ((4 * j + 3 : Nat) : Int)]
theorem Z4 {m : List Int} {k : Nat} (h : k + 4 <= m.length) : (m.drop k).take 4 = [rd 0 m (k : Int), rd 0 m ((k + 1 : Nat) : Int), rd 0 m ((k + 2 : Nat) : Int), rd 0 m ((k + 3 : Nat) : Int)] := by
 rw [jo (show k < m.length by omega), jo (show k + 1 < m.length by omega), jo (show k + 2 < m.length by omega), jo (show k + 3 < m.length by omega)];rw [List.drop_eq_getElem_cons (show k < m.length by omega), List.drop_eq_getElem_cons (show k + 1 < m.length by omega), List.drop_eq_getElem_cons (show k + 2 < m.length by omega), List.drop_eq_getElem_cons (show k + 3 < m.length by omega)];rfl
theorem sW {α : Type} (m : List α) (a b : Nat) : cut m (a : Int) (b : Int) = (m.drop a).take (b - a) := by unfold cut; rw [Int.toNat_natCast, Int.toNat_natCast, List.drop_take]
theorem KU {key : List Int} {j : Nat} (h : 4 * j + 4 <= key.length) : (cut key ((4 * j : Nat) : Int) ((4 * j + 4 : Nat) : Int)).take 4 = word key j := by
 rw [sW, show 4 * j + 4 - 4 * j = 4 by omega, List.take_take, Nat.min_self, Z4 h];rfl
def Words (W : List (List Int)) : Prop := ∀ w ∈ W, w.length = 4 /\ ∀ x ∈ w, B8 x
theorem Words.at {W : List (List Int)} (h : Words W) {i : Nat} (hi : i < W.length) : (rd z4 W (i : Int)).length = 4 /\ ∀ x ∈ rd z4 W (i : Int), B8 x := h _ (fH (by omega) (by omega))
theorem Words.byte {W : List (List Int)} (h : Words W) {i : Nat} (hi : i < W.length) {j : Int} (h0 : 0 <= j) (hj : j < 4) : B8 (rd 0 (rd z4 W (i : Int)) j) := by
 have := h.at hi;exact this.2 _ (fH h0 (by omega))
noncomputable def TV (nk : Nat) (i : Nat) (x : Int) (t : List Int) : List Int :=
 if i % nk = 0 then [dN .u8 (BP (rd 0 t 1)) x, BP (rd 0 t 2), BP (rd 0 t 3), BP (rd 0 t 0)]
 else if nk = 8 /\ i % 8 = 4 then [BP (rd 0 t 0), BP (rd 0 t 1), BP (rd 0 t 2), BP (rd 0 t 3)]
 else [rd 0 t 0, rd 0 t 1, rd 0 t 2, rd 0 t 3]
def QM (t w : List Int) : List Int := [dN .u8 (rd 0 t 0) (rd 0 w 0), dN .u8 (rd 0 t 1) (rd 0 w 1), dN .u8 (rd 0 t 2) (rd 0 w 2), dN .u8 (rd 0 t 3) (rd 0 w 3)]
noncomputable def stepW (nk : Nat) (s : List (List Int) × Int) : List (List Int) × Int :=
 (s.1 ++ [QM (TV nk s.1.length s.2 (rd z4 s.1 ((s.1.length - 1 : Nat) : Int))) (rd z4 s.1 ((s.1.length - nk : Nat) : Int))], if s.1.length % nk = 0 then tm s.2 2 else s.2)
noncomputable def sched (nk : Nat) (key : List Int) : Nat -> List (List Int) × Int
 | 0 => ((List.range nk).map (word key), 1)
 | k + 1 => stepW nk (sched nk key k)
theorem vS (nk : Nat) (key : List Int) : ∀ k, (sched nk key k).1.length = nk + k
 | 0 => by simp [sched]
 | k + 1 => by rw [sched, stepW, List.length_append, vS nk key k]; rfl
theorem V5 (t w : List Int) : (QM t w).length = 4 /\ ∀ x ∈ QM t w, B8 x := by
 refine ⟨rfl, fun x hx => ?_⟩;simp only [QM, List.mem_cons, List.not_mem_nil, or_false] at hx;rcases hx with rfl | rfl | rfl | rfl <;> exact Bd _ _
theorem yX (nk : Nat) (key : List Int) (hk : 4 * nk <= key.length) (hb : ∀ x ∈ key, B8 x) : ∀ k, Words (sched nk key k).1 /\ B8 (sched nk key k).2
 | 0 => by
  refine ⟨fun w hw => ?_, show B8 1 from ⟨by decide, by decide⟩⟩;obtain ⟨j, hj, rfl⟩ := List.mem_map.1 hw;have hj := List.mem_range.1 hj;refine ⟨rfl, fun x hx => ?_⟩;simp only [word, List.mem_cons, List.not_mem_nil, or_false] at hx;rcases hx with rfl | rfl | rfl | rfl <;> exact hb _ (fH (by omega) (by omega))
 | k + 1 => by
  obtain ⟨h1, h2⟩ := yX nk key hk hb k;refine ⟨fun w hw => ?_, ?_⟩
  ·rcases List.mem_append.1 hw with hw | hw
   ·exact h1 w hw
   ·rw [List.mem_singleton.1 hw]; exact V5 _ _
  ·show B8 (if _ then tm _ 2 else _);split
   ·exact VZ _ _
   ·exact h2
noncomputable def lH (key : List Int) : List (List Int) := (sched (key.length / 4) key (3 * (key.length / 4) + 28)).1
theorem uZ (key : List Int) : (lH key).length = 4 * (key.length / 4) + 28 := by unfold lH; rw [vS]; omega
theorem yY (key : List Int) (hb : ∀ x ∈ key, B8 x) : Words (lH key) := (yX _ key (by omega) hb _).1
def rZ (W : List (List Int)) (j : Nat) : List Int := rd z4 W ((4 * j : Nat) : Int) ++ (rd z4 W ((4 * j + 1 : Nat) : Int) ++ (rd z4 W ((4 * j + 2 : Nat) : Int) ++ rd z4 W ((4 * j + 3 : Nat) : Int)))
def fD (W : List (List Int)) : List (List Int) := (List.range (W.length / 4)).map (rZ W)
theorem KW {W : List (List Int)} (h : Words W) {j : Nat} (hj : 4 * j + 3 < W.length) : (rZ W j).length = 16 := by
 unfold rZ;simp only [List.length_append, (h.at (show 4 * j < W.length by omega)).1, (h.at (show 4 * j + 1 < W.length by omega)).1, (h.at (show 4 * j + 2 < W.length by omega)).1, (h.at hj).1]
noncomputable def u_ (b : List Int) : List Int := tab 16 fun i => BP (rd 0 b (((i + 4 * (i % 4)) % 16 : Nat) : Int))
def xE (b : List Int) : List Int := tab 16 fun i =>
 dN .u8 (dN .u8 (dN .u8 (dN .u8 0 (tm (rd 0 b ((i / 4 * 4 + i % 4 : Nat) : Int)) 2)) (tm (rd 0 b ((i / 4 * 4 + (i + 1) % 4 : Nat) : Int)) 3)) (tm (rd 0 b ((i / 4 * 4 + (i + 2) % 4 : Nat) : Int)) 1)) (tm (rd 0 b ((i / 4 * 4 + (i + 3) % 4 : Nat) : Int)) 1)
def yZ (b k : List Int) : List Int := tab 16 fun i => dN .u8 (rd 0 b (i : Int)) (rd 0 k (i : Int))
noncomputable def TW (last : Bool) (b k : List Int) : List Int := yZ (bif last then u_ b else xE (u_ b)) k
noncomputable def vg (W : List (List Int)) (b : List Int) : Nat -> List Int
 | 0 => yZ b (rZ W 0)
 | j + 1 => TW (decide (j + 2 = W.length / 4)) (vg W b j) (rZ W (j + 1))
noncomputable def encS (key b : List Int) : List Int := vg (lH key) b ((lH key).length / 4 - 1)
def ED (b : List Int) : Prop := b.length = 16 /\ ∀ x ∈ b, B8 x
theorem G7 {n : Nat} {g : Nat -> Int} (h : ∀ k, k < n -> B8 (g k)) : ∀ x ∈ tab n g, B8 x := by
 intro x hx;obtain ⟨i, hi, rfl⟩ := List.mem_map.1 hx;exact h i (List.mem_range.1 hi)
theorem KX (b k : List Int) : ED (yZ b k) := ⟨jB, G7 fun _ _ => Bd _ _⟩
theorem Jg (W : List (List Int)) (b : List Int) : ∀ j, ED (vg W b j)
 | 0 => KX _ _
 | _ + 1 => KX _ _
theorem r_ (key b : List Int) : ED (encS key b) := Jg _ _ _
theorem ED.at {b : List Int} (h : ED b) {i : Nat} (hi : i < 16) : B8 (rd 0 b (i : Int)) := h.2 _ (fH (by omega) (by rw [h.1]; omega))
end Go.AM
end
section
namespace Go.AM
theorem Ny {α : Type} {d : α} {a b : List α} {k : Nat} (h : k < a.length) : rd d (a ++ b) (k : Int) = rd d a (k : Int) := by unfold rd; rw [Int.toNat_natCast, List.getD_eq_getElem?_getD, List.getD_eq_getElem?_getD, List.getElem?_append_left h]
end Go.AM
end
section
namespace Go.AM
section
variable {ok : Bool} {n dn mu sm four nk x i t t1 t2 tp tq : Int} {key b tw ta out K was kb T sb bk : List Int} {yb W rn : List (List Int)} {last : Bool}
theorem Z5 (i : Nat) (hi : i < 256) : aj.l0 .lim ((i : Int), t, 7, 0, ok, key, dn, mu, sm, sb, bk, yb, kL, b, tw, ()) = some (t, ok, key, dn, mu, sm, sb, bk, Bj i yb 7, b, tw, ()) := by
 have e := dS (f := aj.l0 .lim) (fun k => ((i : Int), t, 7, (k : Int), ok, key, dn, mu, sm, sb, bk, Bj i yb k, kL, b, tw, ())) (n := 7) (fun k hk => by
  rw [aj.q0];obtain ⟨h1, h2⟩ := XF k hk;have hB : B8 (rd 0 kL (k : Int)) := ⟨h1, by omega⟩;have QN : B8 (i : Int) := ⟨by omega, by omega⟩;simp only [aj.b0, au (show (k : Int) < 7 by omega), aG (show (0 : Int) <= k by omega) (show (k : Int) < (kL.length : Int) from show (k : Int) < 7 by omega), nV QN, nZ QN hB, Option.bind_some, aG h1 (show rd 0 kL (k : Int) < 16 from h2), aG (show (0 : Int) <= i by omega) (show (i : Int) < 256 by omega), cond_true, nX k (by omega), Int.toNat_natCast];rfl)
 refine e.trans ?_;rw [aj.q0];simp only [aj.b0, aA (show ¬ ((7 : Nat) : Int) < 7 by decide), cond_false]
theorem TY : aj.l1 .lim (0, ok, key, dn, mu, sm, dw, dw, List.replicate 16 dw, b, tw, ()) = some (ok, key, dn, mu, sm, lJ 256, Aa 256, bW 256, b, tw, ()) := by
 have e := dS (f := aj.l1 .lim) (fun k => ((k : Int), ok, key, dn, mu, sm, lJ k, Aa k, bW k, b, tw, ())) (n := 256) (fun k hk => by
  rw [aj.q1];have QN : B8 (k : Int) := ⟨by omega, by omega⟩;have hs := Pn QN;have hm := fun sb bk => Z5 (ok := ok) (key := key) (dn := dn) (mu := mu) (sm := sm) (sb := sb) (bk := bk) (yb := bW k) (b := b) (tw := tw) (t := (k : Int))  k hk
  simp only [aj.b1, au (show (k : Int) < 256 by omega), nV QN, Pm QN, Option.bind_some, aG (show (0 : Int) <= k by omega) (show (k : Int) < 256 by omega), aG hs.1 hs.2, cond_true, show ((([1, 2, 3, 9, 11, 13, 14] : List Int).length : Nat) : Int) = 7 from rfl, aO (show (7 : Int) < 9223372036854775808 by omega), hm, nX k (by omega), Po];rw [show (lJ k).set ((k : Int)).toNat (BP k) = lJ (k + 1) from Ey rfl];rfl)
 rw [show lJ 0 = dw from zX, EC, show Aa 0 = dw from rfl, show ((0 : Nat) : Int) = 0 from rfl] at e;refine e.trans ?_;rw [aj.q1];simp only [aj.b1, aA (show ¬ ((256 : Nat) : Int) < 256 by decide), cond_false]
theorem V6 {q : Nat} (hk : kb.length = 4 * q) (hq : q <= 100) : aj.l2 .lim (0, nk, ok, 4, key, dn, mu, sm, sb, bk, yb, b, tw, kb, [], ()) = some (nk, ok, key, dn, mu, sm, sb, bk, yb, b, tw, (List.range q).map (word kb), ()) := by
 have e := dS (f := aj.l2 .lim) (fun k => (((4 * k : Nat) : Int), nk, ok, 4, key, dn, mu, sm, sb, bk, yb, b, tw, kb, (List.range k).map (word kb), ())) (n := q) (fun k hkq => by
  rw [aj.q2];have w1 : IntKind.i64.wrap (((4 * k : Nat) : Int) + 4) = ((4 * k + 4 : Nat) : Int) := by rw [wrap64 (by omega) (by omega)]; omega
  have w2 : mn 4 ((kb.length : Int) - ((4 * k : Nat) : Int)) = 4 := by rw [fG]; omega
  have w3 : (cut kb ((4 * k : Nat) : Int) ((4 * k + 4 : Nat) : Int)).length = 4 := by rw [sW, List.length_take, List.length_drop]; omega
  have w4 : (Nat.ble 1 4 && Nat.ble 4 (cut kb ((4 * k : Nat) : Int) ((4 * k + 4 : Nat) : Int)).length) = true := by rw [w3]; rfl
  simp only [aj.b2, aO (show (kb.length : Int) < 9223372036854775808 by omega), au (show ((4 * k : Nat) : Int) < (kb.length : Int) by omega), aT (show (0 : Int) <= ((4 * k : Nat) : Int) by omega) (show ((4 * k : Nat) : Int) <= (kb.length : Int) by omega) (Int.le_refl _), aO (show (kb.length : Int) - ((4 * k : Nat) : Int) < 9223372036854775808 by omega), w2, w1, aT (show (0 : Int) <= ((4 * k : Nat) : Int) by omega) (show ((4 * k : Nat) : Int) <= ((4 * k + 4 : Nat) : Int) by omega) (Int.le_refl _), au (show ((4 * k + 4 : Nat) : Int) <= (kb.length : Int) by omega), Bool.and_self, w4, cond_true];rw [cond_pos (by simp; omega), KU (by omega)];simp only [List.range_succ, List.map_append, List.map_cons, List.map_nil];rfl)
 refine e.trans ?_;rw [aj.q2];simp only [aj.b2, aO (show (kb.length : Int) < 9223372036854775808 by omega), aA (show ¬ ((4 * q : Nat) : Int) < (kb.length : Int) by omega), cond_true, cond_false]
theorem Z7 (hW : Words W) {i nk : Nat} (h1 : nk <= i) (h2 : i <= W.length) (h3 : 0 < nk) (h4 : i < 1000) (hT : T.length = 4) : aj.l3 .lim ((nk : Int), x, (i : Int), 0, ok, T, key, dn, mu, sm, sb, bk, yb, b, tw, W, ()) = some ((nk : Int), x, (i : Int), ok, QM T (rd z4 W ((i - nk : Nat) : Int)), key, dn, mu, sm, sb, bk, yb, b, tw, W, ()) := by
 have w : IntKind.i64.wrap ((i : Int) - (nk : Int)) = ((i - nk : Nat) : Int) := by rw [wrap64 (by omega) (by omega)]; omega
 have e := iY (f := aj.l3 .lim) (fun k T => ((nk : Int), x, (i : Int), (k : Int), ok, T, key, dn, mu, sm, sb, bk, yb, b, tw, W, ())) (fun k v => dN .u8 v (rd 0 (rd z4 W ((i - nk : Nat) : Int)) (k : Int))) T hT (fun k hk m' hm hj => by
  rw [aj.q3];simp only [aj.b3, au (show (k : Int) < 4 by omega), aG (show (0 : Int) <= k by omega) (show (k : Int) < 4 by omega), w, aG (show (0 : Int) <= ((i - nk : Nat) : Int) by omega) (show ((i - nk : Nat) : Int) < (W.length : Int) by omega), cond_true, nX k (by omega), hj k (Nat.le_refl _), Int.toNat_natCast])
 refine e.trans ?_;rw [aj.q3];simp only [aj.b3, aA (show ¬ ((4 : Nat) : Int) < 4 by decide), cond_false];rfl
end
end Go.AM
end
section
namespace Go.AM
section
variable {ok : Bool} {n dn mu sm four x i t t1 t2 tp tq : Int} {key b tw ta out K was kb T sb bk : List Int} {yb W rn : List (List Int)} {last : Bool}
theorem YC (a b c d : Int) : ((((List.replicate 4 (0 : Int)).set 0 a).set 1 b).set 2 c).set 3 d = [a, b, c, d] := rfl
theorem V7 {nk : Nat} (hn : nk = 4 \/ nk = 8) (hk : 4 * nk <= kb.length) (hb : ∀ x ∈ kb, B8 x) :
  aj.l4 .lim ((nk : Int), 1, (nk : Int), ok, key, dn, mu, sm, lJ 256, bk, yb, b, tw, (List.range nk).map (word kb), ()) = some (ok, key, dn, mu, sm, lJ 256, bk, yb, b, tw, (sched nk kb (3 * nk + 28)).1, ()) := by
 have e := dS (f := aj.l4 .lim) (fun k => ((nk : Int), (sched nk kb k).2, ((nk + k : Nat) : Int), ok, key, dn, mu, sm, lJ 256, bk, yb, b, tw, (sched nk kb k).1, ())) (n := 3 * nk + 28) (fun k hkq => by
  rw [aj.q4];obtain ⟨hW, hx⟩ := yX nk kb hk hb k;have hl := vS nk kb k;have hs : sched nk kb (k + 1) = stepW nk (sched nk kb k) := rfl;rw [hs];unfold stepW;generalize hq : sched nk kb k = q at hW hx hl;obtain ⟨W, x⟩ := q;simp only at hW hx hl ⊢
  have hi0 : nk + k < 1000 := by omega
  generalize hi : nk + k = i at hl hi0;have hw := hW.at (show i - 1 < W.length by omega);have hb0 := hW.byte (show i - 1 < W.length by omega) (j := 0) (by omega) (by omega);have hb1 := hW.byte (show i - 1 < W.length by omega) (j := 1) (by omega) (by omega);have hb2 := hW.byte (show i - 1 < W.length by omega) (j := 2) (by omega) (by omega);have hb3 := hW.byte (show i - 1 < W.length by omega) (j := 3) (by omega) (by omega);have w1 : IntKind.i64.wrap (4 * IntKind.i64.wrap ((nk : Int) + 7)) = ((4 * nk + 28 : Nat) : Int) := by rw [wrap64 (n := (nk : Int) + 7) (by omega) (by omega), wrap64 (by omega) (by omega)]; omega
  have w2 : IntKind.i64.wrap ((i : Int) - 1) = ((i - 1 : Nat) : Int) := by rw [wrap64 (by omega) (by omega)]; omega
  have m1 : ((i : Int)).tmod (nk : Int) = ((i % nk : Nat) : Int) := by rw [Int.tmod_eq_emod_of_nonneg (Int.natCast_nonneg i)]; simp
  have m2 : ((i : Int)).tmod 8 = ((i % 8 : Nat) : Int) := by rw [Int.tmod_eq_emod_of_nonneg (Int.natCast_nonneg i)]; simp
  have Nz := fun x T hT => Z7 (ok := ok) (key := key) (dn := dn) (mu := mu) (sm := sm) (sb := lJ 256) (bk := bk) (yb := yb) (b := b) (tw := tw) (x := x) (T := T)  hW (i := i) (nk := nk) (by omega) (by omega) (by omega) (by omega) hT
  have cap : ∀ T : List Int, decide (W.length + ([T] : List (List Int)).length < 17592186044416) = true := fun T => au (by simp; omega)
  simp only [aj.b4, w1, au (show (i : Int) < ((4 * nk + 28 : Nat) : Int) by omega), w2, aG (show (0 : Int) <= ((i - 1 : Nat) : Int) by omega) (show ((i - 1 : Nat) : Int) < (W.length : Int) by omega), aA (show ¬ (nk : Int) = 0 by omega), m1, m2, cond_true, Bool.not_false, aG hb0.1 hb0.2, aG hb1.1 hb1.2, aG hb2.1 hb2.2, aG hb3.1 hb3.2, qA hb0, qA hb1, qA hb2, qA hb3, YC, Bool.or_true];rw [hl];unfold TV;by_cases c1 : i % nk = 0
  ·rw [au (show ((i % nk : Nat) : Int) = 0 by omega), if_pos c1, if_pos c1];simp only [cond_true, nZ hx (show B8 2 from ⟨by decide, by decide⟩), Option.bind_some];rw [Nz _ _ rfl];simp only [Option.bind_some];rw [cond_pos (by simp; omega), nX i (by omega)];rw [show i + 1 = nk + (k + 1) by omega]
  ·rw [aA (show ¬ ((i % nk : Nat) : Int) = 0 by omega), if_neg c1, if_neg c1];simp only [cond_false];by_cases c2 : nk = 8 /\ i % 8 = 4
   ·rw [au (show (nk : Int) = 8 by omega), au (show ((i % 8 : Nat) : Int) = 4 by omega), if_pos c2];simp only [Bool.and_self, cond_true];rw [Nz _ _ rfl];simp only [Option.bind_some];rw [cond_pos (by simp; omega), nX i (by omega)];rw [show i + 1 = nk + (k + 1) by omega]
   ·have : (decide ((nk : Int) = 8) && decide (((i % 8 : Nat) : Int) = 4)) = false := by
     by_cases c3 : nk = 8
     ·rw [aA (show ¬ ((i % 8 : Nat) : Int) = 4 by omega), Bool.and_false]
     ·rw [aA (show ¬ (nk : Int) = 8 by omega), Bool.false_and]
    rw [this, if_neg c2];simp only [cond_false];rw [Nz _ _ hw.1];simp only [Option.bind_some];rw [cond_pos (by simp; omega), nX i (by omega), <- list4 hw.1];rw [show i + 1 = nk + (k + 1) by omega])
 refine (show _ = _ from e).trans ?_;rw [aj.q4];have w1 : IntKind.i64.wrap (4 * IntKind.i64.wrap ((nk : Int) + 7)) = ((4 * nk + 28 : Nat) : Int) := by rw [wrap64 (n := (nk : Int) + 7) (by omega) (by omega), wrap64 (by omega) (by omega)]; omega
 simp only [aj.b4, w1, aA (show ¬ ((nk + (3 * nk + 28) : Nat) : Int) < ((4 * nk + 28 : Nat) : Int) by omega), cond_false]
end
end Go.AM
end
section
namespace Go.AM
theorem G8 {l : List (List Int)} {k : Nat} (h : k < l.length) : (l.take (k + 1)).flatten = (l.take k).flatten ++ rd [] l (k : Int) := by rw [CJ (d := ([] : List Int)) h, List.flatten_append]; simp
theorem y5 (l : List (List Int)) (k : Nat) : (l.take k).flatten.length <= l.flatten.length := by
 have : l.flatten = (l.take k).flatten ++ (l.drop k).flatten := by rw [<- List.flatten_append, List.take_append_drop]
 rw [this, List.length_append]; omega
theorem G9 (l : List (List Int)) (h : l.flatten.length <= 1000000) (hl : l.length <= 1000000) : aC.run .lim (l, ()) = some l.flatten := by
 have e := dS (f := aC.l0 .lim) (fun k => (l, (((l.take k).flatten.length : Nat) : Int), l, (l.length : Int), (k : Int), ())) (n := l.length) (fun k hk => by
  rw [aC.q0];have h1 := G8 hk;have h2 := y5 l (k + 1);rw [h1, List.length_append] at h2;have w : IntKind.i64.wrap ((((l.take k).flatten.length : Nat) : Int) + ((rd ([] : List Int) l (k : Int)).length : Int)) = (((l.take (k + 1)).flatten.length : Nat) : Int) := by rw [wrap64 (by omega) (by omega), h1, List.length_append]; omega
  simp only [aC.b0, au (show (k : Int) < (l.length : Int) by omega), aG (show (0 : Int) <= k by omega) (show (k : Int) < (l.length : Int) by omega), aF (show (rd ([] : List Int) l (k : Int)).length < 9223372036854775808 by omega), w, aA (show ¬ ((((l.take (k + 1)).flatten.length : Nat) : Int) < 0) by omega), cond_true, cond_false, nX k (by omega)])
 have e1 := fun N : Nat => fun hN : N = l.flatten.length => dS (f := aC.l1 .lim) (fun k => ((((l.take k).flatten.length : Nat) : Int), l, (l.length : Int), (k : Int), (l.take k).flatten ++ List.replicate (N - (l.take k).flatten.length) 0, ())) (n := l.length) (fun k hk => by
  rw [aC.q1];have h1 := G8 hk;have h2 := y5 l (k + 1);rw [h1, List.length_append] at h2;simp only [aC.b1, au (show (k : Int) < (l.length : Int) by omega), aG (show (0 : Int) <= k by omega) (show (k : Int) < (l.length : Int) by omega), cond_true, nX k (by omega), Int.toNat_natCast];have hc : (decide (((l.take k).flatten ++ List.replicate (N - (l.take k).flatten.length) (0 : Int)).length + (rd ([] : List Int) l (k : Int)).length < 70368744177664) && decide (0 <= (((l.take k).flatten.length : Nat) : Int))) = true := by rw [List.length_append, List.length_replicate, au (by omega), au (by omega)]; rfl
  rw [cond_pos hc, h1, List.length_append];have e3 : ((((l.take k).flatten.length : Nat) : Int) + ((rd ([] : List Int) l (k : Int)).length : Int)) = (((l.take k).flatten.length + (rd ([] : List Int) l (k : Int)).length : Nat) : Int) := by omega
  rw [e3, List.take_append_of_le_length (Nat.le_refl _), List.take_length, List.drop_append, List.drop_eq_nil_of_le (by omega), List.nil_append, List.drop_replicate, List.append_assoc];have e4 : N - (l.take k).flatten.length - ((l.take k).flatten.length + (rd ([] : List Int) l (k : Int)).length - (l.take k).flatten.length) = N - ((l.take k).flatten.length + (rd ([] : List Int) l (k : Int)).length) := by omega
  rw [e4])
 rw [List.take_length, List.take_zero, show ((([] : List (List Int)).flatten.length : Nat) : Int) = 0 from rfl, show ((0 : Nat) : Int) = 0 from rfl] at e;have ee : aC.l0 .lim (l, ((l.flatten.length : Nat) : Int), l, (l.length : Int), (l.length : Int), ()) = some (l, ((l.flatten.length : Nat) : Int), ()) := by
  rw [aC.q0];simp only [aC.b0, aA (show ¬ (l.length : Int) < (l.length : Int) by omega), cond_false]
 have ee1 : ∀ m, aC.l1 .lim (((l.flatten.length : Nat) : Int), l, (l.length : Int), (l.length : Int), m, ()) = some (((l.flatten.length : Nat) : Int), m, ()) := fun m => by
  rw [aC.q1];simp only [aC.b1, aA (show ¬ (l.length : Int) < (l.length : Int) by omega), cond_false]
 have e2 : aC.l1 .lim (0, l, (l.length : Int), 0, List.replicate l.flatten.length 0, ()) = some (((l.flatten.length : Nat) : Int), l.flatten, ()) := by
  have := e1 _ rfl;rw [List.take_length, List.take_zero, Nat.sub_self, List.replicate_zero, List.append_nil] at this;exact this.trans (ee1 _)
 simp only [aC.run, aF (show l.length < 9223372036854775808 by omega), cond_true, e, ee, Option.bind_some, Int.sub_zero, aA (show ¬ ((l.flatten.length : Nat) : Int) < 0 by omega), cond_false, wrap64 (show -9223372036854775808 <= ((l.flatten.length : Nat) : Int) by omega) (show ((l.flatten.length : Nat) : Int) < 9223372036854775808 by omega), Int.toNat_natCast];by_cases h0 : l.flatten.length = 0
 ·rw [aA (show ¬ ((l.flatten.length : Nat) : Int) > 0 by omega)];rw [h0, List.replicate_zero] at e2;simp only [cond_false];rw [e2];simp [List.length_eq_zero_iff.1 h0]
 ·rw [au (show ((l.flatten.length : Nat) : Int) > 0 by omega)];have hb : Nat.blt l.flatten.length 70368744177664 = true := by rw [Nat.blt_eq]; omega
  simp only [cond_true, au (show (0 : Int) <= ((l.flatten.length : Nat) : Int) by omega), hb, Bool.and_self, e2, Option.bind_some, List.drop_zero, Int.toNat_natCast, List.take_length];rw [cond_pos (aT (Int.le_refl 0) (Int.le_refl 0) (Int.natCast_nonneg _))]
end Go.AM
end
section
namespace Go.AM
section
variable {ok : Bool} {n dn mu sm four x i t t1 t2 tp tq : Int} {key b tw ta out K was kb T sb bk : List Int} {yb W rn : List (List Int)} {last : Bool}
theorem T_ {q : Nat} (hW : Words W) (hl : W.length = 4 * q) (hq : q <= 100) : aj.l5 .lim (0, ok, 4, key, dn, mu, sm, sb, bk, yb, b, tw, W, [], ()) = some (ok, key, dn, mu, sm, sb, bk, yb, b, tw, fD W, ()) := by
 have e := dS (f := aj.l5 .lim) (fun k => (((4 * k : Nat) : Int), ok, 4, key, dn, mu, sm, sb, bk, yb, b, tw, W, (List.range k).map (rZ W), ())) (n := q) (fun k hkq => by
  rw [aj.q5];have w1 : IntKind.i64.wrap (((4 * k : Nat) : Int) + 4) = ((4 * k + 4 : Nat) : Int) := by rw [wrap64 (by omega) (by omega)]; omega
  have w2 : mn 4 ((W.length : Int) - ((4 * k : Nat) : Int)) = 4 := by rw [fG]; omega
  have w3 : (cut W ((4 * k : Nat) : Int) ((4 * k + 4 : Nat) : Int)).length = 4 := by rw [sW, List.length_take, List.length_drop]; omega
  have at_ : ∀ j : Nat, j < 4 -> rd z4 (cut W ((4 * k : Nat) : Int) ((4 * k + 4 : Nat) : Int)) (j : Int) = rd z4 W ((4 * k + j : Nat) : Int) := fun j hj => by
   rw [sW];unfold rd;rw [Int.toNat_natCast, Int.toNat_natCast, List.getD_eq_getElem?_getD, List.getD_eq_getElem?_getD, List.getElem?_take_of_lt (by omega), List.getElem?_drop]
  have a0 : rd z4 (cut W ((4 * k : Nat) : Int) ((4 * k + 4 : Nat) : Int)) 0 = rd z4 W ((4 * k : Nat) : Int) := at_ 0 (by omega);have a1 : rd z4 (cut W ((4 * k : Nat) : Int) ((4 * k + 4 : Nat) : Int)) 1 = rd z4 W ((4 * k + 1 : Nat) : Int) := at_ 1 (by omega);have a2 : rd z4 (cut W ((4 * k : Nat) : Int) ((4 * k + 4 : Nat) : Int)) 2 = rd z4 W ((4 * k + 2 : Nat) : Int) := at_ 2 (by omega);have a3 : rd z4 (cut W ((4 * k : Nat) : Int) ((4 * k + 4 : Nat) : Int)) 3 = rd z4 W ((4 * k + 3 : Nat) : Int) := at_ 3 (by omega);have c4 : ∀ l : List Int, l.length = 4 -> cut l 0 4 = l := fun l hl => by
   have := sW l 0 4;rw [show ((0 : Nat) : Int) = 0 from rfl, show ((4 : Nat) : Int) = 4 from rfl] at this;rw [this, List.drop_zero, List.take_of_length_le (by omega)]
  have l0 := (hW.at (show 4 * k < W.length by omega)).1;have l1 := (hW.at (show 4 * k + 1 < W.length by omega)).1;have l2 := (hW.at (show 4 * k + 2 < W.length by omega)).1;have l3 := (hW.at (show 4 * k + 3 < W.length by omega)).1;have hfl : [rd z4 W ((4 * k : Nat) : Int), rd z4 W ((4 * k + 1 : Nat) : Int), rd z4 W ((4 * k + 2 : Nat) : Int), rd z4 W ((4 * k + 3 : Nat) : Int)].flatten = rZ W k := by simp [rZ]
  have hrl := KW hW (j := k) (by omega);have rE := G9 [rd z4 W ((4 * k : Nat) : Int), rd z4 W ((4 * k + 1 : Nat) : Int), rd z4 W ((4 * k + 2 : Nat) : Int), rd z4 W ((4 * k + 3 : Nat) : Int)] (by rw [hfl, hrl]; omega) (by simp);rw [hfl] at rE;simp only [aj.b5, aO (show (W.length : Int) < 9223372036854775808 by omega), au (show ((4 * k : Nat) : Int) < (W.length : Int) by omega), aT (show (0 : Int) <= ((4 * k : Nat) : Int) by omega) (show ((4 * k : Nat) : Int) <= (W.length : Int) by omega) (Int.le_refl _), aO (show (W.length : Int) - ((4 * k : Nat) : Int) < 9223372036854775808 by omega), w2, w1, aT (show (0 : Int) <= ((4 * k : Nat) : Int) by omega) (show ((4 * k : Nat) : Int) <= ((4 * k + 4 : Nat) : Int) by omega) (Int.le_refl _), au (show ((4 * k + 4 : Nat) : Int) <= (W.length : Int) by omega), Bool.and_self, w3, cond_true, aG (show (0 : Int) <= 0 by omega) (show (0 : Int) < ((4 : Nat) : Int) by decide), aG (show (0 : Int) <= 1 by omega) (show (1 : Int) < ((4 : Nat) : Int) by decide), aG (show (0 : Int) <= 2 by omega) (show (2 : Int) < ((4 : Nat) : Int) by decide), aG (show (0 : Int) <= 3 by omega) (show (3 : Int) < ((4 : Nat) : Int) by decide), a0, a1, a2, a3, c4 _ l0, c4 _ l1, c4 _ l2, c4 _ l3, rE, Option.bind_some, hrl, List.take_of_length_le (Nat.le_of_eq hrl)];rw [show (Nat.ble 1 16 && Nat.ble 16 16) = true from rfl, cond_true, cond_pos (by simp; omega)];simp only [List.range_succ, List.map_append, List.map_cons, List.map_nil];rfl)
 refine (show _ = _ from e).trans ?_;rw [aj.q5];simp only [aj.b5, aO (show (W.length : Int) < 9223372036854775808 by omega), aA (show ¬ ((4 * q : Nat) : Int) < (W.length : Int) by omega), cond_true, cond_false];unfold fD;rw [hl, Nat.mul_div_cancel_left _ (by omega)]
theorem V8 (hk : key.length = 16 \/ key.length = 32) (hb : ∀ x ∈ key, B8 x) : aj.l6 .lim (key, 0, 0, sm, dw, dw, List.replicate 16 dw, b, tw, ()) = some (b, tw, key, 1, 0, sm, lJ 256, Aa 256, bW 256, fD (lH key), ()) := by
 have h0 : aj.l6 .lim (key, 0, 0, sm, dw, dw, List.replicate 16 dw, b, tw, ()) = aj.b6 .lim (aj.l6 .lim) (key, 0, 0, sm, dw, dw, List.replicate 16 dw, b, tw, ()) := aj.q6 _;rw [h0];have hd : (key.length : Int).tdiv 4 = ((key.length / 4 : Nat) : Int) := by rw [Int.tdiv_eq_ediv_of_nonneg (Int.natCast_nonneg _)]; simp
 have w1 : IntKind.i64.wrap ((key.length : Int).tdiv 4) = ((key.length / 4 : Nat) : Int) := by rw [hd, wrap64 (by omega) (by omega)]
 have t := TY (ok := true) (key := key) (dn := 0) (mu := 1) (sm := sm) (b := b) (tw := tw);have s := V6 (kb := key) (q := key.length / 4) (nk := ((key.length / 4 : Nat) : Int)) (ok := true) (key := key) (dn := 0) (mu := 1) (sm := sm) (sb := lJ 256) (bk := Aa 256) (yb := bW 256) (b := b) (tw := tw)  (by omega) (by omega);have w := V7 (kb := key) (nk := key.length / 4) (ok := true) (key := key) (dn := 0) (mu := 1) (sm := sm) (bk := Aa 256) (yb := bW 256) (b := b) (tw := tw)  (by omega) (by omega) hb;have r := T_ (W := lH key) (q := key.length / 4 + 7) (ok := true) (key := key) (dn := 0) (mu := 1) (sm := sm) (sb := lJ 256) (bk := Aa 256) (yb := bW 256) (b := b) (tw := tw)  (yY key hb) (by rw [uZ]; omega) (by omega);have hs : gG.run .lim (true, ()) = some 1 := rfl;have hw : (sched (key.length / 4) key (3 * (key.length / 4) + 28)).1 = lH key := rfl;simp only [aj.b6, decide_true, Bool.not_true, Bool.not_false, cond_true, t, Option.bind_some, aO (show (key.length : Int) < 9223372036854775808 by omega), w1];rw [s];simp only [Option.bind_some];rw [w];simp only [Option.bind_some];rw [hw, r];simp only [Option.bind_some, hs, show IntKind.i32.wrap (1 + -1) = 0 from by decide, decide_true, Bool.not_true, cond_false]
end
end Go.AM
end
section
namespace Go.AM
section
variable {ok : Bool} {n dn mu sm four x i t t1 t2 tp tq : Int} {key b tw ta out K was kb T sb bk : List Int} {yb W rn : List (List Int)} {last : Bool}
theorem V9 (hb : b.length = 16) : aj.l7 .lim (0, b, K, tw, key, dn, mu, sm, sb, bk, yb, rn, ()) = some (yZ b K, tw, key, dn, mu, sm, sb, bk, yb, rn, ()) := by
 have e := iY (f := aj.l7 .lim) (fun k b => ((k : Int), b, K, tw, key, dn, mu, sm, sb, bk, yb, rn, ())) (fun k v => dN .u8 v (rd 0 K (k : Int))) b hb (fun k hk m' hm hj => by
  rw [aj.q7];simp only [aj.b7, au (show (k : Int) < 16 by omega), aG (show (0 : Int) <= k by omega) (show (k : Int) < 16 by omega), cond_true, nX k (by omega), hj k (Nat.le_refl _), Int.toNat_natCast])
 refine (show _ = _ from e).trans ?_;rw [aj.q7];simp only [aj.b7, aA (show ¬ ((16 : Nat) : Int) < 16 by decide), cond_false];rfl
theorem Ua (hb : ED b) : aj.l8 .lim (0, last, tp, tq, t1, t2, b, key, dn, mu, sm, lJ 256, bk, yb, K, rn, tw, ()) = some (last, tp, tq, t1, t2, tab 16 fun i => BP (rd 0 b (i : Int)), K, rn, tw, key, dn, mu, sm, lJ 256, bk, yb, ()) := by
 have e := iY (f := aj.l8 .lim) (fun k b => ((k : Int), last, tp, tq, t1, t2, b, key, dn, mu, sm, lJ 256, bk, yb, K, rn, tw, ())) (fun k v => BP v) b hb.1 (fun k hk m' hm hj => by
  rw [aj.q8];have h := hb.at hk;simp only [aj.b8, au (show (k : Int) < 16 by omega), aG (show (0 : Int) <= k by omega) (show (k : Int) < 16 by omega), cond_true, nX k (by omega), hj k (Nat.le_refl _), aG h.1 h.2, qA h, Int.toNat_natCast])
 refine (show _ = _ from e).trans ?_;rw [aj.q8];simp only [aj.b8, aA (show ¬ ((16 : Nat) : Int) < 16 by decide), cond_false]
theorem YD (hb : b.length = 16) : aj.l9 .lim (4, 0, last, tp, tq, t1, t2, b, was, K, rn, tw, key, dn, mu, sm, sb, bk, yb, ()) = some (last, tp, tq, t1, t2, tab 16 fun i => rd 0 was (((i + 4 * (i % 4)) % 16 : Nat) : Int), K, rn, tw, key, dn, mu, sm, sb, bk, yb, ()) := by
 have e := iY (f := aj.l9 .lim) (fun k b => (4, (k : Int), last, tp, tq, t1, t2, b, was, K, rn, tw, key, dn, mu, sm, sb, bk, yb, ())) (fun k v => rd 0 was (((k + 4 * (k % 4)) % 16 : Nat) : Int)) b hb (fun k hk m' hm hj => by
  rw [aj.q9];have m1 : ((k : Int)).tmod 4 = ((k % 4 : Nat) : Int) := by rw [Int.tmod_eq_emod_of_nonneg (Int.natCast_nonneg k)]; simp
  have w1 : IntKind.i64.wrap (4 * (k : Int).tmod 4) = ((4 * (k % 4) : Nat) : Int) := by rw [m1, wrap64 (by omega) (by omega)]; omega
  have w2 : IntKind.i64.wrap ((k : Int) + ((4 * (k % 4) : Nat) : Int)) = ((k + 4 * (k % 4) : Nat) : Int) := by rw [wrap64 (by omega) (by omega)]; omega
  have w3 : IntKind.i64.wrap (((k + 4 * (k % 4) : Nat) : Int) + 64) = ((k + 4 * (k % 4) + 64 : Nat) : Int) := by rw [wrap64 (by omega) (by omega)]; omega
  have m2 : (((k + 4 * (k % 4) + 64 : Nat) : Int)).tmod 16 = (((k + 4 * (k % 4)) % 16 : Nat) : Int) := by rw [Int.tmod_eq_emod_of_nonneg (Int.natCast_nonneg _)]; omega
  simp only [aj.b9, au (show (k : Int) < 16 by omega), aG (show (0 : Int) <= k by omega) (show (k : Int) < 16 by omega), cond_true, nX k (by omega), w1, w2, w3, m2, aG (show (0 : Int) <= (((k + 4 * (k % 4)) % 16 : Nat) : Int) by omega) (show (((k + 4 * (k % 4)) % 16 : Nat) : Int) < 16 by omega), Int.toNat_natCast])
 refine (show _ = _ from e).trans ?_;rw [aj.q9];simp only [aj.b9, aA (show ¬ ((16 : Nat) : Int) < 16 by decide), cond_false]
abbrev oP : List Int := [2, 3, 1, 1]
theorem YE (hw : ED was) {i : Nat} (hi : i < 16) (hb : b.length = 16) (h0 : rd 0 b (i : Int) = 0) : aj.l10 .lim ((i : Int), t, oP, 0, tp, tq, t1, t2, key, dn, mu, sm, sb, bk, bW 256, b, oP, was, K, rn, tw, ()) = some (t, tp, tq, t1, t2, key, dn, mu, sm, sb, bk, bW 256, b.set i (rd 0 (xE was) (i : Int)), oP, was, K, rn, tw, ()) := by
 have h4 : ∀ j : Nat, j < 4 -> IntKind.i64.wrap (IntKind.i64.wrap (IntKind.i64.wrap ((i : Int).tdiv 4) * 4) + (IntKind.i64.wrap ((i : Int) + (j : Int))).tmod 4) = ((i / 4 * 4 + (i + j) % 4 : Nat) : Int) := by
  intro j hj;have d1 : ((i : Int)).tdiv 4 = ((i / 4 : Nat) : Int) := by rw [Int.tdiv_eq_ediv_of_nonneg (Int.natCast_nonneg i)]; simp
  have d2 : IntKind.i64.wrap ((i : Int) + (j : Int)) = ((i + j : Nat) : Int) := by rw [wrap64 (by omega) (by omega)]; omega
  have d3 : (((i + j : Nat) : Int)).tmod 4 = (((i + j) % 4 : Nat) : Int) := by rw [Int.tmod_eq_emod_of_nonneg (Int.natCast_nonneg _)]; simp
  rw [d1, d2, d3, wrap64 (n := ((i / 4 : Nat) : Int)) (by omega) (by omega), wrap64 (n := ((i / 4 : Nat) : Int) * 4) (by omega) (by omega), wrap64 (by omega) (by omega)]; omega
 have hB : ∀ j : Nat, j < 4 -> B8 (rd 0 was ((i / 4 * 4 + (i + j) % 4 : Nat) : Int)) := fun j hj => hw.at (by omega)
 have g0 := h4 0 (by omega); have g1 := h4 1 (by omega); have g2 := h4 2 (by omega); have g3 := h4 3 (by omega);have b0 := hB 0 (by omega); have b1 := hB 1 (by omega); have b2 := hB 2 (by omega); have b3 := hB 3 (by omega);rw [show ((0 : Nat) : Int) = 0 from rfl] at g0;rw [show ((1 : Nat) : Int) = 1 from rfl] at g1;rw [show ((2 : Nat) : Int) = 2 from rfl] at g2;rw [show ((3 : Nat) : Int) = 3 from rfl] at g3;have r0 := (ql b0).2.1; have r1 := (ql b1).2.2; have r2 := (ql b2).1; have r3 := (ql b3).1;have step : ∀ (c : Int) (j j' : Int) (q : Nat) (v : Int) (bb : List Int), bb.length = 16 -> 0 <= j -> j < 4 -> rd 0 oP j = c -> 0 <= c -> c < 16 -> IntKind.i64.wrap (j + 1) = j' -> IntKind.i64.wrap (IntKind.i64.wrap (IntKind.i64.wrap ((i : Int).tdiv 4) * 4) + (IntKind.i64.wrap ((i : Int) + j)).tmod 4) = (q : Int) -> q < 16 -> rd 0 (rd dw (bW 256) c) (rd 0 was (q : Int)) = v -> B8 (rd 0 was (q : Int)) ->
   aj.l10 .lim ((i : Int), t, oP, j, tp, tq, t1, t2, key, dn, mu, sm, sb, bk, bW 256, bb, oP, was, K, rn, tw, ()) = aj.l10 .lim ((i : Int), t, oP, j', tp, tq, t1, t2, key, dn, mu, sm, sb, bk, bW 256, bb.set i (dN .u8 (rd 0 bb (i : Int)) v), oP, was, K, rn, tw, ()) := by
  intro c j j' q v bb hbb h1 h2 h3 h4 h5 h6 h7 h8 h9 h10;rw [aj.q10];simp only [aj.b10, au h2, aG h1 h2, h3, aG h4 h5, h7, aG (show (0 : Int) <= i by omega) (show (i : Int) < 16 by omega), aG (show (0 : Int) <= (q : Int) by omega) (show (q : Int) < 16 by omega), aG h10.1 h10.2, h9, h6, cond_true, Int.toNat_natCast]
 rw [step 2 0 1 _ _ b hb (by omega) (by omega) rfl (by omega) (by omega) rfl g0 (by omega) r0 b0];rw [step 3 1 2 _ _ _ (by simp [hb]) (by omega) (by omega) rfl (by omega) (by omega) rfl g1 (by omega) r1 b1];rw [step 1 2 3 _ _ _ (by simp [hb]) (by omega) (by omega) rfl (by omega) (by omega) rfl g2 (by omega) r2 b2];rw [step 1 3 4 _ _ _ (by simp [hb]) (by omega) (by omega) rfl (by omega) (by omega) rfl g3 (by omega) r3 b3];rw [aj.q10];simp only [aj.b10, aA (show ¬ (4 : Int) < 4 by omega), cond_false];have hl : ∀ v, i < (b.set i v).length := fun v => by simp [hb]; omega
 simp only [zY (show i < b.length by omega), zY (hl _), List.set_set, h0];unfold xE;rw [qy hi];simp only [Nat.add_zero]
theorem Z8 (hw : ED was) (hb : b.length = 16) : aj.TS .lim (0, tp, tq, t1, t2, key, dn, mu, sm, sb, bk, bW 256, b, oP, was, K, rn, tw, ()) = some (tp, tq, t1, t2, xE was, K, rn, tw, key, dn, mu, sm, sb, bk, bW 256, ()) := by
 have e := iY (f := aj.TS .lim) (fun k b => ((k : Int), tp, tq, t1, t2, key, dn, mu, sm, sb, bk, bW 256, b, oP, was, K, rn, tw, ())) (fun k v => rd 0 (xE was) (k : Int)) b hb (fun k hk m' hm hj => by
  rw [aj.q11];have hm := fun h0 => YE (tp := tp) (tq := tq) (t1 := t1) (t2 := t2) (key := key) (dn := dn) (mu := mu) (sm := sm) (sb := sb) (bk := bk) (K := K) (rn := rn) (tw := tw) (t := (k : Int))  hw (b := m'.set k 0) hk (by simp [hm]) h0
  simp only [aj.b11, au (show (k : Int) < 16 by omega), aG (show (0 : Int) <= k by omega) (show (k : Int) < 16 by omega), cond_true, Int.toNat_natCast];rw [hm (zY (by omega))];simp only [Option.bind_some, nX k (by omega), List.set_set])
 refine (show _ = _ from e).trans ?_;rw [aj.q11];simp only [aj.b11, aA (show ¬ ((16 : Nat) : Int) < 16 by decide), cond_false];have : (tab 16 fun i => rd 0 (xE was) (i : Int)) = xE was := (Jd jB).symm;rw [this]
theorem Ub (hb : b.length = 16) : aj.l12 .lim (0, tp, tq, t1, t2, b, K, rn, tw, key, dn, mu, sm, sb, bk, yb, ()) = some (tp, tq, t1, t2, rn, yZ b K, tw, key, dn, mu, sm, sb, bk, yb, ()) := by
 have e := iY (f := aj.l12 .lim) (fun k b => ((k : Int), tp, tq, t1, t2, b, K, rn, tw, key, dn, mu, sm, sb, bk, yb, ())) (fun k v => dN .u8 v (rd 0 K (k : Int))) b hb (fun k hk m' hm hj => by
  rw [aj.q12];simp only [aj.b12, au (show (k : Int) < 16 by omega), aG (show (0 : Int) <= k by omega) (show (k : Int) < 16 by omega), cond_true, nX k (by omega), hj k (Nat.le_refl _), Int.toNat_natCast])
 refine (show _ = _ from e).trans ?_;rw [aj.q12];simp only [aj.b12, aA (show ¬ ((16 : Nat) : Int) < 16 by decide), cond_false];rfl
theorem V_ (b : List Int) : (tab 16 fun i => rd 0 (tab 16 fun i => BP (rd 0 b (i : Int))) (((i + 4 * (i % 4)) % 16 : Nat) : Int)) = u_ b := jr fun k hk => by rw [qy (by omega)]
theorem NC (hb : ED b) : ED (u_ b) := ⟨jB, G7 fun k hk => Pn (hb.at (by omega))⟩
theorem Z9 {r : Nat} (hW : Words W) (hl : W.length = 4 * (r + 1)) (hr : r <= 100) (hr0 : 0 < r) (hb : b.length = 16) :
  aj.Nv .lim (1, ((r : Nat) : Int), ((r : Nat) : Int), 0, fD W, vg W b 0, tw, key, dn, mu, sm, lJ 256, bk, bW 256, ()) = some (vg W b r, tw, key, dn, mu, sm, lJ 256, bk, bW 256, fD W, ()) := by
 have hn : (fD W).length = r + 1 := by unfold fD; simp; omega
 have e := dS (f := aj.Nv .lim) (fun k => (1, (r : Int), (r : Int), (k : Int), fD W, vg W b k, tw, key, dn, mu, sm, lJ 256, bk, bW 256, ())) (n := r) (fun k hk => by
  rw [aj.q13];have hB := Jg W b k;have hK : rd G6 (fD W) (1 + (k : Int)) = rZ W (k + 1) := by
   rw [show (1 + (k : Int)) = ((k + 1 : Nat) : Int) by omega, jo (by omega)];unfold fD; simp
  have w1 : IntKind.i64.wrap (((fD W).length : Int) - 2) = (r : Int) - 1 := by rw [wrap64 (by omega) (by omega)]; omega
  have hlast : decide ((k : Int) = (r : Int) - 1) = decide (k + 2 = W.length / 4) := by
   by_cases h : k + 1 = r
   ·rw [au (by omega), au (by omega)]
   ·rw [aA (by omega), aA (by omega)]
  simp only [aj.b13, au (show (k : Int) < (r : Int) by omega), aG (show (0 : Int) <= k by omega) (show (k : Int) < (r : Int) by omega), aO (show ((fD W).length : Int) < 9223372036854775808 by omega), cond_true, hK, w1, hlast, Ua hB, Option.bind_some];rw [YD jB];simp only [Option.bind_some, V_];have hs := NC hB;have hc : ((((List.replicate 4 (0 : Int)).set 0 2).set 1 3).set 2 1).set 3 1 = oP := rfl;show _ = aj.Nv .lim (1, (r : Int), (r : Int), ((k + 1 : Nat) : Int), fD W, TW (decide (k + 2 = W.length / 4)) (vg W b k) (rZ W (k + 1)), tw, key, dn, mu, sm, lJ 256, bk, bW 256, ());unfold TW;cases decide (k + 2 = W.length / 4) with
  | true =>
   simp only [Bool.not_true, cond_false, cond_true];rw [Ub hs.1];simp only [Option.bind_some, nX k (by omega)]
  | false =>
   simp only [Bool.not_false, cond_false, cond_true, hc];rw [Z8 hs hs.1];simp only [Option.bind_some];have hml : (xE (u_ (vg W b k))).length = 16 := jB;rw [Ub hml];simp only [Option.bind_some, nX k (by omega)])
 refine (show _ = _ from e).trans ?_;rw [aj.q13];simp only [aj.b13, aA (show ¬ (r : Int) < (r : Int) by omega), cond_false]
end
end Go.AM
end
section
namespace Go.AM
section
variable {ok : Bool} {n dn mu sm four x i t t1 t2 tp tq : Int} {key b tw ta out K was kb T sb bk : List Int} {yb W rn : List (List Int)} {last : Bool}
theorem YF {r : Nat} (hW : Words W) (hl : W.length = 4 * (r + 1)) (hr : r <= 100) (hr0 : 0 < r) (hb : b.length = 16) {β : Type} {Q : _ -> Option β} :
  (bif inB 0 ((fD W).length : Int) then
   ((aj.l7 .lim (0, b, rd G6 (fD W) 0, tw, key, dn, mu, sm, lJ 256, bk, bW 256, fD W, ())).bind fun (b, tw, key, dn, mu, sm, sb, bk, yb, rn, ()) =>
    bif dR 1 (rn.length : Int) (rn.length : Int) then bif ay ((rn.length : Int) - 1) then (aj.Nv .lim (1, ((rn.length : Int) - 1), ((rn.length : Int) - 1), 0, rn, b, tw, key, dn, mu, sm, sb, bk, yb, ())).bind Q else none else none) else none) = Q (vg W b r, tw, key, dn, mu, sm, lJ 256, bk, bW 256, fD W, ()) := by
 have hn : (fD W).length = r + 1 := by unfold fD; simp; omega
 have h0 : rd G6 (fD W) 0 = rZ W 0 := by
  have := jo (d := G6) (show 0 < (fD W).length by omega);rw [show ((0 : Nat) : Int) = 0 from rfl] at this;rw [this]; unfold fD; simp
 rw [cond_pos (aG (by omega) (by omega)), h0, V9 hb];simp only [Option.bind_some];rw [cond_pos (aT (by omega) (by omega) (by omega)), cond_pos (aO (by omega)), show ((fD W).length : Int) - 1 = (r : Int) by omega];have := Z9 (tw := tw) (key := key) (dn := dn) (mu := mu) (sm := sm) (bk := bk)  hW hl hr hr0 hb;rw [show vg W b 0 = yZ b (rZ W 0) from rfl] at this;rw [this];rfl
theorem Wh (hk : key.length = 16 \/ key.length = 32) (hkb : ∀ x ∈ key, B8 x) (hb : b.length = 16) :
  aj.KO .lim (b, key, 0, 0, sm, dw, dw, List.replicate 16 dw, ()) = some (encS key b, ()) := by
 have h0 : aj.KO .lim (b, key, 0, 0, sm, dw, dw, List.replicate 16 dw, ()) = aj.b14 .lim (aj.KO .lim) (b, key, 0, 0, sm, dw, dw, List.replicate 16 dw, ()) := aj.q14 _;rw [h0];have hr := V8 (sm := sm) (key := key) (b := b) (tw := G6)  hk hkb;have hW := yY key hkb;have hl : (lH key).length = 4 * ((key.length / 4 + 6) + 1) := by rw [uZ]; omega
 have hq : (lH key).length / 4 - 1 = key.length / 4 + 6 := by omega
 unfold aj.b14;simp only [hr, Option.bind_some];refine (YF (Q := fun (b, tw, key, dn, mu, sm, sb, bk, yb, rn, ()) => some (b, ())) hW hl (by omega) (by omega) hb).trans ?_;unfold encS;rw [hq]
end
end Go.AM
end
section
namespace Go.AM
section
variable {ok : Bool} {n dn mu sm four nk x i t t1 t2 tp tq : Int} {key b tw ta out K was kb T sb bk : List Int} {yb W rn : List (List Int)} {last : Bool}
theorem Z_ (i : Nat) (hi : i < 256) : ah.l0 .lim ((i : Int), t, 7, 0, ok, n, key, dn, mu, sm, sb, bk, yb, kL, b, tw, ta, out, rn, ()) = some (t, ok, n, key, dn, mu, sm, sb, bk, Bj i yb 7, b, tw, ta, out, rn, ()) := by
 have e := dS (f := ah.l0 .lim) (fun k => ((i : Int), t, 7, (k : Int), ok, n, key, dn, mu, sm, sb, bk, Bj i yb k, kL, b, tw, ta, out, rn, ())) (n := 7) (fun k hk => by
  rw [ah.q0];obtain ⟨h1, h2⟩ := XF k hk;have hB : B8 (rd 0 kL (k : Int)) := ⟨h1, by omega⟩;have QN : B8 (i : Int) := ⟨by omega, by omega⟩;simp only [ah.b0, au (show (k : Int) < 7 by omega), aG (show (0 : Int) <= k by omega) (show (k : Int) < (kL.length : Int) from show (k : Int) < 7 by omega), nV QN, nZ QN hB, Option.bind_some, aG h1 (show rd 0 kL (k : Int) < 16 from h2), aG (show (0 : Int) <= i by omega) (show (i : Int) < 256 by omega), cond_true, nX k (by omega), Int.toNat_natCast];rfl)
 refine e.trans ?_;rw [ah.q0];simp only [ah.b0, aA (show ¬ ((7 : Nat) : Int) < 7 by decide), cond_false]
theorem Uc : ah.l1 .lim (0, ok, n, key, dn, mu, sm, dw, dw, List.replicate 16 dw, b, tw, ta, out, rn, ()) = some (ok, n, key, dn, mu, sm, lJ 256, Aa 256, bW 256, b, tw, ta, out, rn, ()) := by
 have e := dS (f := ah.l1 .lim) (fun k => ((k : Int), ok, n, key, dn, mu, sm, lJ k, Aa k, bW k, b, tw, ta, out, rn, ())) (n := 256) (fun k hk => by
  rw [ah.q1];have QN : B8 (k : Int) := ⟨by omega, by omega⟩;have hs := Pn QN;have hm := fun sb bk => Z_ (ok := ok) (key := key) (dn := dn) (mu := mu) (sm := sm) (sb := sb) (bk := bk) (yb := bW k) (b := b) (tw := tw) (t := (k : Int)) (n := n) (ta := ta) (out := out) (rn := rn) k hk
  simp only [ah.b1, au (show (k : Int) < 256 by omega), nV QN, Pm QN, Option.bind_some, aG (show (0 : Int) <= k by omega) (show (k : Int) < 256 by omega), aG hs.1 hs.2, cond_true, show ((([1, 2, 3, 9, 11, 13, 14] : List Int).length : Nat) : Int) = 7 from rfl, aO (show (7 : Int) < 9223372036854775808 by omega), hm, nX k (by omega), Po];rw [show (lJ k).set ((k : Int)).toNat (BP k) = lJ (k + 1) from Ey rfl];rfl)
 rw [show lJ 0 = dw from zX, EC, show Aa 0 = dw from rfl, show ((0 : Nat) : Int) = 0 from rfl] at e;refine e.trans ?_;rw [ah.q1];simp only [ah.b1, aA (show ¬ ((256 : Nat) : Int) < 256 by decide), cond_false]
theorem Wi {q : Nat} (hk : kb.length = 4 * q) (hq : q <= 100) : ah.l2 .lim (0, nk, ok, n, 4, key, dn, mu, sm, sb, bk, yb, b, tw, ta, out, kb, [], rn, ()) = some (nk, ok, n, key, dn, mu, sm, sb, bk, yb, b, tw, ta, out, (List.range q).map (word kb), rn, ()) := by
 have e := dS (f := ah.l2 .lim) (fun k => (((4 * k : Nat) : Int), nk, ok, n, 4, key, dn, mu, sm, sb, bk, yb, b, tw, ta, out, kb, (List.range k).map (word kb), rn, ())) (n := q) (fun k hkq => by
  rw [ah.q2];have w1 : IntKind.i64.wrap (((4 * k : Nat) : Int) + 4) = ((4 * k + 4 : Nat) : Int) := by rw [wrap64 (by omega) (by omega)]; omega
  have w2 : mn 4 ((kb.length : Int) - ((4 * k : Nat) : Int)) = 4 := by rw [fG]; omega
  have w3 : (cut kb ((4 * k : Nat) : Int) ((4 * k + 4 : Nat) : Int)).length = 4 := by rw [sW, List.length_take, List.length_drop]; omega
  have w4 : (Nat.ble 1 4 && Nat.ble 4 (cut kb ((4 * k : Nat) : Int) ((4 * k + 4 : Nat) : Int)).length) = true := by rw [w3]; rfl
  simp only [ah.b2, aO (show (kb.length : Int) < 9223372036854775808 by omega), au (show ((4 * k : Nat) : Int) < (kb.length : Int) by omega), aT (show (0 : Int) <= ((4 * k : Nat) : Int) by omega) (show ((4 * k : Nat) : Int) <= (kb.length : Int) by omega) (Int.le_refl _), aO (show (kb.length : Int) - ((4 * k : Nat) : Int) < 9223372036854775808 by omega), w2, w1, aT (show (0 : Int) <= ((4 * k : Nat) : Int) by omega) (show ((4 * k : Nat) : Int) <= ((4 * k + 4 : Nat) : Int) by omega) (Int.le_refl _), au (show ((4 * k + 4 : Nat) : Int) <= (kb.length : Int) by omega), Bool.and_self, w4, cond_true];rw [cond_pos (by simp; omega), KU (by omega)];simp only [List.range_succ, List.map_append, List.map_cons, List.map_nil];rfl)
 refine e.trans ?_;rw [ah.q2];simp only [ah.b2, aO (show (kb.length : Int) < 9223372036854775808 by omega), aA (show ¬ ((4 * q : Nat) : Int) < (kb.length : Int) by omega), cond_true, cond_false]
theorem aac (hW : Words W) {i nk : Nat} (h1 : nk <= i) (h2 : i <= W.length) (h3 : 0 < nk) (h4 : i < 1000) (hT : T.length = 4) : ah.l3 .lim ((nk : Int), x, (i : Int), 0, ok, n, T, key, dn, mu, sm, sb, bk, yb, b, tw, ta, out, W, rn, ()) = some ((nk : Int), x, (i : Int), ok, n, QM T (rd z4 W ((i - nk : Nat) : Int)), key, dn, mu, sm, sb, bk, yb, b, tw, ta, out, W, rn, ()) := by
 have w : IntKind.i64.wrap ((i : Int) - (nk : Int)) = ((i - nk : Nat) : Int) := by rw [wrap64 (by omega) (by omega)]; omega
 have e := iY (f := ah.l3 .lim) (fun k T => ((nk : Int), x, (i : Int), (k : Int), ok, n, T, key, dn, mu, sm, sb, bk, yb, b, tw, ta, out, W, rn, ())) (fun k v => dN .u8 v (rd 0 (rd z4 W ((i - nk : Nat) : Int)) (k : Int))) T hT (fun k hk m' hm hj => by
  rw [ah.q3];simp only [ah.b3, au (show (k : Int) < 4 by omega), aG (show (0 : Int) <= k by omega) (show (k : Int) < 4 by omega), w, aG (show (0 : Int) <= ((i - nk : Nat) : Int) by omega) (show ((i - nk : Nat) : Int) < (W.length : Int) by omega), cond_true, nX k (by omega), hj k (Nat.le_refl _), Int.toNat_natCast])
 refine e.trans ?_;rw [ah.q3];simp only [ah.b3, aA (show ¬ ((4 : Nat) : Int) < 4 by decide), cond_false];rfl
end
end Go.AM
end
section
namespace Go.AM
section
variable {ok : Bool} {n dn mu sm four x i t t1 t2 tp tq : Int} {key b tw ta out K was kb T sb bk : List Int} {yb W rn : List (List Int)} {last : Bool}
theorem YG (a b c d : Int) : ((((List.replicate 4 (0 : Int)).set 0 a).set 1 b).set 2 c).set 3 d = [a, b, c, d] := rfl
theorem Wj {nk : Nat} (hn : nk = 4 \/ nk = 8) (hk : 4 * nk <= kb.length) (hb : ∀ x ∈ kb, B8 x) :
  ah.l4 .lim ((nk : Int), 1, (nk : Int), ok, n, key, dn, mu, sm, lJ 256, bk, yb, b, tw, ta, out, (List.range nk).map (word kb), rn, ()) = some (ok, n, key, dn, mu, sm, lJ 256, bk, yb, b, tw, ta, out, (sched nk kb (3 * nk + 28)).1, rn, ()) := by
 have e := dS (f := ah.l4 .lim) (fun k => ((nk : Int), (sched nk kb k).2, ((nk + k : Nat) : Int), ok, n, key, dn, mu, sm, lJ 256, bk, yb, b, tw, ta, out, (sched nk kb k).1, rn, ())) (n := 3 * nk + 28) (fun k hkq => by
  rw [ah.q4];obtain ⟨hW, hx⟩ := yX nk kb hk hb k;have hl := vS nk kb k;have hs : sched nk kb (k + 1) = stepW nk (sched nk kb k) := rfl;rw [hs];unfold stepW;generalize hq : sched nk kb k = q at hW hx hl;obtain ⟨W, x⟩ := q;simp only at hW hx hl ⊢
  have hi0 : nk + k < 1000 := by omega
  generalize hi : nk + k = i at hl hi0;have hw := hW.at (show i - 1 < W.length by omega);have hb0 := hW.byte (show i - 1 < W.length by omega) (j := 0) (by omega) (by omega);have hb1 := hW.byte (show i - 1 < W.length by omega) (j := 1) (by omega) (by omega);have hb2 := hW.byte (show i - 1 < W.length by omega) (j := 2) (by omega) (by omega);have hb3 := hW.byte (show i - 1 < W.length by omega) (j := 3) (by omega) (by omega);have w1 : IntKind.i64.wrap (4 * IntKind.i64.wrap ((nk : Int) + 7)) = ((4 * nk + 28 : Nat) : Int) := by rw [wrap64 (n := (nk : Int) + 7) (by omega) (by omega), wrap64 (by omega) (by omega)]; omega
  have w2 : IntKind.i64.wrap ((i : Int) - 1) = ((i - 1 : Nat) : Int) := by rw [wrap64 (by omega) (by omega)]; omega
  have m1 : ((i : Int)).tmod (nk : Int) = ((i % nk : Nat) : Int) := by rw [Int.tmod_eq_emod_of_nonneg (Int.natCast_nonneg i)]; simp
  have m2 : ((i : Int)).tmod 8 = ((i % 8 : Nat) : Int) := by rw [Int.tmod_eq_emod_of_nonneg (Int.natCast_nonneg i)]; simp
  have Nz := fun x T hT => aac (ok := ok) (key := key) (dn := dn) (mu := mu) (sm := sm) (sb := lJ 256) (bk := bk) (yb := yb) (b := b) (tw := tw) (x := x) (T := T) (n := n) (ta := ta) (out := out) (rn := rn) hW (i := i) (nk := nk) (by omega) (by omega) (by omega) (by omega) hT
  have cap : ∀ T : List Int, decide (W.length + ([T] : List (List Int)).length < 17592186044416) = true := fun T => au (by simp; omega)
  simp only [ah.b4, w1, au (show (i : Int) < ((4 * nk + 28 : Nat) : Int) by omega), w2, aG (show (0 : Int) <= ((i - 1 : Nat) : Int) by omega) (show ((i - 1 : Nat) : Int) < (W.length : Int) by omega), aA (show ¬ (nk : Int) = 0 by omega), m1, m2, cond_true, Bool.not_false, aG hb0.1 hb0.2, aG hb1.1 hb1.2, aG hb2.1 hb2.2, aG hb3.1 hb3.2, qA hb0, qA hb1, qA hb2, qA hb3, YG, Bool.or_true];rw [hl];unfold TV;by_cases c1 : i % nk = 0
  ·rw [au (show ((i % nk : Nat) : Int) = 0 by omega), if_pos c1, if_pos c1];simp only [cond_true, nZ hx (show B8 2 from ⟨by decide, by decide⟩), Option.bind_some];rw [Nz _ _ rfl];simp only [Option.bind_some];rw [cond_pos (by simp; omega), nX i (by omega)];rw [show i + 1 = nk + (k + 1) by omega]
  ·rw [aA (show ¬ ((i % nk : Nat) : Int) = 0 by omega), if_neg c1, if_neg c1];simp only [cond_false];by_cases c2 : nk = 8 /\ i % 8 = 4
   ·rw [au (show (nk : Int) = 8 by omega), au (show ((i % 8 : Nat) : Int) = 4 by omega), if_pos c2];simp only [Bool.and_self, cond_true];rw [Nz _ _ rfl];simp only [Option.bind_some];rw [cond_pos (by simp; omega), nX i (by omega)];rw [show i + 1 = nk + (k + 1) by omega]
   ·have : (decide ((nk : Int) = 8) && decide (((i % 8 : Nat) : Int) = 4)) = false := by
     by_cases c3 : nk = 8
     ·rw [aA (show ¬ ((i % 8 : Nat) : Int) = 4 by omega), Bool.and_false]
     ·rw [aA (show ¬ (nk : Int) = 8 by omega), Bool.false_and]
    rw [this, if_neg c2];simp only [cond_false];rw [Nz _ _ hw.1];simp only [Option.bind_some];rw [cond_pos (by simp; omega), nX i (by omega), <- list4 hw.1];rw [show i + 1 = nk + (k + 1) by omega])
 refine (show _ = _ from e).trans ?_;rw [ah.q4];have w1 : IntKind.i64.wrap (4 * IntKind.i64.wrap ((nk : Int) + 7)) = ((4 * nk + 28 : Nat) : Int) := by rw [wrap64 (n := (nk : Int) + 7) (by omega) (by omega), wrap64 (by omega) (by omega)]; omega
 simp only [ah.b4, w1, aA (show ¬ ((nk + (3 * nk + 28) : Nat) : Int) < ((4 * nk + 28 : Nat) : Int) by omega), cond_false]
end
end Go.AM
end
section
namespace Go.AM
section
variable {ok : Bool} {n dn mu sm four x i t t1 t2 tp tq : Int} {key b tw ta out K was kb T sb bk : List Int} {yb W rn : List (List Int)} {last : Bool}
theorem Ud {q : Nat} (hW : Words W) (hl : W.length = 4 * q) (hq : q <= 100) : ah.l5 .lim (0, ok, n, 4, key, dn, mu, sm, sb, bk, yb, b, tw, ta, out, W, [], ()) = some (ok, n, key, dn, mu, sm, sb, bk, yb, b, tw, ta, out, fD W, ()) := by
 have e := dS (f := ah.l5 .lim) (fun k => (((4 * k : Nat) : Int), ok, n, 4, key, dn, mu, sm, sb, bk, yb, b, tw, ta, out, W, (List.range k).map (rZ W), ())) (n := q) (fun k hkq => by
  rw [ah.q5];have w1 : IntKind.i64.wrap (((4 * k : Nat) : Int) + 4) = ((4 * k + 4 : Nat) : Int) := by rw [wrap64 (by omega) (by omega)]; omega
  have w2 : mn 4 ((W.length : Int) - ((4 * k : Nat) : Int)) = 4 := by rw [fG]; omega
  have w3 : (cut W ((4 * k : Nat) : Int) ((4 * k + 4 : Nat) : Int)).length = 4 := by rw [sW, List.length_take, List.length_drop]; omega
  have at_ : ∀ j : Nat, j < 4 -> rd z4 (cut W ((4 * k : Nat) : Int) ((4 * k + 4 : Nat) : Int)) (j : Int) = rd z4 W ((4 * k + j : Nat) : Int) := fun j hj => by
   rw [sW];unfold rd;rw [Int.toNat_natCast, Int.toNat_natCast, List.getD_eq_getElem?_getD, List.getD_eq_getElem?_getD, List.getElem?_take_of_lt (by omega), List.getElem?_drop]
  have a0 : rd z4 (cut W ((4 * k : Nat) : Int) ((4 * k + 4 : Nat) : Int)) 0 = rd z4 W ((4 * k : Nat) : Int) := at_ 0 (by omega);have a1 : rd z4 (cut W ((4 * k : Nat) : Int) ((4 * k + 4 : Nat) : Int)) 1 = rd z4 W ((4 * k + 1 : Nat) : Int) := at_ 1 (by omega);have a2 : rd z4 (cut W ((4 * k : Nat) : Int) ((4 * k + 4 : Nat) : Int)) 2 = rd z4 W ((4 * k + 2 : Nat) : Int) := at_ 2 (by omega);have a3 : rd z4 (cut W ((4 * k : Nat) : Int) ((4 * k + 4 : Nat) : Int)) 3 = rd z4 W ((4 * k + 3 : Nat) : Int) := at_ 3 (by omega);have c4 : ∀ l : List Int, l.length = 4 -> cut l 0 4 = l := fun l hl => by
   have := sW l 0 4;rw [show ((0 : Nat) : Int) = 0 from rfl, show ((4 : Nat) : Int) = 4 from rfl] at this;rw [this, List.drop_zero, List.take_of_length_le (by omega)]
  have l0 := (hW.at (show 4 * k < W.length by omega)).1;have l1 := (hW.at (show 4 * k + 1 < W.length by omega)).1;have l2 := (hW.at (show 4 * k + 2 < W.length by omega)).1;have l3 := (hW.at (show 4 * k + 3 < W.length by omega)).1;have hfl : [rd z4 W ((4 * k : Nat) : Int), rd z4 W ((4 * k + 1 : Nat) : Int), rd z4 W ((4 * k + 2 : Nat) : Int), rd z4 W ((4 * k + 3 : Nat) : Int)].flatten = rZ W k := by simp [rZ]
  have hrl := KW hW (j := k) (by omega);have rE := G9 [rd z4 W ((4 * k : Nat) : Int), rd z4 W ((4 * k + 1 : Nat) : Int), rd z4 W ((4 * k + 2 : Nat) : Int), rd z4 W ((4 * k + 3 : Nat) : Int)] (by rw [hfl, hrl]; omega) (by simp);rw [hfl] at rE;simp only [ah.b5, aO (show (W.length : Int) < 9223372036854775808 by omega), au (show ((4 * k : Nat) : Int) < (W.length : Int) by omega), aT (show (0 : Int) <= ((4 * k : Nat) : Int) by omega) (show ((4 * k : Nat) : Int) <= (W.length : Int) by omega) (Int.le_refl _), aO (show (W.length : Int) - ((4 * k : Nat) : Int) < 9223372036854775808 by omega), w2, w1, aT (show (0 : Int) <= ((4 * k : Nat) : Int) by omega) (show ((4 * k : Nat) : Int) <= ((4 * k + 4 : Nat) : Int) by omega) (Int.le_refl _), au (show ((4 * k + 4 : Nat) : Int) <= (W.length : Int) by omega), Bool.and_self, w3, cond_true, aG (show (0 : Int) <= 0 by omega) (show (0 : Int) < ((4 : Nat) : Int) by decide), aG (show (0 : Int) <= 1 by omega) (show (1 : Int) < ((4 : Nat) : Int) by decide), aG (show (0 : Int) <= 2 by omega) (show (2 : Int) < ((4 : Nat) : Int) by decide), aG (show (0 : Int) <= 3 by omega) (show (3 : Int) < ((4 : Nat) : Int) by decide), a0, a1, a2, a3, c4 _ l0, c4 _ l1, c4 _ l2, c4 _ l3, rE, Option.bind_some, hrl, List.take_of_length_le (Nat.le_of_eq hrl)];rw [show (Nat.ble 1 16 && Nat.ble 16 16) = true from rfl, cond_true, cond_pos (by simp; omega)];simp only [List.range_succ, List.map_append, List.map_cons, List.map_nil];rfl)
 refine (show _ = _ from e).trans ?_;rw [ah.q5];simp only [ah.b5, aO (show (W.length : Int) < 9223372036854775808 by omega), aA (show ¬ ((4 * q : Nat) : Int) < (W.length : Int) by omega), cond_true, cond_false];unfold fD;rw [hl, Nat.mul_div_cancel_left _ (by omega)]
theorem Wn (hk : key.length = 16 \/ key.length = 32) (hb : ∀ x ∈ key, B8 x) : ah.l6 .lim (n, key, 0, 0, sm, dw, dw, List.replicate 16 dw, b, tw, ta, out, [], ()) = some (n, b, tw, key, 1, 0, sm, lJ 256, Aa 256, bW 256, ta, out, fD (lH key), ()) := by
 have h0 : ah.l6 .lim (n, key, 0, 0, sm, dw, dw, List.replicate 16 dw, b, tw, ta, out, [], ()) = ah.b6 .lim (ah.l6 .lim) (n, key, 0, 0, sm, dw, dw, List.replicate 16 dw, b, tw, ta, out, [], ()) := ah.q6 _;rw [h0];have hd : (key.length : Int).tdiv 4 = ((key.length / 4 : Nat) : Int) := by rw [Int.tdiv_eq_ediv_of_nonneg (Int.natCast_nonneg _)]; simp
 have w1 : IntKind.i64.wrap ((key.length : Int).tdiv 4) = ((key.length / 4 : Nat) : Int) := by rw [hd, wrap64 (by omega) (by omega)]
 have t := Uc (ok := true) (key := key) (dn := 0) (mu := 1) (sm := sm) (b := b) (tw := tw) (n := n) (ta := ta) (out := out) (rn := []);have s := Wi (kb := key) (q := key.length / 4) (nk := ((key.length / 4 : Nat) : Int)) (ok := true) (key := key) (dn := 0) (mu := 1) (sm := sm) (sb := lJ 256) (bk := Aa 256) (yb := bW 256) (b := b) (tw := tw) (n := n) (ta := ta) (out := out) (rn := []) (by omega) (by omega);have w := Wj (kb := key) (nk := key.length / 4) (ok := true) (key := key) (dn := 0) (mu := 1) (sm := sm) (bk := Aa 256) (yb := bW 256) (b := b) (tw := tw) (n := n) (ta := ta) (out := out) (rn := []) (by omega) (by omega) hb;have r := Ud (W := lH key) (q := key.length / 4 + 7) (ok := true) (key := key) (dn := 0) (mu := 1) (sm := sm) (sb := lJ 256) (bk := Aa 256) (yb := bW 256) (b := b) (tw := tw) (n := n) (ta := ta) (out := out) (yY key hb) (by rw [uZ]; omega) (by omega);have hs : gG.run .lim (true, ()) = some 1 := rfl;have hw : (sched (key.length / 4) key (3 * (key.length / 4) + 28)).1 = lH key := rfl;simp only [ah.b6, decide_true, Bool.not_true, Bool.not_false, cond_true, t, Option.bind_some, aO (show (key.length : Int) < 9223372036854775808 by omega), w1];rw [s];simp only [Option.bind_some];rw [w];simp only [Option.bind_some];rw [hw, r];simp only [Option.bind_some, hs, show IntKind.i32.wrap (1 + -1) = 0 from by decide, decide_true, Bool.not_true, cond_false]
end
end Go.AM
end
section
namespace Go.AM
section
variable {ok : Bool} {n dn mu sm four x i t t1 t2 tp tq : Int} {key b tw ta out K was kb T sb bk : List Int} {yb W rn : List (List Int)} {last : Bool}
theorem Wp (hb : b.length = 16) : ah.l7 .lim (0, n, b, K, tw, key, dn, mu, sm, sb, bk, yb, ta, out, rn, ()) = some (n, yZ b K, tw, key, dn, mu, sm, sb, bk, yb, ta, out, rn, ()) := by
 have e := iY (f := ah.l7 .lim) (fun k b => ((k : Int), n, b, K, tw, key, dn, mu, sm, sb, bk, yb, ta, out, rn, ())) (fun k v => dN .u8 v (rd 0 K (k : Int))) b hb (fun k hk m' hm hj => by
  rw [ah.q7];simp only [ah.b7, au (show (k : Int) < 16 by omega), aG (show (0 : Int) <= k by omega) (show (k : Int) < 16 by omega), cond_true, nX k (by omega), hj k (Nat.le_refl _), Int.toNat_natCast])
 refine (show _ = _ from e).trans ?_;rw [ah.q7];simp only [ah.b7, aA (show ¬ ((16 : Nat) : Int) < 16 by decide), cond_false];rfl
theorem Ue (hb : ED b) : ah.l8 .lim (0, last, tp, tq, t1, t2, n, b, key, dn, mu, sm, lJ 256, bk, yb, K, rn, tw, ta, out, ()) = some (last, tp, tq, t1, t2, n, tab 16 fun i => BP (rd 0 b (i : Int)), K, rn, tw, key, dn, mu, sm, lJ 256, bk, yb, ta, out, ()) := by
 have e := iY (f := ah.l8 .lim) (fun k b => ((k : Int), last, tp, tq, t1, t2, n, b, key, dn, mu, sm, lJ 256, bk, yb, K, rn, tw, ta, out, ())) (fun k v => BP v) b hb.1 (fun k hk m' hm hj => by
  rw [ah.q8];have h := hb.at hk;simp only [ah.b8, au (show (k : Int) < 16 by omega), aG (show (0 : Int) <= k by omega) (show (k : Int) < 16 by omega), cond_true, nX k (by omega), hj k (Nat.le_refl _), aG h.1 h.2, qA h, Int.toNat_natCast])
 refine (show _ = _ from e).trans ?_;rw [ah.q8];simp only [ah.b8, aA (show ¬ ((16 : Nat) : Int) < 16 by decide), cond_false]
theorem YH (hb : b.length = 16) : ah.l9 .lim (4, 0, last, tp, tq, t1, t2, n, b, was, K, rn, tw, key, dn, mu, sm, sb, bk, yb, ta, out, ()) = some (last, tp, tq, t1, t2, n, tab 16 fun i => rd 0 was (((i + 4 * (i % 4)) % 16 : Nat) : Int), K, rn, tw, key, dn, mu, sm, sb, bk, yb, ta, out, ()) := by
 have e := iY (f := ah.l9 .lim) (fun k b => (4, (k : Int), last, tp, tq, t1, t2, n, b, was, K, rn, tw, key, dn, mu, sm, sb, bk, yb, ta, out, ())) (fun k v => rd 0 was (((k + 4 * (k % 4)) % 16 : Nat) : Int)) b hb (fun k hk m' hm hj => by
  rw [ah.q9];have m1 : ((k : Int)).tmod 4 = ((k % 4 : Nat) : Int) := by rw [Int.tmod_eq_emod_of_nonneg (Int.natCast_nonneg k)]; simp
  have w1 : IntKind.i64.wrap (4 * (k : Int).tmod 4) = ((4 * (k % 4) : Nat) : Int) := by rw [m1, wrap64 (by omega) (by omega)]; omega
  have w2 : IntKind.i64.wrap ((k : Int) + ((4 * (k % 4) : Nat) : Int)) = ((k + 4 * (k % 4) : Nat) : Int) := by rw [wrap64 (by omega) (by omega)]; omega
  have w3 : IntKind.i64.wrap (((k + 4 * (k % 4) : Nat) : Int) + 64) = ((k + 4 * (k % 4) + 64 : Nat) : Int) := by rw [wrap64 (by omega) (by omega)]; omega
  have m2 : (((k + 4 * (k % 4) + 64 : Nat) : Int)).tmod 16 = (((k + 4 * (k % 4)) % 16 : Nat) : Int) := by rw [Int.tmod_eq_emod_of_nonneg (Int.natCast_nonneg _)]; omega
  simp only [ah.b9, au (show (k : Int) < 16 by omega), aG (show (0 : Int) <= k by omega) (show (k : Int) < 16 by omega), cond_true, nX k (by omega), w1, w2, w3, m2, aG (show (0 : Int) <= (((k + 4 * (k % 4)) % 16 : Nat) : Int) by omega) (show (((k + 4 * (k % 4)) % 16 : Nat) : Int) < 16 by omega), Int.toNat_natCast])
 refine (show _ = _ from e).trans ?_;rw [ah.q9];simp only [ah.b9, aA (show ¬ ((16 : Nat) : Int) < 16 by decide), cond_false]
abbrev oQ : List Int := [2, 3, 1, 1]
theorem YI (hw : ED was) {i : Nat} (hi : i < 16) (hb : b.length = 16) (h0 : rd 0 b (i : Int) = 0) : ah.l10 .lim ((i : Int), t, oQ, 0, tp, tq, t1, t2, n, key, dn, mu, sm, sb, bk, bW 256, b, oQ, was, K, rn, tw, ta, out, ()) = some (t, tp, tq, t1, t2, n, key, dn, mu, sm, sb, bk, bW 256, b.set i (rd 0 (xE was) (i : Int)), oQ, was, K, rn, tw, ta, out, ()) := by
 have h4 : ∀ j : Nat, j < 4 -> IntKind.i64.wrap (IntKind.i64.wrap (IntKind.i64.wrap ((i : Int).tdiv 4) * 4) + (IntKind.i64.wrap ((i : Int) + (j : Int))).tmod 4) = ((i / 4 * 4 + (i + j) % 4 : Nat) : Int) := by
  intro j hj;have d1 : ((i : Int)).tdiv 4 = ((i / 4 : Nat) : Int) := by rw [Int.tdiv_eq_ediv_of_nonneg (Int.natCast_nonneg i)]; simp
  have d2 : IntKind.i64.wrap ((i : Int) + (j : Int)) = ((i + j : Nat) : Int) := by rw [wrap64 (by omega) (by omega)]; omega
  have d3 : (((i + j : Nat) : Int)).tmod 4 = (((i + j) % 4 : Nat) : Int) := by rw [Int.tmod_eq_emod_of_nonneg (Int.natCast_nonneg _)]; simp
  rw [d1, d2, d3, wrap64 (n := ((i / 4 : Nat) : Int)) (by omega) (by omega), wrap64 (n := ((i / 4 : Nat) : Int) * 4) (by omega) (by omega), wrap64 (by omega) (by omega)]; omega
 have hB : ∀ j : Nat, j < 4 -> B8 (rd 0 was ((i / 4 * 4 + (i + j) % 4 : Nat) : Int)) := fun j hj => hw.at (by omega)
 have g0 := h4 0 (by omega); have g1 := h4 1 (by omega); have g2 := h4 2 (by omega); have g3 := h4 3 (by omega);have b0 := hB 0 (by omega); have b1 := hB 1 (by omega); have b2 := hB 2 (by omega); have b3 := hB 3 (by omega);rw [show ((0 : Nat) : Int) = 0 from rfl] at g0;rw [show ((1 : Nat) : Int) = 1 from rfl] at g1;rw [show ((2 : Nat) : Int) = 2 from rfl] at g2;rw [show ((3 : Nat) : Int) = 3 from rfl] at g3;have r0 := (ql b0).2.1; have r1 := (ql b1).2.2; have r2 := (ql b2).1; have r3 := (ql b3).1;have step : ∀ (c : Int) (j j' : Int) (q : Nat) (v : Int) (bb : List Int), bb.length = 16 -> 0 <= j -> j < 4 -> rd 0 oQ j = c -> 0 <= c -> c < 16 -> IntKind.i64.wrap (j + 1) = j' -> IntKind.i64.wrap (IntKind.i64.wrap (IntKind.i64.wrap ((i : Int).tdiv 4) * 4) + (IntKind.i64.wrap ((i : Int) + j)).tmod 4) = (q : Int) -> q < 16 -> rd 0 (rd dw (bW 256) c) (rd 0 was (q : Int)) = v -> B8 (rd 0 was (q : Int)) ->
   ah.l10 .lim ((i : Int), t, oQ, j, tp, tq, t1, t2, n, key, dn, mu, sm, sb, bk, bW 256, bb, oQ, was, K, rn, tw, ta, out, ()) = ah.l10 .lim ((i : Int), t, oQ, j', tp, tq, t1, t2, n, key, dn, mu, sm, sb, bk, bW 256, bb.set i (dN .u8 (rd 0 bb (i : Int)) v), oQ, was, K, rn, tw, ta, out, ()) := by
  intro c j j' q v bb hbb h1 h2 h3 h4 h5 h6 h7 h8 h9 h10;rw [ah.q10];simp only [ah.b10, au h2, aG h1 h2, h3, aG h4 h5, h7, aG (show (0 : Int) <= i by omega) (show (i : Int) < 16 by omega), aG (show (0 : Int) <= (q : Int) by omega) (show (q : Int) < 16 by omega), aG h10.1 h10.2, h9, h6, cond_true, Int.toNat_natCast]
 rw [step 2 0 1 _ _ b hb (by omega) (by omega) rfl (by omega) (by omega) rfl g0 (by omega) r0 b0];rw [step 3 1 2 _ _ _ (by simp [hb]) (by omega) (by omega) rfl (by omega) (by omega) rfl g1 (by omega) r1 b1];rw [step 1 2 3 _ _ _ (by simp [hb]) (by omega) (by omega) rfl (by omega) (by omega) rfl g2 (by omega) r2 b2];rw [step 1 3 4 _ _ _ (by simp [hb]) (by omega) (by omega) rfl (by omega) (by omega) rfl g3 (by omega) r3 b3];rw [ah.q10];simp only [ah.b10, aA (show ¬ (4 : Int) < 4 by omega), cond_false];have hl : ∀ v, i < (b.set i v).length := fun v => by simp [hb]; omega
 simp only [zY (show i < b.length by omega), zY (hl _), List.set_set, h0];unfold xE;rw [qy hi];simp only [Nat.add_zero]
theorem aad (hw : ED was) (hb : b.length = 16) : ah.TS .lim (0, tp, tq, t1, t2, n, key, dn, mu, sm, sb, bk, bW 256, b, oQ, was, K, rn, tw, ta, out, ()) = some (tp, tq, t1, t2, n, xE was, K, rn, tw, key, dn, mu, sm, sb, bk, bW 256, ta, out, ()) := by
 have e := iY (f := ah.TS .lim) (fun k b => ((k : Int), tp, tq, t1, t2, n, key, dn, mu, sm, sb, bk, bW 256, b, oQ, was, K, rn, tw, ta, out, ())) (fun k v => rd 0 (xE was) (k : Int)) b hb (fun k hk m' hm hj => by
  rw [ah.q11];have hm := fun h0 => YI (tp := tp) (tq := tq) (t1 := t1) (t2 := t2) (key := key) (dn := dn) (mu := mu) (sm := sm) (sb := sb) (bk := bk) (K := K) (rn := rn) (tw := tw) (t := (k : Int)) (n := n) (ta := ta) (out := out) hw (b := m'.set k 0) hk (by simp [hm]) h0
  simp only [ah.b11, au (show (k : Int) < 16 by omega), aG (show (0 : Int) <= k by omega) (show (k : Int) < 16 by omega), cond_true, Int.toNat_natCast];rw [hm (zY (by omega))];simp only [Option.bind_some, nX k (by omega), List.set_set])
 refine (show _ = _ from e).trans ?_;rw [ah.q11];simp only [ah.b11, aA (show ¬ ((16 : Nat) : Int) < 16 by decide), cond_false];have : (tab 16 fun i => rd 0 (xE was) (i : Int)) = xE was := (Jd jB).symm;rw [this]
theorem Uf (hb : b.length = 16) : ah.l12 .lim (0, tp, tq, t1, t2, n, b, K, rn, tw, key, dn, mu, sm, sb, bk, yb, ta, out, ()) = some (tp, tq, t1, t2, n, rn, yZ b K, tw, key, dn, mu, sm, sb, bk, yb, ta, out, ()) := by
 have e := iY (f := ah.l12 .lim) (fun k b => ((k : Int), tp, tq, t1, t2, n, b, K, rn, tw, key, dn, mu, sm, sb, bk, yb, ta, out, ())) (fun k v => dN .u8 v (rd 0 K (k : Int))) b hb (fun k hk m' hm hj => by
  rw [ah.q12];simp only [ah.b12, au (show (k : Int) < 16 by omega), aG (show (0 : Int) <= k by omega) (show (k : Int) < 16 by omega), cond_true, nX k (by omega), hj k (Nat.le_refl _), Int.toNat_natCast])
 refine (show _ = _ from e).trans ?_;rw [ah.q12];simp only [ah.b12, aA (show ¬ ((16 : Nat) : Int) < 16 by decide), cond_false];rfl
theorem Wq (b : List Int) : (tab 16 fun i => rd 0 (tab 16 fun i => BP (rd 0 b (i : Int))) (((i + 4 * (i % 4)) % 16 : Nat) : Int)) = u_ b := jr fun k hk => by rw [qy (by omega)]
theorem ND (hb : ED b) : ED (u_ b) := ⟨jB, G7 fun k hk => Pn (hb.at (by omega))⟩
theorem aae {r : Nat} (hW : Words W) (hl : W.length = 4 * (r + 1)) (hr : r <= 100) (hr0 : 0 < r) (hb : b.length = 16) :
  ah.Nv .lim (1, ((r : Nat) : Int), ((r : Nat) : Int), 0, n, fD W, vg W b 0, tw, key, dn, mu, sm, lJ 256, bk, bW 256, ta, out, ()) = some (n, vg W b r, tw, key, dn, mu, sm, lJ 256, bk, bW 256, ta, out, fD W, ()) := by
 have hn : (fD W).length = r + 1 := by unfold fD; simp; omega
 have e := dS (f := ah.Nv .lim) (fun k => (1, (r : Int), (r : Int), (k : Int), n, fD W, vg W b k, tw, key, dn, mu, sm, lJ 256, bk, bW 256, ta, out, ())) (n := r) (fun k hk => by
  rw [ah.q13];have hB := Jg W b k;have hK : rd G6 (fD W) (1 + (k : Int)) = rZ W (k + 1) := by
   rw [show (1 + (k : Int)) = ((k + 1 : Nat) : Int) by omega, jo (by omega)];unfold fD; simp
  have w1 : IntKind.i64.wrap (((fD W).length : Int) - 2) = (r : Int) - 1 := by rw [wrap64 (by omega) (by omega)]; omega
  have hlast : decide ((k : Int) = (r : Int) - 1) = decide (k + 2 = W.length / 4) := by
   by_cases h : k + 1 = r
   ·rw [au (by omega), au (by omega)]
   ·rw [aA (by omega), aA (by omega)]
  simp only [ah.b13, au (show (k : Int) < (r : Int) by omega), aG (show (0 : Int) <= k by omega) (show (k : Int) < (r : Int) by omega), aO (show ((fD W).length : Int) < 9223372036854775808 by omega), cond_true, hK, w1, hlast, Ue hB, Option.bind_some];rw [YH jB];simp only [Option.bind_some, Wq];have hs := ND hB;have hc : ((((List.replicate 4 (0 : Int)).set 0 2).set 1 3).set 2 1).set 3 1 = oQ := rfl;show _ = ah.Nv .lim (1, (r : Int), (r : Int), ((k + 1 : Nat) : Int), n, fD W, TW (decide (k + 2 = W.length / 4)) (vg W b k) (rZ W (k + 1)), tw, key, dn, mu, sm, lJ 256, bk, bW 256, ta, out, ());unfold TW;cases decide (k + 2 = W.length / 4) with
  | true =>
   simp only [Bool.not_true, cond_false, cond_true];rw [Uf hs.1];simp only [Option.bind_some, nX k (by omega)]
  | false =>
   simp only [Bool.not_false, cond_false, cond_true, hc];rw [aad hs hs.1];simp only [Option.bind_some];have hml : (xE (u_ (vg W b k))).length = 16 := jB;rw [Uf hml];simp only [Option.bind_some, nX k (by omega)])
 refine (show _ = _ from e).trans ?_;rw [ah.q13];simp only [ah.b13, aA (show ¬ (r : Int) < (r : Int) by omega), cond_false]
end
end Go.AM
end
section
namespace Go.AM
section
variable {ok : Bool} {n dn mu sm four x i t t1 t2 tp tq : Int} {key b tw ta out K was kb T sb bk : List Int} {yb W rn : List (List Int)} {last : Bool}
theorem Ug {r : Nat} (hW : Words W) (hl : W.length = 4 * (r + 1)) (hr : r <= 100) (hr0 : 0 < r) (hb : b.length = 16) {β : Type} {Q : _ -> Option β} :
  (bif inB 0 ((fD W).length : Int) then
   ((ah.l7 .lim (0, n, b, rd G6 (fD W) 0, tw, key, dn, mu, sm, lJ 256, bk, bW 256, ta, out, fD W, ())).bind fun (n, b, tw, key, dn, mu, sm, sb, bk, yb, ta, out, rn, ()) =>
    bif dR 1 (rn.length : Int) (rn.length : Int) then bif ay ((rn.length : Int) - 1) then (ah.Nv .lim (1, ((rn.length : Int) - 1), ((rn.length : Int) - 1), 0, n, rn, b, tw, key, dn, mu, sm, sb, bk, yb, ta, out, ())).bind Q else none else none) else none) = Q (n, vg W b r, tw, key, dn, mu, sm, lJ 256, bk, bW 256, ta, out, fD W, ()) := by
 have hn : (fD W).length = r + 1 := by unfold fD; simp; omega
 have h0 : rd G6 (fD W) 0 = rZ W 0 := by
  have := jo (d := G6) (show 0 < (fD W).length by omega);rw [show ((0 : Nat) : Int) = 0 from rfl] at this;rw [this]; unfold fD; simp
 rw [cond_pos (aG (by omega) (by omega)), h0, Wp hb];simp only [Option.bind_some];rw [cond_pos (aT (by omega) (by omega) (by omega)), cond_pos (aO (by omega)), show ((fD W).length : Int) - 1 = (r : Int) by omega];have := aae (tw := tw) (key := key) (dn := dn) (mu := mu) (sm := sm) (bk := bk) (n := n) (ta := ta) (out := out) hW hl hr hr0 hb;rw [show vg W b 0 = yZ b (rZ W 0) from rfl] at this;rw [this];rfl
theorem Ws (hk : key.length = 16 \/ key.length = 32) (hkb : ∀ x ∈ key, B8 x) (hb : b.length = 16) :
  ah.KO .lim (b, n, key, 0, 0, sm, dw, dw, List.replicate 16 dw, ta, out, [], ()) = some (n, encS key b, key, 1, 0, sm, lJ 256, Aa 256, bW 256, ta, out, fD (lH key), ()) := by
 have h0 : ah.KO .lim (b, n, key, 0, 0, sm, dw, dw, List.replicate 16 dw, ta, out, [], ()) = ah.b14 .lim (ah.KO .lim) (b, n, key, 0, 0, sm, dw, dw, List.replicate 16 dw, ta, out, [], ()) := ah.q14 _;rw [h0];have hr := Wn (sm := sm) (key := key) (b := b) (tw := G6) (n := n) (ta := ta) (out := out) hk hkb;have hW := yY key hkb;have hl : (lH key).length = 4 * ((key.length / 4 + 6) + 1) := by rw [uZ]; omega
 have hq : (lH key).length / 4 - 1 = key.length / 4 + 6 := by omega
 unfold ah.b14;simp only [hr, Option.bind_some];refine (Ug (Q := fun (n, b, tw, key, dn, mu, sm, sb, bk, yb, ta, out, rn, ()) => some (n, b, key, dn, mu, sm, sb, bk, yb, ta, out, rn, ())) hW hl (by omega) (by omega) hb).trans ?_;unfold encS;rw [hq]
theorem Wu (hk : key.length = 16 \/ key.length = 32) (hkb : ∀ x ∈ key, B8 x) (hb : b.length = 16) :
  ah.KO .lim (b, n, key, 1, 0, sm, lJ 256, Aa 256, bW 256, ta, out, fD (lH key), ()) = some (n, encS key b, key, 1, 0, sm, lJ 256, Aa 256, bW 256, ta, out, fD (lH key), ()) := by
 have h0 : ah.KO .lim (b, n, key, 1, 0, sm, lJ 256, Aa 256, bW 256, ta, out, fD (lH key), ()) = ah.b14 .lim (ah.KO .lim) (b, n, key, 1, 0, sm, lJ 256, Aa 256, bW 256, ta, out, fD (lH key), ()) := ah.q14 _;rw [h0];have hr : ah.l6 .lim (n, key, 1, 0, sm, lJ 256, Aa 256, bW 256, b, G6, ta, out, fD (lH key), ()) = some (n, b, G6, key, 1, 0, sm, lJ 256, Aa 256, bW 256, ta, out, fD (lH key), ()) := by
  rw [ah.q6];simp only [ah.b6, aA (show ¬ (1 : Int) = 0 by omega), Bool.not_false, Bool.not_true, cond_false]
 have hW := yY key hkb;have hl : (lH key).length = 4 * ((key.length / 4 + 6) + 1) := by rw [uZ]; omega
 have hq : (lH key).length / 4 - 1 = key.length / 4 + 6 := by omega
 unfold ah.b14;simp only [hr, Option.bind_some];refine (Ug (Q := fun (n, b, tw, key, dn, mu, sm, sb, bk, yb, ta, out, rn, ()) => some (n, b, key, dn, mu, sm, sb, bk, yb, ta, out, rn, ())) hW hl (by omega) (by omega) hb).trans ?_;unfold encS;rw [hq]
end
end Go.AM
end
section
namespace Go.AM
abbrev Bs (s : List Int) : Prop := ∀ x ∈ s, B8 x
abbrev dX : Nat := 9223372036854775808
noncomputable def encR (key b : List Int) : List Int × Int := if key.length = 16 \/ key.length = 32 then (if b.length = 16 then (encS key b, 0) else ([], 10)) else ([], 13)
theorem Uh {b : List Int} (h : b.length = 16) : (b.drop 0).take 16 = b := by rw [List.drop_zero, List.take_of_length_le (by omega)]
theorem vk {key b : List Int} (hk : key.length < dX) (hb : b.length < dX) (hkb : Bs key) : aj.run .lim (key, b, ()) = some ((encR key b).1, (encR key b).2, ()) := by
 unfold encR;simp only [aj.run, aF hk, aF hb, cond_true, Bool.or_true];by_cases h1 : key.length = 16 \/ key.length = 32
 ·have : (!decide ((key.length : Int) = 16) && !decide ((key.length : Int) = 32)) = false := by
   rcases h1 with h | h
   ·rw [au (show (key.length : Int) = 16 by omega)]; rfl
   ·rw [au (show (key.length : Int) = 32 by omega), Bool.not_true, Bool.and_false]
  rw [this, if_pos h1];simp only [cond_false];by_cases h2 : b.length = 16
  ·rw [au (show (b.length : Int) = 16 by omega), if_pos h2];simp only [Bool.not_true, cond_false, h2];rw [show (Nat.ble 1 16 && Nat.ble 16 16) = true from rfl, cond_true, List.take_of_length_le (by omega), Wh h1 hkb h2];simp only [Option.bind_some];rw [Uh (r_ _ _).1]
  ·rw [aA (show ¬ (b.length : Int) = 16 by omega), if_neg h2];rfl
 ·rw [aA (show ¬ (key.length : Int) = 16 by omega), aA (show ¬ (key.length : Int) = 32 by omega), if_neg h1];rfl
def QO : Nat -> List Int -> List Int
 | 0, m => m
 | i + 1, m => bif !decide (rd 0 (m.set i (IntKind.u8.wrap (rd 0 m (i : Int) + 1))) (i : Int) = 0) then m.set i (IntKind.u8.wrap (rd 0 m (i : Int) + 1)) else QO i (m.set i (IntKind.u8.wrap (rd 0 m (i : Int) + 1)))
theorem KY : ∀ i m, (QO i m).length = m.length
 | 0, _ => rfl
 | i + 1, m => by
  rw [QO];cases decide (rd 0 (m.set i (IntKind.u8.wrap (rd 0 m (i : Int) + 1))) (i : Int) = 0)
  ·simp
  ·simp [KY i]
noncomputable def jK (key at_ : List Int) : Nat -> List Int × List Int
 | 0 => ([], at_)
 | k + 1 => ((jK key at_ k).1 ++ encS key (jK key at_ k).2, QO 16 (jK key at_ k).2)
theorem qP (key at_ : List Int) : ∀ k, (jK key at_ k).1.length = 16 * k /\ (jK key at_ k).2.length = at_.length
 | 0 => ⟨rfl, rfl⟩
 | k + 1 => by
  obtain ⟨h1, h2⟩ := qP key at_ k;exact ⟨by rw [jK, List.length_append, h1, (r_ _ _).1]; omega, by rw [jK, KY, h2]⟩
noncomputable def QS (key at_ : List Int) (n : Nat) : List Int := (jK key at_ ((n + 15) / 16)).1.take n
theorem KZ (key at_ : List Int) (n : Nat) : (QS key at_ n).length = n := by unfold QS; rw [List.length_take, (qP _ _ _).1]; omega
section
variable {n dn mu sm : Int} {key ta out sb bk w : List Int} {yb rn : List (List Int)}
theorem XG : ∀ (i : Nat), i <= 16 -> ∀ (ta : List Int), ta.length = 16 -> ah.l15 .lim (n, (i : Int) - 1, key, dn, mu, sm, sb, bk, yb, ta, out, rn, ()) = some (n, key, dn, mu, sm, sb, bk, yb, QO i ta, out, rn, ())
 | 0, _, ta, ht => by
  rw [ah.q15];simp only [ah.b15, aA (show ¬ (((0 : Nat) : Int) - 1 >= 0) by omega), cond_false];rfl
 | i + 1, hi, ta, ht => by
  have w1 : IntKind.i64.wrap ((i : Int) - 1) = (i : Int) - 1 := wrap64 (by omega) (by omega);have ih := XG i (by omega) (ta.set i (IntKind.u8.wrap (rd 0 ta (i : Int) + 1))) (by simpa using ht);rw [show ((i + 1 : Nat) : Int) - 1 = (i : Int) by omega, ah.q15, QO];simp only [ah.b15, au (show (i : Int) >= 0 by omega), aG (show (0 : Int) <= i by omega) (show (i : Int) < 16 by omega), cond_true, Int.toNat_natCast, w1, ih];cases decide (rd 0 (ta.set i (IntKind.u8.wrap (rd 0 ta (i : Int) + 1))) (i : Int) = 0) <;> rfl
end
def Wv (key at_ : List Int) (n : Int) : Int := if n < 0 \/ n > 65536 then 13 else if key.length = 16 \/ key.length = 32 then (if at_.length = 16 then 0 else 10) else 13
noncomputable def Wx (key at_ : List Int) (n : Int) : List Int := if Wv key at_ n = 0 then QS key at_ n.toNat else []
theorem YJ {key at_ : List Int} {q : Nat} (hk : key.length = 16 \/ key.length = 32) (hkb : Bs key) (ha : at_.length = 16) (hq : q <= 65536) :
  ah.XD .lim ((q : Int), key, 0, 0, 0, dw, dw, List.replicate 16 dw, at_, [], [], ()) = some ((q : Int), (jK key at_ ((q + 15) / 16)).1, ()) := by
 have step : ∀ (k : Nat) (dn mu : Int) (sb bk : List Int) (yb rn : List (List Int)), k < (q + 15) / 16 -> ah.KO .lim ((jK key at_ k).2, (q : Int), key, dn, mu, 0, sb, bk, yb, (jK key at_ k).2, (jK key at_ k).1, rn, ()) = some ((q : Int), encS key (jK key at_ k).2, key, 1, 0, 0, lJ 256, Aa 256, bW 256, (jK key at_ k).2, (jK key at_ k).1, fD (lH key), ()) ->
   ah.XD .lim ((q : Int), key, dn, mu, 0, sb, bk, yb, (jK key at_ k).2, (jK key at_ k).1, rn, ()) = ah.XD .lim ((q : Int), key, 1, 0, 0, lJ 256, Aa 256, bW 256, (jK key at_ (k + 1)).2, (jK key at_ (k + 1)).1, fD (lH key), ()) := by
  intro k dn mu sb bk yb rn hk e;obtain ⟨h1, h2⟩ := qP key at_ k;have hi := XG (n := (q : Int)) (dn := 1) (mu := 0) (sm := 0) (key := key) (sb := lJ 256) (bk := Aa 256) (yb := bW 256) (rn := fD (lH key)) (out := (jK key at_ k).1 ++ encS key (jK key at_ k).2) 16 (by omega) (jK key at_ k).2 (by omega);rw [show ((16 : Nat) : Int) - 1 = 15 from rfl] at hi;rw [ah.q16];simp only [ah.b16, aF (show (jK key at_ k).1.length < 9223372036854775808 by omega), au (show (((jK key at_ k).1.length : Nat) : Int) < (q : Int) by omega), cond_true, e, Option.bind_some, Uh (r_ key (jK key at_ k).2).1, (r_ key (jK key at_ k).2).1, hi];rw [cond_pos (au (by omega))];rfl
 have fin : ∀ dn mu sb bk yb rn, ah.XD .lim ((q : Int), key, dn, mu, 0, sb, bk, yb, (jK key at_ ((q + 15) / 16)).2, (jK key at_ ((q + 15) / 16)).1, rn, ()) = some ((q : Int), (jK key at_ ((q + 15) / 16)).1, ()) := by
  intro dn mu sb bk yb rn;obtain ⟨h1, h2⟩ := qP key at_ ((q + 15) / 16);rw [ah.q16];simp only [ah.b16, aF (show (jK key at_ ((q + 15) / 16)).1.length < 9223372036854775808 by omega), aA (show ¬ (((jK key at_ ((q + 15) / 16)).1.length : Nat) : Int) < (q : Int) by omega), cond_true, cond_false]
 by_cases h0 : q = 0
 ·subst h0;exact fin 0 0 dw dw (List.replicate 16 dw) []
 ·obtain ⟨p, hp⟩ : ∃ p, (q + 15) / 16 = p + 1 := ⟨(q + 15) / 16 - 1, by omega⟩;have e0 := step 0 0 0 dw dw (List.replicate 16 dw) [] (by omega) (Ws (n := (q : Int)) (sm := 0) (ta := at_) (out := []) hk hkb ha);have e1 := dS (f := ah.XD .lim) (fun k => ((q : Int), key, 1, 0, 0, lJ 256, Aa 256, bW 256, (jK key at_ (k + 1)).2, (jK key at_ (k + 1)).1, fD (lH key), ())) (n := p) (fun k hkp => step (k + 1) 1 0 (lJ 256) (Aa 256) (bW 256) (fD (lH key)) (by omega) (Wu (n := (q : Int)) (sm := 0) (ta := (jK key at_ (k + 1)).2) (out := (jK key at_ (k + 1)).1) hk hkb (by rw [(qP _ _ _).2]; exact ha)));refine e0.trans (e1.trans ?_);rw [<- hp];exact fin _ _ _ _ _ _
theorem NG {key at_ : List Int} {n : Int} (hk : key.length < dX) (ha : at_.length < dX) (hkb : Bs key) : ah.run .lim (key, at_, n, ()) = some (Wx key at_ n, Wv key at_ n, ()) := by
 unfold Wx Wv;simp only [ah.run, aF hk, aF ha, cond_true, Bool.or_true, dU];by_cases h0 : n < 0 \/ n > 65536
 ·rw [au h0, if_pos h0, if_neg (by decide)]; rfl
 ·rw [aA h0, if_neg h0];simp only [cond_false];by_cases h1 : key.length = 16 \/ key.length = 32
  ·have : (!decide ((key.length : Int) = 16) && !decide ((key.length : Int) = 32)) = false := by
    rcases h1 with h | h
    ·rw [au (show (key.length : Int) = 16 by omega)]; rfl
    ·rw [au (show (key.length : Int) = 32 by omega), Bool.not_true, Bool.and_false]
   rw [this, if_pos h1];simp only [cond_false];by_cases h2 : at_.length = 16
   ·rw [au (show (at_.length : Int) = 16 by omega), if_pos h2, if_pos rfl];simp only [Bool.not_true, cond_false, h2];have hn : n = ((n.toNat : Nat) : Int) := by omega
    have hl := YJ (q := n.toNat) h1 hkb h2 (by omega);rw [<- hn] at hl;rw [show (Nat.ble 1 16 && Nat.ble 16 16) = true from rfl, cond_true, List.take_of_length_le (by omega), hl];simp only [Option.bind_some];have := (qP key at_ ((n.toNat + 15) / 16)).1;rw [cond_pos (aT (by omega) (by omega) (by omega)), List.drop_zero, Int.sub_zero];rfl
   ·rw [aA (show ¬ (at_.length : Int) = 16 by omega), if_neg h2, if_neg (by decide)];rfl
  ·rw [aA (show ¬ (key.length : Int) = 16 by omega), aA (show ¬ (key.length : Int) = 32 by omega), if_neg h1, if_neg (by decide)];rfl
end Go.AM
end
section
namespace Go.AM
theorem Wy (n : Int) : IntKind.u32.wrap n = n % 4294967296 := by unfold IntKind.wrap; simp [IntKind.signed, IntKind.bits]
theorem CQ (n : Int) : IntKind.u64.wrap n = n % 18446744073709551616 := by unfold IntKind.wrap; simp [IntKind.signed, IntKind.bits]
theorem Ui {w x y : Nat} (hx : x < 2 ^ w) (hy : y < 2 ^ w) : (BitVec.ofInt w (x : Int) ||| BitVec.ofInt w (y : Int)).toNat = x ||| y := by
 rw [BitVec.toNat_or, BitVec.toNat_ofInt, BitVec.toNat_ofInt];have e : ∀ z : Nat, z < 2 ^ w -> ((z : Int) % ((2 ^ w : Nat) : Int)).toNat = z := fun z hz => by rw [<- Int.natCast_emod, Int.toNat_natCast, Nat.mod_eq_of_lt hz]
 rw [e x hx, e y hy]
theorem Uj {a b m : Nat} (h : b < 2 ^ m) : 2 ^ m * a ||| b = 2 ^ m * a + b := (Nat.two_pow_add_eq_or_of_lt h a).symm
theorem aaf {a b : Nat} (m : Nat) (h : b < 2 ^ m) (hm : 2 ^ m * a + b < 9223372036854775808) : nM .i64 ((2 ^ m * a : Nat) : Int) (b : Int) = ((2 ^ m * a + b : Nat) : Int) := by
 show IntKind.i64.wrap ((BitVec.ofInt 64 ((2 ^ m * a : Nat) : Int) ||| BitVec.ofInt 64 (b : Int)).toNat : Int) = _;have h1 : 2 ^ m * a < 2 ^ 64 := Nat.lt_of_le_of_lt (Nat.le_add_right _ b) (Nat.lt_of_lt_of_le hm (by decide));have h2 : b < 2 ^ 64 := Nat.lt_of_le_of_lt (Nat.le_add_left _ (2 ^ m * a)) (Nat.lt_of_lt_of_le hm (by decide));rw [Ui h1 h2, Uj h, wrap64 (by omega) (by omega)]
theorem NH {a : Int} (h : B8 a) : ∃ n : Nat, a = (n : Int) /\ n < 256 := ⟨a.toNat, by have := h.1; omega, by have := h.1; have := h.2; omega⟩
theorem aag {a b : Int} (ha : B8 a) (hb : B8 b) : nM .i64 (eP .i64 (IntKind.i64.wrap a) 8) (IntKind.i64.wrap b) = a * 256 + b := by
 obtain ⟨x, rfl, hx⟩ := NH ha;obtain ⟨y, rfl, hy⟩ := NH hb;rw [wrap64 (by omega) (by omega), wrap64 (by omega) (by omega)];have e : eP .i64 (x : Int) 8 = ((2 ^ 8 * x : Nat) : Int) := by
  show IntKind.i64.wrap ((x : Int) * 2 ^ 8) = _;rw [wrap64 (by omega) (by omega)]; omega
 rw [e, aaf 8 (by omega) (by omega)];omega
theorem jV (x : Int) (k m : Nat) (K : IntKind) (hm : m <= K.bits) : iI K x (m : Int) = x / 2 ^ m := by
 show x.fdiv (2 ^ min ((m : Int).toNat) K.bits) = _;rw [Int.toNat_natCast, Nat.min_eq_left hm, Int.fdiv_eq_ediv_of_nonneg _ (by exact Int.le_of_lt (Int.pow_pos (by decide)))]
end Go.AM
end
section
namespace Go.AM
abbrev FF := Int × List Int
abbrev f0 : FF := ((0 : Int), ([] : List Int))
def fJ (s : List Int) : Int := s.foldl (fun n c => n * 256 + c) 0
theorem G_ (s : List Int) (c : Int) : fJ (s ++ [c]) = fJ s * 256 + c := by unfold fJ; rw [List.foldl_append]; rfl
theorem CS {s : List Int} (hs : Bs s) : ∀ k, k <= s.length -> 0 <= fJ (s.take k) /\ fJ (s.take k) < 256 ^ k := by
 intro k
 induction k with
 | zero => intro _; simp [fJ]
 | succ k ih =>
  intro hk;have h := ih (by omega);rw [CJ (d := (0 : Int)) (by omega), G_, Int.pow_succ];have hc := hs _ (fH (d := (0 : Int)) (i := (k : Int)) (by omega) (by omega));omega
theorem YK {k : Nat} (h : k <= 7) : (256 : Int) ^ k <= 72057594037927936 := by
 have h1 := Nat.pow_le_pow_right (n := 256) (by decide) h;have h2 : ((256 ^ k : Nat) : Int) = (256 : Int) ^ k := by rw [Int.natCast_pow]; rfl
 omega
theorem YL {a b : Nat} (m : Nat) (h : b < 2 ^ m) (hm : 2 ^ m * a + b < 18446744073709551616) : nM .u64 ((2 ^ m * a : Nat) : Int) (b : Int) = ((2 ^ m * a + b : Nat) : Int) := by
 show IntKind.u64.wrap ((BitVec.ofInt 64 ((2 ^ m * a : Nat) : Int) ||| BitVec.ofInt 64 (b : Int)).toNat : Int) = _;rw [Ui (Nat.lt_of_le_of_lt (Nat.le_add_right _ b) hm) (Nat.lt_of_le_of_lt (Nat.le_add_left _ (2 ^ m * a)) hm), Uj h, CQ];omega
theorem YM {n c : Int} (h0 : 0 <= n) (h1 : n < 72057594037927936) (hc : B8 c) : nM .u64 (eP .u64 n 8) (IntKind.u64.wrap c) = n * 256 + c := by
 obtain ⟨x, rfl⟩ := Int.eq_ofNat_of_zero_le h0;obtain ⟨y, rfl, hy⟩ := NH hc;have e : eP .u64 (x : Int) 8 = ((2 ^ 8 * x : Nat) : Int) := by
  show IntKind.u64.wrap ((x : Int) * 2 ^ 8) = _;rw [CQ]; omega
 have e2 : IntKind.u64.wrap (y : Int) = (y : Int) := by rw [CQ]; omega
 rw [e, e2, YL 8 (by omega) (by omega)];omega
theorem Uk {s : List Int} (hs : Bs s) (hl : s.length <= 8) {k : Nat} (hk : k < s.length) : nM .u64 (eP .u64 (fJ (s.take k)) 8) (IntKind.u64.wrap (rd 0 s (k : Int))) = fJ (s.take (k + 1)) := by
 have hb := CS hs k (by omega);have hp := YK (k := k) (by omega);rw [YM hb.1 (by omega) (hs _ (fH (by omega) (by omega))), CJ (d := (0 : Int)) hk, G_]
theorem EF {s : List Int} (hs : Bs s) (hl : s.length <= 8) : bV.run .lim (s, ()) = some (fJ s) := by
 have e := dS (f := bV.l0 .lim) (fun k => (s, fJ (s.take k), (s.length : Int), (k : Int), ())) (n := s.length) (fun k hk => by
  rw [bV.q0];simp only [bV.b0, au (show (k : Int) < (s.length : Int) by omega), aG (show (0 : Int) <= (k : Int) by omega) (show (k : Int) < (s.length : Int) by omega), cond_true, nX k (by omega), Uk hs hl hk])
 have e0 : bV.l0 .lim (s, 0, (s.length : Int), 0, ()) = bV.l0 .lim (s, fJ (s.take s.length), (s.length : Int), (s.length : Int), ()) := e;simp only [bV.run, aF (show s.length < 9223372036854775808 by omega), cond_true, e0, List.take_length];rw [bV.q0];simp only [bV.b0, aA (show ¬ (s.length : Int) < (s.length : Int) by omega), cond_false, Option.bind_some]
theorem qB {α : Type} {s : List α} {a b : Nat} {i j : Int} (hi : i = (a : Int)) (hj : j = (b : Int)) : cut s i j = (s.take b).drop a := by subst hi; subst hj; rfl
theorem vT {α : Type} {s : List α} {a : Nat} {i : Int} (hi : i = (a : Int)) : cut s i (s.length : Int) = s.drop a := by subst hi; unfold cut; rw [Int.toNat_natCast, Int.toNat_natCast, List.take_length]
theorem Bs.take {s : List Int} (h : Bs s) (n : Nat) : Bs (s.take n) := fun x hx => h x (List.mem_of_mem_take hx)
theorem Bs.drop {s : List Int} (h : Bs s) (n : Nat) : Bs (s.drop n) := fun x hx => h x (List.mem_of_mem_drop hx)
theorem Bs.cut {s : List Int} (h : Bs s) (i j : Int) : Bs (cut s i j) := fun x hx => h x (List.mem_of_mem_take (List.mem_of_mem_drop hx))
theorem Bs.app {s t : List Int} (h : Bs s) (k : Bs t) : Bs (s ++ t) := fun x hx => (List.mem_append.1 hx).elim (h x) (k x)
theorem aah {n : Int} (h0 : 0 <= n) (h1 : n < 9223372036854775808) : fO .i64 n 3 = n % 4 := by
 obtain ⟨x, rfl⟩ := Int.eq_ofNat_of_zero_le h0;show IntKind.i64.wrap ((BitVec.ofInt 64 (x : Int) &&& BitVec.ofInt 64 3).toNat : Int) = _;rw [BitVec.toNat_and, BitVec.toNat_ofInt, show (BitVec.ofInt 64 3).toNat = 2 ^ 2 - 1 from rfl, Nat.and_two_pow_sub_one_eq_mod];have e : ((x : Int) % ((2 ^ 64 : Nat) : Int)).toNat = x := by omega
 rw [e, wrap64 (by omega) (by omega)]; omega
def iw (s : List Int) : Nat := (fJ ((s.take 4).drop 2)).toNat
def FM (s : List Int) : Prop := s.length < 4 \/ iw s < 16 \/ iw s % 4 ≠ 0 \/ iw s > s.length
instance (s : List Int) : Decidable (FM s) := by unfold FM; exact inferInstance
def WA (s : List Int) : FF := (fJ (s.take 2), (s.take (iw s)).drop 4)
def EG : Nat -> List Int -> List FF -> List FF × Int
 | 0, _, acc => (acc, 0)
 | n + 1, s, acc => if s = [] then (acc, 0) else if FM s then ([], 10) else if acc.length = 16 then ([], 18) else EG n (s.drop (iw s)) (acc ++ [WA s])
theorem Pq {s : List Int} (hs : Bs s) (h : 4 <= s.length) : fJ ((s.take 4).drop 2) = (iw s : Int) /\ iw s < 65536 := by
 have hb : Bs ((s.take 4).drop 2) := (hs.take 4).drop 2;have hl : ((s.take 4).drop 2).length = 2 := by rw [List.length_drop, List.length_take]; omega
 have := CS hb 2 (by omega);rw [List.take_of_length_le (by omega)] at this;unfold iw;omega
theorem Pv {s : List Int} (hs : Bs s) (h : 2 <= s.length) : 0 <= fJ (s.take 2) /\ fJ (s.take 2) < 65536 := by
 have := CS hs 2 (by omega);omega
theorem WB : ∀ (n : Nat) (s : List Int) (acc : List FF), s.length <= n -> Bs s -> s.length < 9223372036854775808 -> acc.length <= 16 ->
  ((dh.l0 .lim (s, 0, acc, ())).bind fun g_ => match g_ with
   | .inl (m, m1, ()) => some (([] : List FF), m, ())
   | .inr (.inl (m2, m3, ())) => some (([] : List FF), m2, ())
   | .inr (.inr (m4, m5, ())) => some (m5, 0, ())) = some ((EG n s acc).1, (EG n s acc).2, ()) := by
 intro n
 induction n with
 | zero =>
  intro s acc hn _ _ _;obtain rfl : s = [] := List.length_eq_zero_iff.1 (by omega);rw [dh.q0];simp only [dh.b0, decide_true, Bool.not_true, cond_false, Option.bind_some, EG]
 | succ n ih =>
  intro s acc hn hs hl ha;rw [dh.q0];by_cases h0 : s = []
  ·subst h0;simp only [dh.b0, decide_true, Bool.not_true, cond_false, Option.bind_some, EG, if_true]
  simp only [dh.b0, aA h0, Bool.not_false, cond_true, aF hl, EG, if_neg h0];by_cases h4 : s.length < 4
  ·simp only [aA (show ¬ (s.length : Int) >= 4 by omega), cond_false, Option.bind_some];rw [if_pos (show FM s from .inl h4)]
  ·obtain ⟨e1, e2⟩ := Pq hs (by omega);have hc : cut s 2 4 = (s.take 4).drop 2 := qB (a := 2) (b := 4) rfl rfl;have hlen : ((s.take 4).drop 2).length <= 8 := by rw [List.length_drop, List.length_take]; omega
   have w : IntKind.i64.wrap (iw s : Int) = (iw s : Int) := wrap64 (by omega) (by omega);simp only [au (show (s.length : Int) >= 4 by omega), cond_true, aT (show (0 : Int) <= 2 by omega) (show (2 : Int) <= 4 by omega) (show (4 : Int) <= (s.length : Int) by omega), hc, EF ((hs.take 4).drop 2) hlen, Option.bind_some, e1, w, Bool.or_true];have h3 : fO .i64 (iw s : Int) 3 = ((iw s % 4 : Nat) : Int) := by rw [aah (by omega) (by omega)]; omega
   by_cases hb : FM s
   ·rw [if_pos hb];have hq : (((decide ((iw s : Int) < 16)) || (!(decide ((fO .i64 (iw s : Int) 3) = 0)))) || (decide ((iw s : Int) > (s.length : Int)))) = true := by
     rw [h3];rcases hb with hb | hb | hb | hb
     ·exact absurd hb h4
     ·simp only [au (show (iw s : Int) < 16 by omega), Bool.true_or]
     ·simp only [aA (show ¬ ((iw s % 4 : Nat) : Int) = 0 by omega), Bool.not_false, Bool.or_true, Bool.true_or]
     ·simp only [au (show (iw s : Int) > (s.length : Int) by omega), Bool.or_true]
    simp only [hq, cond_true, Option.bind_some]
   ·rw [if_neg hb];unfold FM at hb;have hq : (((decide ((iw s : Int) < 16)) || (!(decide ((fO .i64 (iw s : Int) 3) = 0)))) || (decide ((iw s : Int) > (s.length : Int)))) = false := by rw [h3, aA (show ¬ (iw s : Int) < 16 by omega), au (show ((iw s % 4 : Nat) : Int) = 0 by omega), aA (show ¬ (iw s : Int) > (s.length : Int) by omega)]; rfl
    have hc2 : cut s 0 2 = s.take 2 := qB (a := 0) (b := 2) rfl rfl;have hv := Pv hs (by omega);have w2 : IntKind.i64.wrap (fJ (s.take 2)) = fJ (s.take 2) := wrap64 (by omega) (by omega);have hc3 : cut s 4 (iw s : Int) = (s.take (iw s)).drop 4 := qB (a := 4) (b := iw s) rfl rfl;have hc4 : cut s (iw s : Int) (s.length : Int) = s.drop (iw s) := vT rfl;simp only [hq, cond_false, aT (show (0 : Int) <= 0 by omega) (show (0 : Int) <= 2 by omega) (show (2 : Int) <= (s.length : Int) by omega), cond_true, hc2, EF (hs.take 2) (show (s.take 2).length <= 8 by rw [List.length_take]; omega), Option.bind_some, w2,
     aT (show (0 : Int) <= 4 by omega) (show (4 : Int) <= (iw s : Int) by omega) (show (iw s : Int) <= (s.length : Int) by omega), aT (show (0 : Int) <= (iw s : Int) by omega) (show (iw s : Int) <= (s.length : Int) by omega) (show (s.length : Int) <= (s.length : Int) by omega), aF (show acc.length < 9223372036854775808 by omega), hc3, hc4]
    by_cases h16 : acc.length = 16
    ·rw [au (show (acc.length : Int) = 16 by omega), if_pos h16]; rfl
    ·rw [aA (show ¬ (acc.length : Int) = 16 by omega), if_neg h16];simp only [cond_false];rw [cond_pos (au (by simp; omega))];exact ih (s.drop (iw s)) (acc ++ [WA s]) (by rw [List.length_drop]; omega) (hs.drop _) (by rw [List.length_drop]; omega) (by simp; omega)
theorem XH {s : List Int} (hs : Bs s) (hl : s.length < 9223372036854775808) : dh.run .lim (s, ()) = some ((EG s.length s []).1, (EG s.length s []).2, ()) := by
 simp only [dh.run];exact WB s.length s [] (Nat.le_refl _) hs hl (by simp)
end Go.AM
end
section
namespace Go.AM
theorem shr8 {n : Int} : iI .i64 n 8 = n / 256 := by
 have := jV n 0 8 .i64 (by decide);exact this
def twoS (n : Int) : List Int := [IntKind.u8.wrap (iI .i64 n 8), IntKind.u8.wrap n]
theorem jL (n : Int) : (twoS n).length = 2 := rfl
theorem Ul (n : Int) : Bs (twoS n) := fun x hx => by
 unfold twoS at hx;simp only [List.mem_cons, List.not_mem_nil, or_false] at hx;rcases hx with rfl | rfl <;> exact yT _
theorem Px {t : List Int} (hb : Bs t) (hl : t.length = 2) : twoS (fJ t) = t := by
 match t, hl with
 | [a, b], _ =>
  have ha := hb a (.head _);have hb := hb b (.tail _ (.head _));have e : fJ [a, b] = a * 256 + b := by simp [fJ]
  unfold twoS;rw [e, shr8, oL, oL];congr 1
  ·omega
  ·congr 1; omega
def BQ (f : FF) : List Int := twoS f.1 ++ twoS ((f.2.length : Int) + 4) ++ f.2
def aX (l : List FF) : List Int := (l.map BQ).flatten
theorem y7 (f : FF) : (BQ f).length = 4 + f.2.length := by simp [BQ, twoS]; omega
theorem Ac (a b : List FF) : aX (a ++ b) = aX a ++ aX b := by simp [aX]
theorem QT (f : FF) : aX [f] = BQ f := by simp [aX]
theorem EH {l : List FF} {k : Nat} (h : k < l.length) : aX (l.take (k + 1)) = aX (l.take k) ++ BQ (rd f0 l (k : Int)) := by rw [CJ (d := f0) h, Ac, QT]
theorem K_ (l : List FF) (k : Nat) : (aX (l.take k)).length <= (aX l).length := by
 have : aX l = aX (l.take k) ++ aX (l.drop k) := by rw [<- Ac, List.take_append_drop]
 rw [this, List.length_append]; omega
structure Vg (f : FF) : Prop where
 k0 : 0 <= f.1
 k1 : f.1 < 65536
 l0 : 12 <= f.2.length
 l4 : f.2.length % 4 = 0
 l1 : f.2.length < 65532
 b : Bs f.2
theorem WC {s : List Int} (hs : Bs s) (hb : ¬ FM s) : s.take (iw s) = BQ (WA s) /\ Vg (WA s) := by
 unfold FM at hb;obtain ⟨e1, e2⟩ := Pq hs (by omega);have hv := Pv hs (by omega);have hlen : ((s.take (iw s)).drop 4).length = iw s - 4 := by rw [List.length_drop, List.length_take]; omega
 refine ⟨?_, ⟨hv.1, hv.2, by show 12 <= ((s.take (iw s)).drop 4).length; omega, by show ((s.take (iw s)).drop 4).length % 4 = 0; omega, by show ((s.take (iw s)).drop 4).length < 65532; omega, (hs.take _).drop _⟩⟩;unfold BQ WA;have h2 : twoS ((((s.take (iw s)).drop 4).length : Int) + 4) = (s.take 4).drop 2 := by
  rw [hlen, show ((iw s - 4 : Nat) : Int) + 4 = (iw s : Int) by omega, <- e1];exact Px ((hs.take 4).drop 2) (by rw [List.length_drop, List.length_take]; omega)
 have h1 : twoS (fJ (s.take 2)) = s.take 2 := Px (hs.take 2) (by rw [List.length_take]; omega);show s.take (iw s) = twoS (fJ (s.take 2)) ++ twoS ((((s.take (iw s)).drop 4).length : Int) + 4) ++ (s.take (iw s)).drop 4;rw [h1, h2];have h3 : s.take 2 ++ (s.take 4).drop 2 = s.take 4 := by
  have : s.take 2 = (s.take 4).take 2 := by rw [List.take_take]; rfl
  rw [this, List.take_append_drop]
 have h4 : s.take 4 = (s.take (iw s)).take 4 := by rw [List.take_take, Nat.min_eq_left (by omega)]
 rw [h3, h4, List.take_append_drop]
theorem Py : ∀ (n : Nat) (s : List Int) (acc : List FF), s.length <= n -> Bs s -> (EG n s acc).2 = 0 -> ∃ l, (EG n s acc).1 = acc ++ l /\ s = aX l /\ (∀ f ∈ l, Vg f) /\ (acc.length <= 16 -> (acc ++ l).length <= 16) := by
 intro n
 induction n with
 | zero =>
  intro s acc hn _ _;obtain rfl : s = [] := List.length_eq_zero_iff.1 (by omega);exact ⟨[], by simp [EG], rfl, fun f hf => (by cases hf), fun h => by simpa using h⟩
 | succ n ih =>
  intro s acc hn hs he;by_cases h0 : s = []
  ·subst h0;exact ⟨[], by simp [EG], rfl, fun f hf => (by cases hf), fun h => by simpa using h⟩
  ·simp only [EG, if_neg h0] at he ⊢
   by_cases hb : FM s
   ·rw [if_pos hb] at he; exact absurd he (by decide)
   ·rw [if_neg hb] at he ⊢
    by_cases h16 : acc.length = 16
    ·rw [if_pos h16] at he; exact absurd he (by decide)
    ·rw [if_neg h16] at he ⊢
     obtain ⟨e1, e2⟩ := WC hs hb;have hb' := hb;unfold FM at hb';obtain ⟨l, k1, k2, k3, k4⟩ := ih (s.drop (iw s)) (acc ++ [WA s]) (by rw [List.length_drop]; omega) (hs.drop _) he;refine ⟨WA s :: l, by rw [k1, List.append_assoc]; rfl, ?_, fun f hf => ?_, fun h => ?_⟩
     ·have : aX (WA s :: l) = BQ (WA s) ++ aX l := by simp [aX]
      rw [this, <- k2, <- e1, List.take_append_drop]
     ·rcases List.mem_cons.1 hf with rfl | hf
      ·exact e2
      ·exact k3 f hf
     ·have := k4 (by simp; omega);simpa [List.append_assoc] using this
def fE (f : FF) : Int := if f.1 < 0 \/ f.1 >= 65536 then 13 else if f.2.length < 12 \/ f.2.length % 4 ≠ 0 then 10 else 0
def qQ (l : List FF) : Int := if l.length > 16 then 18 else match (List.range l.length).find? (fun k : Nat => !decide (fE (rd f0 l (k : Int)) = 0)) with
 | some k => fE (rd f0 l (k : Int))
 | none => if (aX l).length > 1232 then 12 else 0
def qR (l : List FF) : List Int := if qQ l = 0 then aX l else []
theorem aai {f : FF} (h : Vg f) : fE f = 0 := by
 unfold fE;rw [if_neg (by have := h.k0; have := h.k1; omega), if_neg (by have := h.l0; have := h.l4; omega)]
theorem Jh {l : List FF} (h : ∀ f ∈ l, Vg f) (h16 : l.length <= 16) (hl : (aX l).length <= 1232) : qQ l = 0 := by
 unfold qQ;rw [if_neg (by omega)];have : (List.range l.length).find? (fun k : Nat => !decide (fE (rd f0 l (k : Int)) = 0)) = none := List.find?_eq_none.2 fun k hk => by
  have hk := List.mem_range.1 hk;rw [au (aai (h _ (fH (by omega) (by omega))))]; simp
 rw [this];simp only;rw [if_neg (by omega)]
def vZ (l : List FF) : Nat -> List Int
 | 0 => []
 | k + 1 => if (aX (l.take (k + 1))).length > 1232 then vZ l k else vZ l k ++ BQ (rd f0 l (k : Int))
theorem Pz {l : List FF} : ∀ k, k <= l.length -> (aX (l.take k)).length <= 1232 -> vZ l k = aX (l.take k) := by
 intro k
 induction k with
 | zero => intro _ _; rfl
 | succ k ih =>
  intro hk h;have e := EH (l := l) (k := k) (by omega);unfold vZ;rw [if_neg (by omega), e];rw [ih (by omega) (by rw [e, List.length_append] at h; omega)]
theorem WE (n : Int) : uU.run .lim (n, ()) = some (twoS n) := rfl
def FL (l : List FF) : Prop := l.length < 9223372036854775808 /\ ∀ f ∈ l, f.2.length <= 140737488351232
theorem He {l : List FF} (hl : FL l) : dW.run .lim (l, ()) = some (qR l, qQ l, ()) := by
 obtain ⟨h1, h2⟩ := hl;simp only [dW.run, aF h1, cond_true];by_cases h16 : l.length > 16
 ·rw [au (show (l.length : Int) > 16 by omega)];have : qQ l = 18 := by unfold qQ; rw [if_pos h16]
  unfold qR;rw [this]; rfl
 rw [aA (show ¬ (l.length : Int) > 16 by omega)];have e := lY (f := dW.l0 .lim) (fun k => (decide ((aX (l.take k)).length > 1232), l, (l.length : Int), (k : Int), vZ l k, ())) l.length (fun k : Nat => !decide (fE (rd f0 l (k : Int)) = 0))
  (fun k => if fE (rd f0 l (k : Int)) = 13 then some (.inl (([] : List Int), 13, ())) else some (.inr (.inl (([] : List Int), 10, ())))) (fun k hk => by
  have hm := fH (d := f0) (xs := l) (i := (k : Int)) (by omega) (by omega);have hb := h2 _ hm;rw [dW.q0];generalize hg : rd f0 l (k : Int) = f at hm hb;simp only [dW.b0, au (show (k : Int) < (l.length : Int) by omega), aG (show (0 : Int) <= (k : Int) by omega) (show (k : Int) < (l.length : Int) by omega), cond_true, hg, aF (show f.2.length < 9223372036854775808 by omega), Bool.or_true];unfold fE;by_cases hk1 : f.1 < 0 \/ f.1 >= 65536
  ·rw [if_pos hk1];have : ((decide (f.1 < 0)) || (decide (f.1 >= 65536))) = true := by rcases hk1 with q | q <;> simp only [au q, Bool.true_or, Bool.or_true]
   simp only [this, cond_true];rfl
  ·rw [if_neg hk1];have : ((decide (f.1 < 0)) || (decide (f.1 >= 65536))) = false := by rw [aA (show ¬ f.1 < 0 by omega), aA (show ¬ f.1 >= 65536 by omega)]; rfl
   simp only [this, cond_false];have h3 : fO .i64 (f.2.length : Int) 3 = ((f.2.length % 4 : Nat) : Int) := by rw [aah (by omega) (by omega)]; omega
   by_cases hk2 : f.2.length < 12 \/ f.2.length % 4 ≠ 0
   ·rw [if_pos hk2];have : ((decide ((f.2.length : Int) < 12)) || (!(decide ((fO .i64 (f.2.length : Int) 3) = 0)))) = true := by
     rw [h3];rcases hk2 with q | q
     ·rw [au (show (f.2.length : Int) < 12 by omega)]; rfl
     ·rw [aA (show ¬ ((f.2.length % 4 : Nat) : Int) = 0 by omega)]; simp
    simp only [this, cond_true];rfl
   ·rw [if_neg hk2];have : ((decide ((f.2.length : Int) < 12)) || (!(decide ((fO .i64 (f.2.length : Int) 3) = 0)))) = false := by rw [h3, aA (show ¬ (f.2.length : Int) < 12 by omega), au (show ((f.2.length % 4 : Nat) : Int) = 0 by omega)]; rfl
    simp only [this, cond_false, decide_true, Bool.not_true, cond_false];have es := EH hk;have el : (aX (l.take (k + 1))).length = (aX (l.take k)).length + (4 + f.2.length) := by rw [es, List.length_append, y7, hg]
    have hu : ∀ b : Bool, (bif b then some () else some ()) = some () := fun b => by cases b <;> rfl
    simp only [hu, Option.bind_some, WE];by_cases hlong : (aX (l.take k)).length > 1232
    ·have e1 : decide ((aX (l.take k)).length > 1232) = true := au hlong;have e2 : decide ((aX (l.take (k + 1))).length > 1232) = true := au (show (aX (l.take (k + 1))).length > 1232 by omega);have e3 : vZ l (k + 1) = vZ l k := by rw [vZ, if_pos (show (aX (l.take (k + 1))).length > 1232 by omega)]
     simp only [e1, e2, e3, Bool.true_or, Bool.not_true, cond_false, nX k (by omega)]
    ·have e1 : decide ((aX (l.take k)).length > 1232) = false := aA hlong;have eo := Pz (l := l) k (by omega) (by omega);have ew : IntKind.i64.wrap ((IntKind.i64.wrap (((vZ l k).length : Int) + 4)) + (f.2.length : Int)) = ((aX (l.take (k + 1))).length : Int) := by rw [eo, wrap64 (n := ((aX (l.take k)).length : Int) + 4) (by omega) (by omega), wrap64 (by omega) (by omega)]; omega
     have ed : decide (((aX (l.take (k + 1))).length : Int) > 1232) = decide ((aX (l.take (k + 1))).length > 1232) := by
      by_cases q : (aX (l.take (k + 1))).length > 1232
      ·rw [au q, au (show ((aX (l.take (k + 1))).length : Int) > 1232 by omega)]
      ·rw [aA q, aA (show ¬ ((aX (l.take (k + 1))).length : Int) > 1232 by omega)]
     simp only [e1, ew, ed, Bool.false_or];by_cases hl2 : (aX (l.take (k + 1))).length > 1232
     ·have e2 : decide ((aX (l.take (k + 1))).length > 1232) = true := au hl2;have e3 : vZ l (k + 1) = vZ l k := by rw [vZ, if_pos hl2]
      simp only [e2, e3, Bool.not_true, cond_false, nX k (by omega)]
     ·have e2 : decide ((aX (l.take (k + 1))).length > 1232) = false := aA hl2;have e3 : vZ l (k + 1) = vZ l k ++ BQ f := by rw [vZ, if_neg hl2, hg]
      have e4 : IntKind.i64.wrap ((f.2.length : Int) + 4) = (f.2.length : Int) + 4 := wrap64 (by omega) (by omega);have e5 : GU ((vZ l k).length + (twoS f.1 ++ twoS ((f.2.length : Int) + 4) ++ f.2).length) = some () := by
       have : (twoS f.1 ++ twoS ((f.2.length : Int) + 4) ++ f.2).length = 4 + f.2.length := y7 f;rw [this, eo];unfold GU;rw [Nat.ble_eq_true_of_le (show (aX (l.take k)).length + (4 + f.2.length) <= 140737488355328 by omega)]; rfl
      simp only [e2, e3, e4, Bool.not_false, cond_true, nX k (by omega)];rw [cond_pos (au (by rw [jL, jL]; decide)), cond_pos (au (by rw [List.length_append, jL, jL]; unfold maxStr; omega)), e5];rfl)
 have e0 : dW.l0 .lim (false, l, (l.length : Int), 0, ([] : List Int), ()) = _ := e;rw [e0];unfold qR qQ;rw [if_neg h16];cases hq : (List.range l.length).find? (fun k : Nat => !decide (fE (rd f0 l (k : Int)) = 0)) with
 | some k =>
  have hk := List.find?_some hq;simp only [Bool.not_eq_true', decide_eq_false_iff_not] at hk;simp only;have : fE (rd f0 l (k : Int)) = 13 \/ fE (rd f0 l (k : Int)) = 10 := by
   unfold fE at hk ⊢
   split
   ·exact .inl rfl
   ·split
    ·exact .inr rfl
    ·rename_i q1 q2; rw [if_neg q1, if_neg q2] at hk; exact absurd rfl hk
  rw [if_neg hk];rcases this with q | q
  ·rw [if_pos q, q]; rfl
  ·rw [if_neg (by omega), q]; rfl
 | none =>
  simp only [List.take_length];rw [dW.q0];simp only [dW.b0, aA (show ¬ (l.length : Int) < (l.length : Int) by omega), cond_false, Option.bind_some];by_cases hl : (aX l).length > 1232
  ·rw [au hl, if_pos hl]; rfl
  ·rw [aA hl, if_neg hl, Pz l.length (Nat.le_refl _) (by rw [List.take_length]; omega), List.take_length]; rfl
end Go.AM
end
section
namespace Go.AM
abbrev PK := Int × Int × Int × Int × Int × Int × Int × Int × Int × Int × Int × Int × Int × List FF
abbrev p0 : PK := ((0 : Int), (0, (0, (0, (0, (0, (0, (0, (0, (0, (0, (0, (0, ([] : List FF))))))))))))))
abbrev PK.fs (p : PK) : List FF := p.2.2.2.2.2.2.2.2.2.2.2.2.2
abbrev PK.cut (p : PK) (l : List FF) : PK := (p.1, p.2.1, p.2.2.1, p.2.2.2.1, p.2.2.2.2.1, p.2.2.2.2.2.1, p.2.2.2.2.2.2.1, p.2.2.2.2.2.2.2.1, p.2.2.2.2.2.2.2.2.1, p.2.2.2.2.2.2.2.2.2.1, p.2.2.2.2.2.2.2.2.2.2.1, p.2.2.2.2.2.2.2.2.2.2.2.1, p.2.2.2.2.2.2.2.2.2.2.2.2.1, l)
def PD (n low high : Int) : Bool := decide (low <= n) && decide (n <= high)
def QU (p : PK) : Bool := PD p.1 0 3 && PD p.2.1 0 7 && PD p.2.2.1 0 7 && PD p.2.2.2.1 0 255 && PD p.2.2.2.2.1 (-128) 127 && PD p.2.2.2.2.2.1 (-128) 127
def tu (n : Int) (k : Nat) : Int := IntKind.u8.wrap (iI .u64 n (k : Int))
def Y8 (n : Int) : List Int := [tu n 24, tu n 16, tu n 8, tu n 0]
def by8 (n : Int) : List Int := [tu n 56, tu n 48, tu n 40, tu n 32, tu n 24, tu n 16, tu n 8, tu n 0]
def b0S (a b c : Int) : Int := IntKind.u8.wrap (nM .i64 (nM .i64 (eP .i64 a 6) (eP .i64 b 3)) c)
def RG (p : PK) : List Int := [b0S p.1 p.2.1 p.2.2.1, IntKind.u8.wrap p.2.2.2.1, IntKind.u8.wrap p.2.2.2.2.1, IntKind.u8.wrap p.2.2.2.2.2.1] ++
 (Y8 (IntKind.u64.wrap p.2.2.2.2.2.2.1) ++ (Y8 (IntKind.u64.wrap p.2.2.2.2.2.2.2.1) ++ (Y8 (IntKind.u64.wrap p.2.2.2.2.2.2.2.2.1) ++ (by8 p.2.2.2.2.2.2.2.2.2.1 ++ (by8 p.2.2.2.2.2.2.2.2.2.2.1 ++ (by8 p.2.2.2.2.2.2.2.2.2.2.2.1 ++ by8 p.2.2.2.2.2.2.2.2.2.2.2.2.1))))))
theorem Ji (p : PK) : (RG p).length = 48 := rfl
def LM (p : PK) : Int := if QU p = true then qQ p.fs else 13
def Hf (p : PK) : List Int := if LM p = 0 then RG p ++ aX p.fs else []
def ig (m : List Int) (bp : Nat) (g : Nat -> Int) : Nat -> List Int
 | 0 => m
 | i + 1 => (ig m bp g i).set (bp + i) (g i)
theorem kY (m : List Int) (bp : Nat) (g : Nat -> Int) : ∀ i, (ig m bp g i).length = m.length
 | 0 => rfl
 | i + 1 => by rw [ig, List.length_set, kY m bp g i]
theorem w_l0 {bp bq : Nat} (hb : bp <= 48) (hq : bq <= 8) (hq0 : 1 <= bq) (n : Int) (f : List Int) (t : List Int) (t3 : Int) (m : List Int) (m1 m2 m3 m4 m5 m6 m7 m8 m9 m10 m11 m12 m13 : Int) (m14 : List FF) :
  aK.l0 .lim ((bp : Int), (bq : Int), n, (bq : Int), 0, f, t, t3, m, m1, m2, m3, m4, m5, m6, m7, m8, m9, m10, m11, m12, m13, m14, ()) =
   some (f, t, t3, m1, m2, m3, m4, m5, m6, m7, m8, m9, m10, m11, m12, m13, m14, ig m bp (fun i => tu n (8 * (bq - 1 - i))) bq, ()) := by
 have e := dS (f := aK.l0 .lim) (fun i => ((bp : Int), (bq : Int), n, (bq : Int), (i : Int), f, t, t3, ig m bp (fun i => tu n (8 * (bq - 1 - i))) i, m1, m2, m3, m4, m5, m6, m7, m8, m9, m10, m11, m12, m13, m14, ())) (n := bq) (fun i hi => by
  rw [aK.q0];have w1 : IntKind.i64.wrap (8 * (IntKind.i64.wrap ((IntKind.i64.wrap ((bq : Int) - 1)) - (i : Int)))) = ((8 * (bq - 1 - i) : Nat) : Int) := by rw [wrap64 (n := (bq : Int) - 1) (by omega) (by omega), wrap64 (n := (bq : Int) - 1 - (i : Int)) (by omega) (by omega), wrap64 (by omega) (by omega)]; omega
  have w2 : ((bp : Int) + (i : Int)).toNat = bp + i := by omega
  simp only [aK.b0, au (show (i : Int) < (bq : Int) by omega), aF (show bq < 9223372036854775808 by omega), w1, au (show (0 : Int) <= ((8 * (bq - 1 - i) : Nat) : Int) by omega), aG (show (0 : Int) <= (i : Int) by omega) (show (i : Int) < (bq : Int) by omega), cond_true, nX i (by omega), w2];rfl)
 have e0 : aK.l0 .lim ((bp : Int), (bq : Int), n, (bq : Int), 0, f, t, t3, m, m1, m2, m3, m4, m5, m6, m7, m8, m9, m10, m11, m12, m13, m14, ()) = _ := e;rw [e0, aK.q0];simp only [aK.b0, aA (show ¬ (bq : Int) < (bq : Int) by omega), cond_false]
theorem w_l2 {bp bq : Nat} (hb : bp <= 48) (hq : bq <= 8) (hq0 : 1 <= bq) (n : Int) (f : List Int) (t : List Int) (t3 : Int) (m : List Int) :
  aK.l2 .lim ((bp : Int), (bq : Int), n, (bq : Int), 0, f, t, t3, m, ()) = some (f, t, t3, ig m bp (fun i => tu n (8 * (bq - 1 - i))) bq, ()) := by
 have e := dS (f := aK.l2 .lim) (fun i => ((bp : Int), (bq : Int), n, (bq : Int), (i : Int), f, t, t3, ig m bp (fun i => tu n (8 * (bq - 1 - i))) i, ())) (n := bq) (fun i hi => by
  rw [aK.q2];have w1 : IntKind.i64.wrap (8 * (IntKind.i64.wrap ((IntKind.i64.wrap ((bq : Int) - 1)) - (i : Int)))) = ((8 * (bq - 1 - i) : Nat) : Int) := by rw [wrap64 (n := (bq : Int) - 1) (by omega) (by omega), wrap64 (n := (bq : Int) - 1 - (i : Int)) (by omega) (by omega), wrap64 (by omega) (by omega)]; omega
  have w2 : ((bp : Int) + (i : Int)).toNat = bp + i := by omega
  simp only [aK.b2, au (show (i : Int) < (bq : Int) by omega), aF (show bq < 9223372036854775808 by omega), w1, au (show (0 : Int) <= ((8 * (bq - 1 - i) : Nat) : Int) by omega), aG (show (0 : Int) <= (i : Int) by omega) (show (i : Int) < (bq : Int) by omega), cond_true, nX i (by omega), w2];rfl)
 have e0 : aK.l2 .lim ((bp : Int), (bq : Int), n, (bq : Int), 0, f, t, t3, m, ()) = _ := e;rw [e0, aK.q2];simp only [aK.b2, aA (show ¬ (bq : Int) < (bq : Int) by omega), cond_false]
theorem WG (n low high : Int) : jR.run .lim (n, low, high, ()) = some (PD n low high) := rfl
theorem w_l1 (f a : List Int) (x0 x1 x2 : Int) (ha : a = [x0, x1, x2]) (m : List Int) (m1 m2 m3 m4 m5 m6 m7 m8 m9 m10 m11 m12 m13 : Int) (m14 : List FF) :
  aK.l1 .lim (f, a, 0, m1, m2, m3, m4, m5, m6, m7, m8, m9, m10, m11, m12, m13, m14, m, ()) =
   some (f, m1, m2, m3, m4, m5, m6, m7, m8, m9, m10, m11, m12, m13, m14,
    ig (ig (ig m 4 (fun i => tu (IntKind.u64.wrap x0) (8 * (4 - 1 - i))) 4) 8 (fun i => tu (IntKind.u64.wrap x1) (8 * (4 - 1 - i))) 4) 12 (fun i => tu (IntKind.u64.wrap x2) (8 * (4 - 1 - i))) 4, ()) := by
 subst ha;have step : ∀ (k : Nat) (hk : k < 3) (x : Int) (_ : rd 0 [x0, x1, x2] (k : Int) = x) (q : List Int), aK.l1 .lim (f, [x0, x1, x2], (k : Int), m1, m2, m3, m4, m5, m6, m7, m8, m9, m10, m11, m12, m13, m14, q, ()) =
   aK.l1 .lim (f, [x0, x1, x2], ((k + 1 : Nat) : Int), m1, m2, m3, m4, m5, m6, m7, m8, m9, m10, m11, m12, m13, m14, ig q (4 + 4 * k) (fun i => tu (IntKind.u64.wrap x) (8 * (4 - 1 - i))) 4, ()) := by
  intro k hk x hx q;rw [aK.q1];have w1 : IntKind.i64.wrap (4 + IntKind.i64.wrap (4 * (k : Int))) = ((4 + 4 * k : Nat) : Int) := by rw [wrap64 (n := 4 * (k : Int)) (by omega) (by omega), wrap64 (by omega) (by omega)]; omega
  have w2 : IntKind.i64.wrap (8 + IntKind.i64.wrap (4 * (k : Int))) = ((8 + 4 * k : Nat) : Int) := by rw [wrap64 (n := 4 * (k : Int)) (by omega) (by omega), wrap64 (by omega) (by omega)]; omega
  have w3 : ((8 + 4 * k : Nat) : Int) - ((4 + 4 * k : Nat) : Int) = ((4 : Nat) : Int) := by omega
  have h := w_l0 (bp := 4 + 4 * k) (bq := 4) (by omega) (by omega) (by omega) (IntKind.u64.wrap x) f [x0, x1, x2] (k : Int) q m1 m2 m3 m4 m5 m6 m7 m8 m9 m10 m11 m12 m13 m14;simp only [aK.b1, au (show (k : Int) < 3 by omega), aG (show (0 : Int) <= (k : Int) by omega) (show (k : Int) < 3 by omega), w1, w2, w3, aT (show (0 : Int) <= ((4 + 4 * k : Nat) : Int) by omega) (show ((4 + 4 * k : Nat) : Int) <= ((8 + 4 * k : Nat) : Int) by omega) (show ((8 + 4 * k : Nat) : Int) <= 48 by omega), aF (show 4 < 9223372036854775808 by decide), cond_true, hx, h, Option.bind_some, nX k (by omega)]
 have s0 := step 0 (by decide) x0 rfl m;have s1 := step 1 (by decide) x1 rfl (ig m 4 (fun i => tu (IntKind.u64.wrap x0) (8 * (4 - 1 - i))) 4);have s2 := step 2 (by decide) x2 rfl (ig (ig m 4 (fun i => tu (IntKind.u64.wrap x0) (8 * (4 - 1 - i))) 4) 8 (fun i => tu (IntKind.u64.wrap x1) (8 * (4 - 1 - i))) 4);refine (s0.trans (s1.trans s2)).trans ?_;rw [aK.q1];simp only [aK.b1, aA (show ¬ ((2 + 1 : Nat) : Int) < 3 by decide), cond_false]
theorem w_l3 (f a : List Int) (x0 x1 x2 x3 : Int) (ha : a = [x0, x1, x2, x3]) (m : List Int) :
  aK.l3 .lim (f, a, 0, m, ()) =
   some (f, ig (ig (ig (ig m 16 (fun i => tu x0 (8 * (8 - 1 - i))) 8) 24 (fun i => tu x1 (8 * (8 - 1 - i))) 8) 32 (fun i => tu x2 (8 * (8 - 1 - i))) 8) 40 (fun i => tu x3 (8 * (8 - 1 - i))) 8, ()) := by
 subst ha;have step : ∀ (k : Nat) (hk : k < 4) (x : Int) (_ : rd 0 [x0, x1, x2, x3] (k : Int) = x) (q : List Int), aK.l3 .lim (f, [x0, x1, x2, x3], (k : Int), q, ()) =
   aK.l3 .lim (f, [x0, x1, x2, x3], ((k + 1 : Nat) : Int), ig q (16 + 8 * k) (fun i => tu x (8 * (8 - 1 - i))) 8, ()) := by
  intro k hk x hx q;rw [aK.q3];have w1 : IntKind.i64.wrap (16 + IntKind.i64.wrap (8 * (k : Int))) = ((16 + 8 * k : Nat) : Int) := by rw [wrap64 (n := 8 * (k : Int)) (by omega) (by omega), wrap64 (by omega) (by omega)]; omega
  have w2 : IntKind.i64.wrap (24 + IntKind.i64.wrap (8 * (k : Int))) = ((24 + 8 * k : Nat) : Int) := by rw [wrap64 (n := 8 * (k : Int)) (by omega) (by omega), wrap64 (by omega) (by omega)]; omega
  have w3 : ((24 + 8 * k : Nat) : Int) - ((16 + 8 * k : Nat) : Int) = ((8 : Nat) : Int) := by omega
  have h := w_l2 (bp := 16 + 8 * k) (bq := 8) (by omega) (by omega) (by omega) x f [x0, x1, x2, x3] (k : Int) q;simp only [aK.b3, au (show (k : Int) < 4 by omega), aG (show (0 : Int) <= (k : Int) by omega) (show (k : Int) < 4 by omega), w1, w2, w3, aT (show (0 : Int) <= ((16 + 8 * k : Nat) : Int) by omega) (show ((16 + 8 * k : Nat) : Int) <= ((24 + 8 * k : Nat) : Int) by omega) (show ((24 + 8 * k : Nat) : Int) <= 48 by omega), aF (show 8 < 9223372036854775808 by decide), cond_true, hx, h, Option.bind_some, nX k (by omega)]
 have s0 := step 0 (by decide) x0 rfl m;have s1 := step 1 (by decide) x1 rfl (ig m 16 (fun i => tu x0 (8 * (8 - 1 - i))) 8);have s2 := step 2 (by decide) x2 rfl (ig (ig m 16 (fun i => tu x0 (8 * (8 - 1 - i))) 8) 24 (fun i => tu x1 (8 * (8 - 1 - i))) 8);have s3 := step 3 (by decide) x3 rfl (ig (ig (ig m 16 (fun i => tu x0 (8 * (8 - 1 - i))) 8) 24 (fun i => tu x1 (8 * (8 - 1 - i))) 8) 32 (fun i => tu x2 (8 * (8 - 1 - i))) 8);refine (s0.trans (s1.trans (s2.trans s3))).trans ?_;rw [aK.q3];simp only [aK.b3, aA (show ¬ ((3 + 1 : Nat) : Int) < 4 by decide), cond_false]
theorem y8 {l : List FF} : (qR l).length <= 1232 := by
 unfold qR;split
 ·rename_i h;unfold qQ at h;split at h
  ·cases h
  ·split at h
   ·rename_i k hq;have hk := List.find?_some hq;simp only [Bool.not_eq_true', decide_eq_false_iff_not] at hk;exact absurd h hk
   ·split at h
    ·cases h
    ·omega
 ·simp
theorem Um (x0 x1 x2 x3 : Int) (a b c d e f g : Nat -> Int) :
  ((ig (ig (ig (ig (ig (ig (ig (((((List.replicate 48 (0 : Int)).set 0 x0).set 1 x1).set 2 x2).set 3 x3) 4 a 4) 8 b 4) 12 c 4) 16 d 8) 24 e 8) 32 f 8) 40 g 8).drop 0).take 48 =
   [x0, x1, x2, x3] ++ ([a 0, a 1, a 2, a 3] ++ ([b 0, b 1, b 2, b 3] ++ ([c 0, c 1, c 2, c 3] ++ ([d 0, d 1, d 2, d 3, d 4, d 5, d 6, d 7] ++ ([e 0, e 1, e 2, e 3, e 4, e 5, e 6, e 7] ++ ([f 0, f 1, f 2, f 3, f 4, f 5, f 6, f 7] ++ [g 0, g 1, g 2, g 3, g 4, g 5, g 6, g 7])))))) := by kernel_rfl
theorem EI {p : PK} (hl : FL p.fs) : aK.run .lim (p, ()) = some (Hf p, LM p, ()) := by
 obtain ⟨a, b, c, d, e, g, r1, r2, r3, q1, q2, q3, q4, l⟩ := p;simp only [aK.run, WG, Option.bind_some];unfold Hf LM QU;generalize PD a 0 3 = c1;generalize PD b 0 7 = c2;generalize PD c 0 7 = c3;generalize PD d 0 255 = c4;generalize PD e (-128) 127 = c5;generalize PD g (-128) 127 = c6;cases c1
 ·rfl
 cases c2
 ·rfl
 cases c3
 ·rfl
 cases c4
 ·rfl
 cases c5
 ·rfl
 cases c6
 ·rfl
 simp only [Bool.not_true, Bool.not_false, cond_true, cond_false, Option.bind_some, Bool.or_self, Bool.and_self, if_true];rw [He hl];simp only [Option.bind_some];have hfl : (qR (PK.fs (a, b, c, d, e, g, r1, r2, r3, q1, q2, q3, q4, l))).length <= 1232 := y8;show (bif !decide (qQ l = 0) then some (([] : List Int), qQ l, ()) else _) = some (if qQ l = 0 then _ else [], qQ l, ());by_cases h0 : qQ l = 0
 ·rw [au h0, if_pos h0];simp only [Bool.not_true, cond_false];rw [w_l1 _ ((((List.replicate 3 (0 : Int)).set 0 r1).set 1 r2).set 2 r3) r1 r2 r3 rfl];simp only [Option.bind_some];rw [w_l3 _ (((((List.replicate 4 (0 : Int)).set 0 q1).set 1 q2).set 2 q3).set 3 q4) q1 q2 q3 q4 rfl];simp only [Option.bind_some];have hf : qR l = aX l := by unfold qR; rw [if_pos h0]
  rw [cond_pos (au (show _ <= maxStr by rw [List.length_take, List.drop_zero, kY, kY, kY, kY, kY, kY, kY]; simp only [List.length_set, List.length_replicate]; unfold maxStr; omega)), h0, Um];have hf : qR (PK.fs (a, b, c, d, e, g, r1, r2, r3, q1, q2, q3, q4, l)) = aX (PK.fs (a, b, c, d, e, g, r1, r2, r3, q1, q2, q3, q4, l)) := hf;rw [hf];rfl
 ·rw [aA h0, if_neg h0]; rfl
end Go.AM
end
section
namespace Go.AM
def sg (c : Int) : Int := if c > 127 then c - 256 else c
def WH (s : List Int) (fs : List FF) : PK := (rd 0 s 0 / 64, rd 0 s 0 / 8 % 8, rd 0 s 0 % 8, rd 0 s 1, sg (rd 0 s 2), sg (rd 0 s 3), fJ ((s.take 8).drop 4), fJ ((s.take 12).drop 8), fJ ((s.take 16).drop 12),
 fJ ((s.take 24).drop 16), fJ ((s.take 32).drop 24), fJ ((s.take 40).drop 32), fJ ((s.take 48).drop 40), fs)
def NI (s : List Int) : Int := if s.length < 48 then 11 else if s.length > 1280 then 12 else (EG (s.drop 48).length (s.drop 48) []).2
def iy (s : List Int) : PK := if NI s = 0 then WH s (EG (s.drop 48).length (s.drop 48) []).1 else p0
theorem by_a {c : Int} (h : B8 c) : IntKind.i64.wrap (iI .u8 c 6) = c / 64 := gB (p := fun c => IntKind.i64.wrap (iI .u8 c 6) = c / 64) (by decide +kernel) h
theorem by_b {c : Int} (h : B8 c) : IntKind.i64.wrap (fO .u8 (iI .u8 c 3) 7) = c / 8 % 8 := gB (p := fun c => IntKind.i64.wrap (fO .u8 (iI .u8 c 3) 7) = c / 8 % 8) (by decide +kernel) h
theorem by_c {c : Int} (h : B8 c) : IntKind.i64.wrap (fO .u8 c 7) = c % 8 := gB (p := fun c => IntKind.i64.wrap (fO .u8 c 7) = c % 8) (by decide +kernel) h
theorem by_d {c : Int} (h : B8 c) : IntKind.i64.wrap c = c := gB (p := fun c => IntKind.i64.wrap c = c) (by decide +kernel) h
theorem aaj {c : Int} (h : B8 c) : IntKind.i64.wrap (IntKind.i8.wrap c) = sg c := gB (p := fun c => IntKind.i64.wrap (IntKind.i8.wrap c) = sg c) (by decide +kernel) h
theorem aak {t : List Int} (hb : Bs t) (hl : t.length = 4) : IntKind.u32.wrap (fJ t) = fJ t /\ Y8 (IntKind.u64.wrap (fJ t)) = t := by
 have hv := CS hb 4 (by omega);rw [List.take_of_length_le (by omega)] at hv;refine ⟨by rw [Wy]; omega, ?_⟩;rw [show IntKind.u64.wrap (fJ t) = fJ t by rw [CQ]; omega]
 match t, hl with
 | [a, b, c, d], _ =>
  have h1 := hb a (by simp); have h2 := hb b (by simp); have h3 := hb c (by simp); have h4 := hb d (by simp);have e : fJ [a, b, c, d] = ((a * 256 + b) * 256 + c) * 256 + d := by simp [fJ]
  have s1 := jV (fJ [a, b, c, d]) 0 24 .u64 (by decide);have s2 := jV (fJ [a, b, c, d]) 0 16 .u64 (by decide);have s3 := jV (fJ [a, b, c, d]) 0 8 .u64 (by decide);have s4 := jV (fJ [a, b, c, d]) 0 0 .u64 (by decide);unfold Y8 tu;simp only [s1, s2, s3, s4];simp only [oL, e];congr 1
  ·omega
  congr 1
  ·omega
  congr 1
  ·omega
  congr 1;omega
theorem val8 {t : List Int} (hb : Bs t) (hl : t.length = 8) : by8 (fJ t) = t := by
 match t, hl with
 | [a, b, c, d, a', b', c', d'], _ =>
  have h1 := hb a (by simp); have h2 := hb b (by simp); have h3 := hb c (by simp); have h4 := hb d (by simp);have h5 := hb a' (by simp); have h6 := hb b' (by simp); have h7 := hb c' (by simp); have h8 := hb d' (by simp);have e : fJ [a, b, c, d, a', b', c', d'] = ((((((a * 256 + b) * 256 + c) * 256 + d) * 256 + a') * 256 + b') * 256 + c') * 256 + d' := by simp [fJ]
  have s1 := jV (fJ [a, b, c, d, a', b', c', d']) 0 56 .u64 (by decide);have s2 := jV (fJ [a, b, c, d, a', b', c', d']) 0 48 .u64 (by decide);have s3 := jV (fJ [a, b, c, d, a', b', c', d']) 0 40 .u64 (by decide);have s4 := jV (fJ [a, b, c, d, a', b', c', d']) 0 32 .u64 (by decide);have s5 := jV (fJ [a, b, c, d, a', b', c', d']) 0 24 .u64 (by decide);have s6 := jV (fJ [a, b, c, d, a', b', c', d']) 0 16 .u64 (by decide);have s7 := jV (fJ [a, b, c, d, a', b', c', d']) 0 8 .u64 (by decide);have s8 := jV (fJ [a, b, c, d, a', b', c', d']) 0 0 .u64 (by decide);unfold by8 tu;simp only [s1, s2, s3, s4, s5, s6, s7, s8];simp only [oL, e];congr 1
  ·omega
  congr 1
  ·omega
  congr 1
  ·omega
  congr 1
  ·omega
  congr 1
  ·omega
  congr 1
  ·omega
  congr 1
  ·omega
  congr 1;omega
theorem CU {s : List Int} {a b : Nat} (h : b <= s.length) : ((s.take b).drop a).length = b - a := by rw [List.length_drop, List.length_take, Nat.min_eq_left h]
theorem PE {s : List Int} (hs : Bs s) (hl : s.length < 9223372036854775808) : lZ.run .lim (s, ()) = some (iy s, NI s, ()) := by
 simp only [lZ.run, aF hl, cond_true];unfold iy NI;by_cases h1 : s.length < 48
 ·rw [au (show (s.length : Int) < 48 by omega), if_pos h1]; rfl
 rw [aA (show ¬ (s.length : Int) < 48 by omega), if_neg h1];by_cases h2 : s.length > 1280
 ·rw [au (show (s.length : Int) > 1280 by omega), if_pos h2]; rfl
 rw [aA (show ¬ (s.length : Int) > 1280 by omega), if_neg h2];have hc : cut s 48 (s.length : Int) = s.drop 48 := vT (a := 48) rfl;simp only [cond_false, aT (show (0 : Int) <= 48 by omega) (show (48 : Int) <= (s.length : Int) by omega) (Int.le_refl _), cond_true, hc, XH (hs.drop 48) (show (s.drop 48).length < 9223372036854775808 by rw [List.length_drop]; omega), Option.bind_some];generalize EG (s.drop 48).length (s.drop 48) [] = r;obtain ⟨fs, e⟩ := r;simp only;by_cases h0 : e = 0
 ·rw [au h0, if_pos h0];have rb : ∀ k : Nat, k < 48 -> B8 (rd 0 s (k : Int)) := fun k hk => hs _ (fH (by omega) (by omega))
  have r0 := rb 0 (by decide); have r1 := rb 1 (by decide); have r2 := rb 2 (by decide); have r3 := rb 3 (by decide);have v : ∀ a b : Nat, a <= b -> b <= 48 -> b - a <= 8 -> bV.run .lim ((s.take b).drop a, ()) = some (fJ ((s.take b).drop a)) := fun a b _ hb hq => EF ((hs.take b).drop a) (by rw [CU (by omega)]; omega)
  have u : ∀ a b : Nat, b = a + 4 -> b <= 48 -> IntKind.u32.wrap (fJ ((s.take b).drop a)) = fJ ((s.take b).drop a) := fun a b h hb => (aak ((hs.take b).drop a) (by rw [CU (by omega)]; omega)).1
  have c1 : cut s 4 8 = (s.take 8).drop 4 := qB rfl rfl;have c2 : cut s 8 12 = (s.take 12).drop 8 := qB rfl rfl;have c3 : cut s 12 16 = (s.take 16).drop 12 := qB rfl rfl;have c4 : cut s 16 24 = (s.take 24).drop 16 := qB rfl rfl;have c5 : cut s 24 32 = (s.take 32).drop 24 := qB rfl rfl;have c6 : cut s 32 40 = (s.take 40).drop 32 := qB rfl rfl;have c7 : cut s 40 48 = (s.take 48).drop 40 := qB rfl rfl;have k : ∀ a b : Int, 0 <= a -> a <= b -> b <= 48 -> dR a b (s.length : Int) = true := fun a b x y z => aT x y (by omega)
  have i : ∀ a : Int, 0 <= a -> a < 48 -> inB a (s.length : Int) = true := fun a x y => aG x (by omega)
  simp only [Bool.not_true, cond_false, i 0 (by decide) (by decide), i 1 (by decide) (by decide), i 2 (by decide) (by decide), i 3 (by decide) (by decide), cond_true, k 4 8 (by decide) (by decide) (by decide), k 8 12 (by decide) (by decide) (by decide), k 12 16 (by decide) (by decide) (by decide), k 16 24 (by decide) (by decide) (by decide), k 24 32 (by decide) (by decide) (by decide), k 32 40 (by decide) (by decide) (by decide), k 40 48 (by decide) (by decide) (by decide),
   c1, c2, c3, c4, c5, c6, c7, v 4 8 (by decide) (by decide) (by decide), v 8 12 (by decide) (by decide) (by decide), v 12 16 (by decide) (by decide) (by decide), v 16 24 (by decide) (by decide) (by decide), v 24 32 (by decide) (by decide) (by decide), v 32 40 (by decide) (by decide) (by decide), v 40 48 (by decide) (by decide) (by decide), Option.bind_some, u 4 8 rfl (by decide), u 8 12 rfl (by decide), u 12 16 rfl (by decide)]
  have q0 : B8 (rd 0 s 0) := r0;have q1 : B8 (rd 0 s 1) := r1;have q2 : B8 (rd 0 s 2) := r2;have q3 : B8 (rd 0 s 3) := r3;simp only [by_a q0, by_b q0, by_c q0, by_d q1, aaj q2, aaj q3, h0];rfl
 ·rw [aA h0, if_neg h0]; rfl
theorem by_g {c : Int} (h : B8 c) : b0S (c / 64) (c / 8 % 8) (c % 8) = c := gB (p := fun c => b0S (c / 64) (c / 8 % 8) (c % 8) = c) (by decide +kernel) h
theorem aal {c : Int} (h : B8 c) : IntKind.u8.wrap (sg c) = c := gB (p := fun c => IntKind.u8.wrap (sg c) = c) (by decide +kernel) h
theorem glue {s : List Int} {a b c : Nat} (h1 : a <= b) (h2 : b <= c) : (s.take b).drop a ++ (s.take c).drop b = (s.take c).drop a := by
 have e : s.take b = (s.take c).take b := by rw [List.take_take, Nat.min_eq_left h2]
 have e2 : (s.take c).drop b = ((s.take c).drop a).drop (b - a) := by rw [List.drop_drop]; congr 1; omega
 have e3 : ((s.take c).take b).drop a = ((s.take c).drop a).take (b - a) := by rw [List.drop_take]
 rw [e, e2, e3, List.take_append_drop]
theorem WI {s : List Int} (hs : Bs s) (hl : 48 <= s.length) (fs : List FF) : RG (WH s fs) = s.take 48 /\ QU (WH s fs) = true := by
 have rb : ∀ k : Nat, k < 48 -> B8 (rd 0 s (k : Int)) := fun k hk => hs _ (fH (by omega) (by omega))
 have q0 : B8 (rd 0 s 0) := rb 0 (by decide);have q1 : B8 (rd 0 s 1) := rb 1 (by decide);have q2 : B8 (rd 0 s 2) := rb 2 (by decide);have q3 : B8 (rd 0 s 3) := rb 3 (by decide);constructor
 ·have u : ∀ a b : Nat, b = a + 4 -> b <= 48 -> Y8 (IntKind.u64.wrap (fJ ((s.take b).drop a))) = (s.take b).drop a := fun a b h hb => (aak ((hs.take b).drop a) (by rw [CU (by omega)]; omega)).2
  have v : ∀ a b : Nat, b = a + 8 -> b <= 48 -> by8 (fJ ((s.take b).drop a)) = (s.take b).drop a := fun a b h hb => val8 ((hs.take b).drop a) (by rw [CU (by omega)]; omega)
  have h4 := list4 (t := s.take 4) (by rw [List.length_take]; omega);have t0 : rd 0 (s.take 4) 0 = rd 0 s 0 := nR (k := 0) (n := 4) (by decide);have t1 : rd 0 (s.take 4) 1 = rd 0 s 1 := nR (k := 1) (n := 4) (by decide);have t2 : rd 0 (s.take 4) 2 = rd 0 s 2 := nR (k := 2) (n := 4) (by decide);have t3 : rd 0 (s.take 4) 3 = rd 0 s 3 := nR (k := 3) (n := 4) (by decide);rw [t0, t1, t2, t3] at h4;unfold RG WH;simp only [by_g q0, nV q1, aal q2, aal q3, u 4 8 rfl (by decide), u 8 12 rfl (by decide), u 12 16 rfl (by decide), v 16 24 rfl (by decide), v 24 32 rfl (by decide), v 32 40 rfl (by decide), v 40 48 rfl (by decide)];rw [<- h4, glue (by decide) (by decide), glue (by decide) (by decide), glue (by decide) (by decide), glue (by decide) (by decide), glue (by decide) (by decide), glue (by decide) (by decide)];have := glue (s := s) (a := 0) (b := 4) (c := 48) (by decide) (by decide);simpa using this
 ·unfold QU WH PD sg;simp only [Bool.and_eq_true, decide_eq_true_eq];refine ⟨⟨⟨⟨⟨?_, ?_⟩, ?_⟩, ?_⟩, ?_⟩, ?_⟩
  ·omega
  ·omega
  ·omega
  ·omega
  ·split <;> omega
  ·split <;> omega
structure Was (s : List Int) : Prop where
 l0 : 48 <= s.length
 l1 : s.length <= 1280
 eq : iy s = WH s (iy s).fs
 st : s = s.take 48 ++ aX (iy s).fs
 ok : ∀ f ∈ (iy s).fs, Vg f
 few : (iy s).fs.length <= 16
theorem was {s : List Int} (hs : Bs s) (h : NI s = 0) : Was s := by
 have h1 : 48 <= s.length := by
  unfold NI at h;split at h
  ·cases h
  ·omega
 have h2 : s.length <= 1280 := by
  unfold NI at h;rw [if_neg (by omega)] at h;split at h
  ·cases h
  ·omega
 have h3 : (EG (s.drop 48).length (s.drop 48) []).2 = 0 := by
  unfold NI at h
  rwa [if_neg (by omega), if_neg (by omega)] at h
 obtain ⟨l, k1, k2, k3, k4⟩ := Py _ _ [] (Nat.le_refl _) (hs.drop 48) h3;have hr : iy s = WH s l := by unfold iy; rw [if_pos h, k1]; rfl
 have hf : (iy s).fs = l := by rw [hr]; rfl
 refine ⟨h1, h2, by rw [hf, hr], by rw [hf, <- k2, List.take_append_drop], by rw [hf]; exact k3, by rw [hf]; simpa using k4 (by simp)⟩
theorem NJ {s : List Int} (hs : Bs s) (h : NI s = 0) (k : Nat) : aK.run .lim (PK.cut (iy s) ((iy s).fs.take k), ()) = some (s.take (48 + (aX ((iy s).fs.take k)).length), 0, ()) := by
 have w := was hs h;have hle := K_ (iy s).fs k;have hsl : s.length = 48 + (aX (iy s).fs).length := by
  have := congrArg List.length w.st;rw [List.length_append, List.length_take, Nat.min_eq_left w.l0] at this;exact this
 have hok : ∀ f ∈ (iy s).fs.take k, Vg f := fun f hf => w.ok f (List.mem_of_mem_take hf)
 have hfl : FL (PK.fs (PK.cut (iy s) ((iy s).fs.take k))) := by
  refine ⟨?_, fun f hf => ?_⟩
  ·show ((iy s).fs.take k).length < _;have := w.few;rw [List.length_take]; omega
  ·have := (hok f hf).l1; omega
 rw [EI hfl];have hb := WI hs w.l0 ((iy s).fs.take k);have hc : PK.cut (iy s) ((iy s).fs.take k) = WH s ((iy s).fs.take k) := by
  conv => lhs; rw [show PK.cut (iy s) ((iy s).fs.take k) = PK.cut (WH s (iy s).fs) ((iy s).fs.take k) by rw [<- w.eq]]
  rfl
 have he : LM (PK.cut (iy s) ((iy s).fs.take k)) = 0 := by
  unfold LM;rw [hc, if_pos hb.2];show qQ ((iy s).fs.take k) = 0;exact Jh hok (by have := w.few; rw [List.length_take]; omega) (by have := w.l1; omega)
 have hs2 : Hf (PK.cut (iy s) ((iy s).fs.take k)) = s.take (48 + (aX ((iy s).fs.take k)).length) := by
  unfold Hf;rw [if_pos he, hc, hb.1];show s.take 48 ++ aX ((iy s).fs.take k) = _;have e1 : aX (iy s).fs = aX ((iy s).fs.take k) ++ aX ((iy s).fs.drop k) := by rw [<- Ac, List.take_append_drop]
  have e2 : s = (s.take 48 ++ aX ((iy s).fs.take k)) ++ aX ((iy s).fs.drop k) := by rw [List.append_assoc, <- e1]; exact w.st
  have e3 : (s.take 48 ++ aX ((iy s).fs.take k)).length = 48 + (aX ((iy s).fs.take k)).length := by rw [List.length_append, List.length_take, Nat.min_eq_left w.l0]
  rw [<- e3];generalize aX ((iy s).fs.take k) = x at e2;generalize aX ((iy s).fs.drop k) = y at e2;generalize s.take 48 = z at e2;rw [e2, List.take_left]
 rw [he, hs2]
end Go.AM
end
section
namespace Go.AM
abbrev KK := List Int × List (List Int) × List Int × List Int
abbrev k0 : KK := ([], [], [], [])
theorem wk (k : Nat) (h : (k : Int) + 1 < 9223372036854775808) : IntKind.i64.wrap ((k : Int) + 1) = ((k + 1 : Nat) : Int) := by rw [wrap64 (by omega) (by omega)]; omega
theorem La (a b : List (List Int)) (ha : a.length < 9223372036854775808) (hb : b.length < 9223372036854775808) : aN.run .lim (a, b, ()) = some (decide (a = b)) := by
 simp only [aN.run, aF ha, aF hb, cond_true];by_cases hl : a.length = b.length
 ·have e := lD (f := aN.l0 .lim) (fun k => (a, b, (a.length : Int), (k : Int), ())) a.length (fun k => !decide (rd ([] : List Int) a k = rd ([] : List Int) b k)) (some (.inl (false, ()))) (fun k hk => by
   rw [aN.q0];have w := wk k (by omega);simp (disch := omega) only [aO, aG, aT, wrap64, au, aA, dec_not, dec_and, dU, bP, cond_true, cond_false, Option.bind_some, Option.bind_none, Bool.or_true, Bool.true_or, Bool.and_true, Bool.true_and, Bool.and_false, Bool.false_and, Bool.or_false, Bool.false_or, Bool.not_true, Bool.not_false, Bool.or_self, Bool.and_self, Bool.not_not, if_true, if_false, and_self, true_and, and_true, and_false, false_and, or_true, true_or, or_false, false_or, not_true_eq_false, not_false_eq_true, decide_true, decide_false, eq_self, if_pos, if_neg, gQ, fG, aN.b0, w])
  rw [Jc hl] at e;rw [cond_neg (by simp (disch := omega) only [aO, aG, aT, wrap64, au, aA, dec_not, dec_and, dU, bP, cond_true, cond_false, Option.bind_some, Option.bind_none, Bool.or_true, Bool.true_or, Bool.and_true, Bool.true_and, Bool.and_false, Bool.false_and, Bool.or_false, Bool.false_or, Bool.not_true, Bool.not_false, Bool.or_self, Bool.and_self, Bool.not_not, if_true, if_false, and_self, true_and, and_true, and_false, false_and, or_true, true_or, or_false, false_or, not_true_eq_false, not_false_eq_true, decide_true, decide_false, eq_self, if_pos, if_neg, gQ, fG]), show (0 : Int) = ((0 : Nat) : Int) from rfl, e];by_cases h : a = b
  ·simp (disch := omega) only [aO, aG, aT, wrap64, au, aA, dec_not, dec_and, dU, bP, cond_true, cond_false, Option.bind_some, Option.bind_none, Bool.or_true, Bool.true_or, Bool.and_true, Bool.true_and, Bool.and_false, Bool.false_and, Bool.or_false, Bool.false_or, Bool.not_true, Bool.not_false, Bool.or_self, Bool.and_self, Bool.not_not, if_true, if_false, and_self, true_and, and_true, and_false, false_and, or_true, true_or, or_false, false_or, not_true_eq_false, not_false_eq_true, decide_true, decide_false, eq_self, if_pos, if_neg, gQ, fG];rw [aN.q0];simp (disch := omega) only [aO, aG, aT, wrap64, au, aA, dec_not, dec_and, dU, bP, cond_true, cond_false, Option.bind_some, Option.bind_none, Bool.or_true, Bool.true_or, Bool.and_true, Bool.true_and, Bool.and_false, Bool.false_and, Bool.or_false, Bool.false_or, Bool.not_true, Bool.not_false, Bool.or_self, Bool.and_self, Bool.not_not, if_true, if_false, and_self, true_and, and_true, and_false, false_and, or_true, true_or, or_false, false_or, not_true_eq_false, not_false_eq_true, decide_true, decide_false, eq_self, if_pos, if_neg, gQ, fG, aN.b0]
  ·simp (disch := omega) only [aO, aG, aT, wrap64, au, aA, dec_not, dec_and, dU, bP, cond_true, cond_false, Option.bind_some, Option.bind_none, Bool.or_true, Bool.true_or, Bool.and_true, Bool.true_and, Bool.and_false, Bool.false_and, Bool.or_false, Bool.false_or, Bool.not_true, Bool.not_false, Bool.or_self, Bool.and_self, Bool.not_not, if_true, if_false, and_self, true_and, and_true, and_false, false_and, or_true, true_or, or_false, false_or, not_true_eq_false, not_false_eq_true, decide_true, decide_false, eq_self, if_pos, if_neg, gQ, fG]
 ·rw [cond_pos (by simp (disch := omega) only [aO, aG, aT, wrap64, au, aA, dec_not, dec_and, dU, bP, cond_true, cond_false, Option.bind_some, Option.bind_none, Bool.or_true, Bool.true_or, Bool.and_true, Bool.true_and, Bool.and_false, Bool.false_and, Bool.or_false, Bool.false_or, Bool.not_true, Bool.not_false, Bool.or_self, Bool.and_self, Bool.not_not, if_true, if_false, and_self, true_and, and_true, and_false, false_and, or_true, true_or, or_false, false_or, not_true_eq_false, not_false_eq_true, decide_true, decide_false, eq_self, if_pos, if_neg, gQ, fG]), aA (fun q => hl (by rw [q]))]
theorem texts_eq (a b : List (List Int)) (ha : a.length < 9223372036854775808) (hb : b.length < 9223372036854775808) : bQ.run .lim (a, b, ()) = some (decide (a = b)) := by
 simp only [bQ.run, aF ha, aF hb, cond_true];by_cases hl : a.length = b.length
 ·have e := lD (f := bQ.l0 .lim) (fun k => (a, b, (k : Int), ())) a.length (fun k => !decide (rd ([] : List Int) a k = rd ([] : List Int) b k)) (some (.inl (false, ()))) (fun k hk => by
   rw [bQ.q0];have w := wk k (by omega);simp (disch := omega) only [aO, aG, aT, wrap64, au, aA, dec_not, dec_and, dU, bP, cond_true, cond_false, Option.bind_some, Option.bind_none, Bool.or_true, Bool.true_or, Bool.and_true, Bool.true_and, Bool.and_false, Bool.false_and, Bool.or_false, Bool.false_or, Bool.not_true, Bool.not_false, Bool.or_self, Bool.and_self, Bool.not_not, if_true, if_false, and_self, true_and, and_true, and_false, false_and, or_true, true_or, or_false, false_or, not_true_eq_false, not_false_eq_true, decide_true, decide_false, eq_self, if_pos, if_neg, gQ, fG, bQ.b0, w])
  rw [Jc hl] at e;rw [cond_neg (by simp (disch := omega) only [aO, aG, aT, wrap64, au, aA, dec_not, dec_and, dU, bP, cond_true, cond_false, Option.bind_some, Option.bind_none, Bool.or_true, Bool.true_or, Bool.and_true, Bool.true_and, Bool.and_false, Bool.false_and, Bool.or_false, Bool.false_or, Bool.not_true, Bool.not_false, Bool.or_self, Bool.and_self, Bool.not_not, if_true, if_false, and_self, true_and, and_true, and_false, false_and, or_true, true_or, or_false, false_or, not_true_eq_false, not_false_eq_true, decide_true, decide_false, eq_self, if_pos, if_neg, gQ, fG]), show (0 : Int) = ((0 : Nat) : Int) from rfl, e];by_cases h : a = b
  ·simp (disch := omega) only [aO, aG, aT, wrap64, au, aA, dec_not, dec_and, dU, bP, cond_true, cond_false, Option.bind_some, Option.bind_none, Bool.or_true, Bool.true_or, Bool.and_true, Bool.true_and, Bool.and_false, Bool.false_and, Bool.or_false, Bool.false_or, Bool.not_true, Bool.not_false, Bool.or_self, Bool.and_self, Bool.not_not, if_true, if_false, and_self, true_and, and_true, and_false, false_and, or_true, true_or, or_false, false_or, not_true_eq_false, not_false_eq_true, decide_true, decide_false, eq_self, if_pos, if_neg, gQ, fG];rw [bQ.q0];simp (disch := omega) only [aO, aG, aT, wrap64, au, aA, dec_not, dec_and, dU, bP, cond_true, cond_false, Option.bind_some, Option.bind_none, Bool.or_true, Bool.true_or, Bool.and_true, Bool.true_and, Bool.and_false, Bool.false_and, Bool.or_false, Bool.false_or, Bool.not_true, Bool.not_false, Bool.or_self, Bool.and_self, Bool.not_not, if_true, if_false, and_self, true_and, and_true, and_false, false_and, or_true, true_or, or_false, false_or, not_true_eq_false, not_false_eq_true, decide_true, decide_false, eq_self, if_pos, if_neg, gQ, fG, bQ.b0]
  ·simp (disch := omega) only [aO, aG, aT, wrap64, au, aA, dec_not, dec_and, dU, bP, cond_true, cond_false, Option.bind_some, Option.bind_none, Bool.or_true, Bool.true_or, Bool.and_true, Bool.true_and, Bool.and_false, Bool.false_and, Bool.or_false, Bool.false_or, Bool.not_true, Bool.not_false, Bool.or_self, Bool.and_self, Bool.not_not, if_true, if_false, and_self, true_and, and_true, and_false, false_and, or_true, true_or, or_false, false_or, not_true_eq_false, not_false_eq_true, decide_true, decide_false, eq_self, if_pos, if_neg, gQ, fG]
 ·rw [cond_pos (by simp (disch := omega) only [aO, aG, aT, wrap64, au, aA, dec_not, dec_and, dU, bP, cond_true, cond_false, Option.bind_some, Option.bind_none, Bool.or_true, Bool.true_or, Bool.and_true, Bool.true_and, Bool.and_false, Bool.false_and, Bool.or_false, Bool.false_or, Bool.not_true, Bool.not_false, Bool.or_self, Bool.and_self, Bool.not_not, if_true, if_false, and_self, true_and, and_true, and_false, false_and, or_true, true_or, or_false, false_or, not_true_eq_false, not_false_eq_true, decide_true, decide_false, eq_self, if_pos, if_neg, gQ, fG]), aA (fun q => hl (by rw [q]))]
def EJ (a b : KK) : Bool := decide (a.1 = b.1) && decide (a.2.2.1 = b.2.2.1) && decide (a.2.1 = b.2.1)
theorem Un (a b : KK) : EJ a b = EJ b a := by
 unfold EJ;rw [show decide (a.1 = b.1) = decide (b.1 = a.1) from by congr 1; exact propext ⟨Eq.symm, Eq.symm⟩, show decide (a.2.2.1 = b.2.2.1) = decide (b.2.2.1 = a.2.2.1) from by congr 1; exact propext ⟨Eq.symm, Eq.symm⟩, show decide (a.2.1 = b.2.1) = decide (b.2.1 = a.2.1) from by congr 1; exact propext ⟨Eq.symm, Eq.symm⟩]
theorem Uo (a b : KK) (ha : a.2.1.length < 9223372036854775808) (hb : b.2.1.length < 9223372036854775808) : nD.run .lim (a, b, ()) = some (EJ a b) := by
 simp only [nD.run, La _ _ ha hb];unfold EJ;cases decide (a.1 = b.1) && decide (a.2.2.1 = b.2.2.1) <;> rfl
theorem QV (a b : KK) (ha : a.2.1.length < 9223372036854775808) (hb : b.2.1.length < 9223372036854775808) : fC.run .lim (a, b, ()) = some (EJ a b) := by
 simp only [fC.run, texts_eq _ _ ha hb];unfold EJ;cases decide (a.1 = b.1) && decide (a.2.2.1 = b.2.2.1) <;> rfl
def byteOf (n : Int) (k : Nat) : Int := (n / 256 ^ k) % 256
def Bl (n : Int) : List Int := (List.range 16).map fun i => byteOf n (15 - i)
def txt (n : Int) (plain : List Int) : List Int := Bl n ++ List.replicate plain.length 0
theorem aam : ∀ n : Nat, BM [0] n = List.replicate n 0
 | 0 => rfl
 | n + 1 => by rw [BM, aam n]; rfl
def part (n : Int) (k : Nat) : List Int := (List.range 16).map fun i => if i < 16 - k then 0 else byteOf n (15 - i)
theorem Hg (n : Int) : part n 0 = List.replicate 16 0 := by
 unfold part;rw [List.eq_replicate_iff];refine ⟨by simp, fun b hb => ?_⟩;obtain ⟨i, hi, rfl⟩ := List.mem_map.1 hb;rw [if_pos (by have := List.mem_range.1 hi; omega)]
theorem EK (n : Int) (k : Nat) : (part n k).length = 16 := by simp [part]
theorem Lc (n : Int) (k : Nat) (hk : k < 16) : (part n k).set (15 - k) (byteOf n k) = part n (k + 1) := by
 apply List.ext_getElem (by simp [part])
 intro i h1 h2;have hi : i < 16 := by rw [List.length_set, EK] at h1; exact h1
 rw [List.getElem_set];simp only [part, List.getElem_map, List.getElem_range];split
 ·rw [if_neg (by omega)]; congr 1; omega
 ·by_cases h : i < 16 - (k + 1)
  ·rw [if_pos (by omega), if_pos h]
  ·rw [if_neg (by omega), if_neg h]
theorem Ur (n : Int) : part n 16 = Bl n := by
 unfold part Bl;apply List.map_congr_left
 intro i _; rw [if_neg (by omega)]
theorem Ld {n : Int} (h0 : 0 <= n) (h1 : n < 9223372036854775808) {k : Nat} (hk : 8 <= k) : byteOf n k = 0 := by
 unfold byteOf;rw [Int.ediv_eq_zero_of_lt h0]; · rfl
 obtain ⟨j, rfl⟩ : ∃ j, k = 8 + j := ⟨k - 8, by omega⟩;rw [Int.pow_add];have : (0 : Int) < 256 ^ j := Int.pow_pos (by omega);have h2 : (256 : Int) ^ 8 * 1 <= 256 ^ 8 * 256 ^ j := Int.mul_le_mul_of_nonneg_left (by omega) (by decide);have h3 : (256 : Int) ^ 8 = 18446744073709551616 := by decide
 rw [h3] at h2 ⊢; omega
theorem aan {n : Int} (h0 : 0 <= n) (h1 : n < 9223372036854775808) : part n 8 = Bl n := by
 unfold part Bl;apply List.map_congr_left
 intro i _;split
 ·rw [Ld h0 h1 (by omega)]
 ·rfl
theorem number_eq (n : Int) (plain : List Int) (h0 : 0 <= n) (h1 : n < 9223372036854775808) (hp : plain.length <= 100000) : eG.run .lim (n, plain, ()) = some (txt n plain) := by
 have e := dS (f := eG.l0 .lim) (fun k => (n, plain, (k : Int), part n k, ())) (n := 8) (fun k hk => by
  rw [eG.q0];have w := wk k (by omega);have w2 : IntKind.i64.wrap ((8 : Int) * k) = ((8 * k : Nat) : Int) := by rw [wrap64 (by omega) (by omega)]; omega
  have w3 : IntKind.i64.wrap ((15 : Int) - k) = ((15 - k : Nat) : Int) := by rw [wrap64 (by omega) (by omega)]; omega
  have hb : IntKind.u8.wrap (iI .i64 n ((8 * k : Nat) : Int)) = byteOf n k := by
   rw [oL];unfold iI byteOf;rw [Int.toNat_natCast, show min (8 * k) (IntKind.bits .i64) = 8 * k from by show min (8 * k) 64 = _; omega, Int.fdiv_eq_ediv_of_nonneg _ (Int.le_of_lt (Int.pow_pos (by omega))), Int.pow_mul];rfl
  simp (disch := omega) only [aO, aG, aT, wrap64, au, aA, dec_not, dec_and, dU, bP, cond_true, cond_false, Option.bind_some, Option.bind_none, Bool.or_true, Bool.true_or, Bool.and_true, Bool.true_and, Bool.and_false, Bool.false_and, Bool.or_false, Bool.false_or, Bool.not_true, Bool.not_false, Bool.or_self, Bool.and_self, Bool.not_not, if_true, if_false, and_self, true_and, and_true, and_false, false_and, or_true, true_or, or_false, false_or, not_true_eq_false, not_false_eq_true, decide_true, decide_false, eq_self, if_pos, if_neg, gQ, fG, eG.b0, w, w2, w3, hb, Int.toNat_natCast, Lc])
 rw [Hg, show ((0 : Nat) : Int) = 0 from rfl] at e;simp only [eG.run, e];rw [eG.q0];have hr : strings_Repeat.run .lim ([0], (plain.length : Int), ()) = some (List.replicate plain.length 0) := by
  show FD _ = _;unfold FD;rw [cond_pos (by simp; omega), Int.toNat_natCast, aam]
 simp (disch := omega) only [aO, aG, aT, wrap64, au, aA, dec_not, dec_and, dU, bP, cond_true, cond_false, Option.bind_some, Option.bind_none, Bool.or_true, Bool.true_or, Bool.and_true, Bool.true_and, Bool.and_false, Bool.false_and, Bool.or_false, Bool.false_or, Bool.not_true, Bool.not_false, Bool.or_self, Bool.and_self, Bool.not_not, if_true, if_false, and_self, true_and, and_true, and_false, false_and, or_true, true_or, or_false, false_or, not_true_eq_false, not_false_eq_true, decide_true, decide_false, eq_self, if_pos, if_neg, gQ, fG, eG.b0, aF (show plain.length < 9223372036854775808 by omega), hr];rw [aan h0 h1, List.drop_zero, List.take_of_length_le (by simp [Bl]), if_pos]
 ·rfl
 ·rw [List.length_replicate, Bl, List.length_map, List.length_range]; unfold maxStr; omega
theorem Us (n : Int) (plain : List Int) (h0 : 0 <= n) (h1 : n < 9223372036854775808) (hp : plain.length <= 100000) : bU.run .lim (n, plain, ()) = some (txt n plain) := by
 have w0 : IntKind.i64.wrap ((16 : Int) + plain.length) = ((16 + plain.length : Nat) : Int) := by rw [wrap64 (by omega) (by omega)]; omega
 have e := dS (f := bU.l0 .lim) (fun k => (n / 256 ^ k, (15 : Int) - k, part n k ++ List.replicate plain.length 0, ())) (n := 16) (fun k hk => by
  rw [bU.q0];have hn : 0 <= n / 256 ^ k := Int.ediv_nonneg h0 (Int.le_of_lt (Int.pow_pos (by omega)));have hn2 : n / 256 ^ k <= n := Int.ediv_le_self _ h0;have w1 : IntKind.i64.wrap ((n / 256 ^ k).tdiv 256) = n / 256 ^ (k + 1) := by
   rw [Int.tdiv_eq_ediv_of_nonneg hn, Int.ediv_ediv_of_nonneg (Int.le_of_lt (Int.pow_pos (by omega))), show (256 : Int) ^ k * 256 = 256 ^ (k + 1) from (Int.pow_succ _ _).symm];have : n / 256 ^ (k + 1) <= n := Int.ediv_le_self _ h0;have : 0 <= n / 256 ^ (k + 1) := Int.ediv_nonneg h0 (Int.le_of_lt (Int.pow_pos (by omega)));rw [wrap64 (by omega) (by omega)]
  have w2 : IntKind.i64.wrap ((15 : Int) - k - 1) = (15 : Int) - (k + 1 : Nat) := by rw [wrap64 (by omega) (by omega)]; omega
  have hb : IntKind.u8.wrap ((n / 256 ^ k).tmod 256) = byteOf n k := by rw [oL, Int.tmod_eq_emod_of_nonneg hn]; unfold byteOf; omega
  have hl : (part n k ++ List.replicate plain.length 0).length = 16 + plain.length := by simp [EK]
  have ht : ((15 : Int) - k).toNat = 15 - k := by omega
  have hs : (part n k ++ List.replicate plain.length (0 : Int)).set (15 - k) (byteOf n k) = part n (k + 1) ++ List.replicate plain.length 0 := by rw [List.set_append_left _ _ (by rw [EK]; omega), Lc n k hk]
  simp (disch := omega) only [aO, aG, aT, wrap64, au, aA, dec_not, dec_and, dU, bP, cond_true, cond_false, Option.bind_some, Option.bind_none, Bool.or_true, Bool.true_or, Bool.and_true, Bool.true_and, Bool.and_false, Bool.false_and, Bool.or_false, Bool.false_or, Bool.not_true, Bool.not_false, Bool.or_self, Bool.and_self, Bool.not_not, if_true, if_false, and_self, true_and, and_true, and_false, false_and, or_true, true_or, or_false, false_or, not_true_eq_false, not_false_eq_true, decide_true, decide_false, eq_self, if_pos, if_neg, gQ, fG, bU.b0, w1, w2, hb, hl, ht, hs])
 have hz : List.replicate (16 + plain.length) (0 : Int) = part n 0 ++ List.replicate plain.length 0 := by rw [Hg, List.replicate_append_replicate]
 rw [Int.pow_zero, Int.ediv_one, show (15 : Int) - ((0 : Nat) : Int) = 15 from rfl] at e;simp only [bU.run, w0, Int.toNat_natCast, hz, e];rw [bU.q0];simp (disch := omega) only [aO, aG, aT, wrap64, au, aA, dec_not, dec_and, dU, bP, cond_true, cond_false, Option.bind_some, Option.bind_none, Bool.or_true, Bool.true_or, Bool.and_true, Bool.true_and, Bool.and_false, Bool.false_and, Bool.or_false, Bool.false_or, Bool.not_true, Bool.not_false, Bool.or_self, Bool.and_self, Bool.not_not, if_true, if_false, and_self, true_and, and_true, and_false, false_and, or_true, true_or, or_false, false_or, not_true_eq_false, not_false_eq_true, decide_true, decide_false, eq_self, if_pos, if_neg, gQ, fG, bU.b0, aF (show plain.length < 9223372036854775808 by omega)];rw [cond_pos (by rw [Nat.blt_eq]; omega), Ur];rfl
end Go.AM
end
section
namespace Go.AM
abbrev VV := Bool × List KK
def Ut (k : KK) : Prop := k.1.length < 9223372036854775808 /\ k.2.1.length < 9223372036854775808 /\ (∀ s ∈ k.2.1, s.length < 9223372036854775808) /\ k.2.2.1.length < 9223372036854775808 /\ k.2.2.2.length < 9223372036854775808
def okV (v : VV) : Prop := v.2.length < 9223372036854775808 /\ ∀ k ∈ v.2, Ut k
theorem okV.at {v : VV} (h : okV v) {k : Nat} (hk : k < v.2.length) : Ut (rd k0 v.2 (k : Int)) := h.2 _ (fH (by omega) (by omega))
def qC (k : KK) : Int := if k.1.length ≠ 32 /\ k.1.length ≠ 64 then 13 else if k.2.1.length > 126 then 18 else 0
theorem EL (k : KK) (h : k.1.length < 9223372036854775808) (h2 : k.2.1.length < 9223372036854775808) : iQ.run .lim (k, ()) = some (qC k) := by
 unfold qC;simp only [iQ.run, aF h, aF h2, cond_true, Bool.or_true];by_cases h3 : k.1.length ≠ 32 /\ k.1.length ≠ 64
 ·rw [cond_pos (by simp (disch := omega) only [aO, aG, aT, wrap64, au, aA, dec_not, dec_and, dU, bP, cond_true, cond_false, Option.bind_some, Option.bind_none, Bool.or_true, Bool.true_or, Bool.and_true, Bool.true_and, Bool.and_false, Bool.false_and, Bool.or_false, Bool.false_or, Bool.not_true, Bool.not_false, Bool.or_self, Bool.and_self, Bool.not_not, if_true, if_false, and_self, true_and, and_true, and_false, false_and, or_true, true_or, or_false, false_or, not_true_eq_false, not_false_eq_true, decide_true, decide_false, eq_self, if_pos, if_neg, gQ, fG, au (show ¬ ((k.1.length : Int) = 32) by omega), au (show ¬ ((k.1.length : Int) = 64) by omega)]), if_pos h3]
 ·rw [cond_neg, if_neg h3]
  ·by_cases h4 : k.2.1.length > 126 <;> simp (disch := omega) only [aO, aG, aT, wrap64, au, aA, dec_not, dec_and, dU, bP, cond_true, cond_false, Option.bind_some, Option.bind_none, Bool.or_true, Bool.true_or, Bool.and_true, Bool.true_and, Bool.and_false, Bool.false_and, Bool.or_false, Bool.false_or, Bool.not_true, Bool.not_false, Bool.or_self, Bool.and_self, Bool.not_not, if_true, if_false, and_self, true_and, and_true, and_false, false_and, or_true, true_or, or_false, false_or, not_true_eq_false, not_false_eq_true, decide_true, decide_false, eq_self, if_pos, if_neg, gQ, fG]
  ·by_cases h4 : k.1.length = 32
   ·simp (disch := omega) only [aO, aG, aT, wrap64, au, aA, dec_not, dec_and, dU, bP, cond_true, cond_false, Option.bind_some, Option.bind_none, Bool.or_true, Bool.true_or, Bool.and_true, Bool.true_and, Bool.and_false, Bool.false_and, Bool.or_false, Bool.false_or, Bool.not_true, Bool.not_false, Bool.or_self, Bool.and_self, Bool.not_not, if_true, if_false, and_self, true_and, and_true, and_false, false_and, or_true, true_or, or_false, false_or, not_true_eq_false, not_false_eq_true, decide_true, decide_false, eq_self, if_pos, if_neg, gQ, fG]
   ·simp (disch := omega) only [aO, aG, aT, wrap64, au, aA, dec_not, dec_and, dU, bP, cond_true, cond_false, Option.bind_some, Option.bind_none, Bool.or_true, Bool.true_or, Bool.and_true, Bool.true_and, Bool.and_false, Bool.false_and, Bool.or_false, Bool.false_or, Bool.not_true, Bool.not_false, Bool.or_self, Bool.and_self, Bool.not_not, if_true, if_false, and_self, true_and, and_true, and_false, false_and, or_true, true_or, or_false, false_or, not_true_eq_false, not_false_eq_true, decide_true, decide_false, eq_self, if_pos, if_neg, gQ, fG]
def FN (xs : List KK) (i : Nat) : Bool :=
 !decide (qC (rd k0 xs i) = 0) || decide ((rd k0 xs i).2.2.1.length > 65536) || !decide ((rd k0 xs i).2.2.2 = txt ((i : Int) + 1) (rd k0 xs i).2.2.1) || (List.range i).any fun j => EJ (rd k0 xs j) (rd k0 xs i)
def pq (v : VV) : Bool := bif v.1 then decide (v.2.length <= 2048) && !((List.range v.2.length).any (FN v.2)) else decide (v.2.length = 0)
theorem WJ (xs : List KK) (i : Nat) (q : KK) (b : Bool) (hi : i <= xs.length) (hy : xs.length < 9223372036854775808) (hok : ∀ k ∈ xs, Ut k) (hq : Ut q) :
  aZ.l0 .lim ((i : Int), 0, b, xs, q.1, q.2.1, q.2.2.1, q.2.2.2, ()) = bif (List.range i).any (fun j => EJ (rd k0 xs j) q) then some (.inl (false, ())) else some (.inr ((i : Int), b, xs, ())) := by
 have e := lD (f := aZ.l0 .lim) (fun j => ((i : Int), (j : Int), b, xs, q.1, q.2.1, q.2.2.1, q.2.2.2, ())) i (fun j => EJ (rd k0 xs j) q) (some (.inl (false, ()))) (fun k hk => by
  rw [aZ.q0];have ha := QV q (rd k0 xs k) hq.2.1 (hok _ (fH (by omega) (by omega))).2.1;rw [Un] at ha;have ha : fC.run .lim ((q.1, q.2.1, q.2.2.1, q.2.2.2), rd k0 xs k, ()) = some (EJ (rd k0 xs k) q) := ha;simp (disch := omega) only [aO, aG, aT, wrap64, au, aA, dec_not, dec_and, dU, bP, cond_true, cond_false, Option.bind_some, Option.bind_none, Bool.or_true, Bool.true_or, Bool.and_true, Bool.true_and, Bool.and_false, Bool.false_and, Bool.or_false, Bool.false_or, Bool.not_true, Bool.not_false, Bool.or_self, Bool.and_self, Bool.not_not, if_true, if_false, and_self, true_and, and_true, and_false, false_and, or_true, true_or, or_false, false_or, not_true_eq_false, not_false_eq_true, decide_true, decide_false, eq_self, if_pos, if_neg, gQ, fG, aZ.b0, wk k (by omega), ha])
 refine e.trans ?_;rw [aZ.q0];simp (disch := omega) only [aO, aG, aT, wrap64, au, aA, dec_not, dec_and, dU, bP, cond_true, cond_false, Option.bind_some, Option.bind_none, Bool.or_true, Bool.true_or, Bool.and_true, Bool.true_and, Bool.and_false, Bool.false_and, Bool.or_false, Bool.false_or, Bool.not_true, Bool.not_false, Bool.or_self, Bool.and_self, Bool.not_not, if_true, if_false, and_self, true_and, and_true, and_false, false_and, or_true, true_or, or_false, false_or, not_true_eq_false, not_false_eq_true, decide_true, decide_false, eq_self, if_pos, if_neg, gQ, fG, aZ.b0]
theorem refB (q : KK) : ((!decide ((q.1.length : Int) = 32) && !decide ((q.1.length : Int) = 64)) || decide ((q.2.1.length : Int) > 126)) = !decide (qC q = 0) := by
 unfold qC;by_cases h1 : q.1.length ≠ 32 /\ q.1.length ≠ 64
 ·rw [if_pos h1, aA (show ¬ (q.1.length : Int) = 32 by omega), aA (show ¬ (q.1.length : Int) = 64 by omega)]; rfl
 ·rw [if_neg h1];have : (!decide ((q.1.length : Int) = 32) && !decide ((q.1.length : Int) = 64)) = false := by
   by_cases h2 : q.1.length = 32
   ·rw [au (by omega)]; rfl
   ·rw [au (show (q.1.length : Int) = 64 by omega), Bool.not_true, Bool.and_false]
  rw [this, Bool.false_or];by_cases h3 : q.2.1.length > 126
  ·rw [if_pos h3, au (by omega)]; rfl
  ·rw [if_neg h3, aA (by omega)]; rfl
theorem WL (v : VV) (h : okV v) : aZ.run .lim (v, ()) = some (pq v) := by
 obtain ⟨b, xs⟩ := v;have hx : xs.length < 9223372036854775808 := h.1;unfold pq;simp only [aZ.run, aF hx];cases b with
 | false => simp only [cond_true, cond_false, Option.bind_some, Option.bind_none, Bool.or_true, Bool.true_or, Bool.and_true, Bool.true_and, Bool.and_false, Bool.false_and, Bool.or_false, Bool.false_or, Bool.not_true, Bool.not_false, Bool.or_self, Bool.and_self, Bool.not_not]; congr 2; simp
 | true =>
  simp only [cond_true, cond_false, Option.bind_some, Option.bind_none, Bool.or_true, Bool.true_or, Bool.and_true, Bool.true_and, Bool.and_false, Bool.false_and, Bool.or_false, Bool.false_or, Bool.not_true, Bool.not_false, Bool.or_self, Bool.and_self, Bool.not_not];by_cases h1 : xs.length <= 2048
  ·obtain ⟨j, _, e⟩ := TL (f := aZ.l1 .lim) (fun k => ((k : Int), true, xs, ())) xs.length (FN xs) (fun k => bif (!decide (qC (rd k0 xs k) = 0) || decide ((rd k0 xs k).2.2.1.length > 65536) || !decide ((rd k0 xs k).2.2.2 = txt ((k : Int) + 1) (rd k0 xs k).2.2.1)) then some (.inl (false, ())) else some (.inr (.inl (false, ())))) (fun k hk => by
    rw [aZ.q1];have w := wk k (by omega);have hk' : Ut (rd k0 xs k) := h.at (v := (true, xs)) hk;have hn := fun hh => Us ((k : Int) + 1) (rd k0 xs k).2.2.1 (by omega) (by omega) hh
    have e2 := WJ xs k (rd k0 xs k) true (by omega) hx h.2 hk';unfold FN;simp only [aZ.b1, aF hx, au (show (k : Int) < (xs.length : Int) by omega), aG (show (0 : Int) <= k by omega) (show (k : Int) < xs.length by omega), aF hk'.1, aF hk'.2.1, aF hk'.2.2.2.1, w, refB];rw [show ((k + 1 : Nat) : Int) = (k : Int) + 1 by omega];simp only [cond_true, cond_false, Option.bind_some, Option.bind_none, Bool.or_true, Bool.true_or, Bool.and_true, Bool.true_and, Bool.and_false, Bool.false_and, Bool.or_false, Bool.false_or, Bool.not_true, Bool.not_false, Bool.or_self, Bool.and_self, Bool.not_not];by_cases c1 : qC (rd k0 xs k) = 0
    ·by_cases c2 : (rd k0 xs k).2.2.1.length > 65536
     ·simp only [au c1, au c2, au (show ((rd k0 xs k).2.2.1.length : Int) > 65536 by omega)];simp only [cond_true, cond_false, Option.bind_some, Option.bind_none, Bool.or_true, Bool.true_or, Bool.and_true, Bool.true_and, Bool.and_false, Bool.false_and, Bool.or_false, Bool.false_or, Bool.not_true, Bool.not_false, Bool.or_self, Bool.and_self, Bool.not_not]
     ·simp only [au c1, aA c2, aA (show ¬ ((rd k0 xs k).2.2.1.length : Int) > 65536 by omega)];simp only [cond_true, cond_false, Option.bind_some, Option.bind_none, Bool.or_true, Bool.true_or, Bool.and_true, Bool.true_and, Bool.and_false, Bool.false_and, Bool.or_false, Bool.false_or, Bool.not_true, Bool.not_false, Bool.or_self, Bool.and_self, Bool.not_not];rw [hn (by omega)];simp only [cond_true, cond_false, Option.bind_some, Option.bind_none, Bool.or_true, Bool.true_or, Bool.and_true, Bool.true_and, Bool.and_false, Bool.false_and, Bool.or_false, Bool.false_or, Bool.not_true, Bool.not_false, Bool.or_self, Bool.and_self, Bool.not_not];by_cases c3 : (rd k0 xs k).2.2.2 = txt ((k : Int) + 1) (rd k0 xs k).2.2.1
      ·simp only [au c3];simp only [cond_true, cond_false, Option.bind_some, Option.bind_none, Bool.or_true, Bool.true_or, Bool.and_true, Bool.true_and, Bool.and_false, Bool.false_and, Bool.or_false, Bool.false_or, Bool.not_true, Bool.not_false, Bool.or_self, Bool.and_self, Bool.not_not];rw [e2];cases (List.range k).any fun j => EJ (rd k0 xs j) (rd k0 xs k)
       ·simp only [cond_true, cond_false, Option.bind_some, Option.bind_none, Bool.or_true, Bool.true_or, Bool.and_true, Bool.true_and, Bool.and_false, Bool.false_and, Bool.or_false, Bool.false_or, Bool.not_true, Bool.not_false, Bool.or_self, Bool.and_self, Bool.not_not]; rw [show IntKind.i64.wrap ((k : Int) + 1) = (k : Int) + 1 by rw [w]; omega]
       ·simp only [cond_true, cond_false, Option.bind_some, Option.bind_none, Bool.or_true, Bool.true_or, Bool.and_true, Bool.true_and, Bool.and_false, Bool.false_and, Bool.or_false, Bool.false_or, Bool.not_true, Bool.not_false, Bool.or_self, Bool.and_self, Bool.not_not]
      ·simp only [aA c3];simp only [cond_true, cond_false, Option.bind_some, Option.bind_none, Bool.or_true, Bool.true_or, Bool.and_true, Bool.true_and, Bool.and_false, Bool.false_and, Bool.or_false, Bool.false_or, Bool.not_true, Bool.not_false, Bool.or_self, Bool.and_self, Bool.not_not]
    ·simp only [aA c1];simp only [cond_true, cond_false, Option.bind_some, Option.bind_none, Bool.or_true, Bool.true_or, Bool.and_true, Bool.true_and, Bool.and_false, Bool.false_and, Bool.or_false, Bool.false_or, Bool.not_true, Bool.not_false, Bool.or_self, Bool.and_self, Bool.not_not])
   rw [show ((0 : Nat) : Int) = 0 from rfl] at e;rw [cond_neg (by simp (disch := omega) only [aO, aG, aT, wrap64, au, aA, dec_not, dec_and, dU, bP, cond_true, cond_false, Option.bind_some, Option.bind_none, Bool.or_true, Bool.true_or, Bool.and_true, Bool.true_and, Bool.and_false, Bool.false_and, Bool.or_false, Bool.false_or, Bool.not_true, Bool.not_false, Bool.or_self, Bool.and_self, Bool.not_not, if_true, if_false, and_self, true_and, and_true, and_false, false_and, or_true, true_or, or_false, false_or, not_true_eq_false, not_false_eq_true, decide_true, decide_false, eq_self, if_pos, if_neg, gQ, fG]), e, aZ.q1];simp (disch := omega) only [aO, aG, aT, wrap64, au, aA, dec_not, dec_and, dU, bP, cond_true, cond_false, Option.bind_some, Option.bind_none, Bool.or_true, Bool.true_or, Bool.and_true, Bool.true_and, Bool.and_false, Bool.false_and, Bool.or_false, Bool.false_or, Bool.not_true, Bool.not_false, Bool.or_self, Bool.and_self, Bool.not_not, if_true, if_false, and_self, true_and, and_true, and_false, false_and, or_true, true_or, or_false, false_or, not_true_eq_false, not_false_eq_true, decide_true, decide_false, eq_self, if_pos, if_neg, gQ, fG, aZ.b1, aF hx];cases (List.range xs.length).any (FN xs)
   ·rfl
   ·simp only [cond_true, cond_false, Option.bind_some, Option.bind_none, Bool.or_true, Bool.true_or, Bool.and_true, Bool.true_and, Bool.and_false, Bool.false_and, Bool.or_false, Bool.false_or, Bool.not_true, Bool.not_false, Bool.or_self, Bool.and_self, Bool.not_not]; split <;> rfl
  ·rw [cond_pos (by simp (disch := omega) only [aO, aG, aT, wrap64, au, aA, dec_not, dec_and, dU, bP, cond_true, cond_false, Option.bind_some, Option.bind_none, Bool.or_true, Bool.true_or, Bool.and_true, Bool.true_and, Bool.and_false, Bool.false_and, Bool.or_false, Bool.false_or, Bool.not_true, Bool.not_false, Bool.or_self, Bool.and_self, Bool.not_not, if_true, if_false, and_self, true_and, and_true, and_false, false_and, or_true, true_or, or_false, false_or, not_true_eq_false, not_false_eq_true, decide_true, decide_false, eq_self, if_pos, if_neg, gQ, fG]), aA h1];simp only [cond_true, cond_false, Option.bind_some, Option.bind_none, Bool.or_true, Bool.true_or, Bool.and_true, Bool.true_and, Bool.and_false, Bool.false_and, Bool.or_false, Bool.false_or, Bool.not_true, Bool.not_false, Bool.or_self, Bool.and_self, Bool.not_not]
theorem NK (v : VV) (h : okV v) : ∃ r, aI.run .lim (v, ()) = some r := by
 obtain ⟨b, xs⟩ := v;have hx : xs.length < 9223372036854775808 := h.1
 -- the inner loop
 have inner : ∀ (n : Nat) (left : Int) (j : Nat) (i : Int) (q : KK), Ut q -> j + n = q.2.1.length -> -9223372036854775808 <= left -> left < 9223372036854775808 -> ∃ l : Int, -9223372036854775808 <= l /\ l < 9223372036854775808 /\ aI.l0 .lim (left, i, (j : Int), b, xs, q.1, q.2.1, q.2.2.1, q.2.2.2, ()) = some (l, i, b, xs, ()) := by
  intro n
  induction n with
  | zero =>
   intro left j i q hq hj h1 h2;refine ⟨left, h1, h2, ?_⟩;rw [aI.q0];simp (disch := omega) only [aO, aG, aT, wrap64, au, aA, dec_not, dec_and, dU, bP, cond_true, cond_false, Option.bind_some, Option.bind_none, Bool.or_true, Bool.true_or, Bool.and_true, Bool.true_and, Bool.and_false, Bool.false_and, Bool.or_false, Bool.false_or, Bool.not_true, Bool.not_false, Bool.or_self, Bool.and_self, Bool.not_not, if_true, if_false, and_self, true_and, and_true, and_false, false_and, or_true, true_or, or_false, false_or, not_true_eq_false, not_false_eq_true, decide_true, decide_false, eq_self, if_pos, if_neg, gQ, fG, aI.b0, aF hq.2.1]
  | succ n ih =>
   intro left j i q hq hj h1 h2;have hb := @zV (left - ((rd ([] : List Int) q.2.1 (j : Int)).length : Int));have hs := hq.2.2.1 (rd ([] : List Int) q.2.1 (j : Int)) (fH (by omega) (by omega));by_cases hl : left >= 0
   ·obtain ⟨l, l1, l2, e⟩ := ih (IntKind.i64.wrap (left - ((rd ([] : List Int) q.2.1 (j : Int)).length : Int))) (j + 1) i q hq (by omega) hb.1 hb.2;refine ⟨l, l1, l2, ?_⟩;rw [aI.q0, <- e];have hj' := hq.2.1;simp only [aI.b0, aF hq.2.1, wk j (by omega), aF hs, au hl, au (show (j : Int) < (q.2.1.length : Int) by omega), aG (show (0 : Int) <= j by omega) (show (j : Int) < q.2.1.length by omega)];simp only [cond_true, cond_false, Option.bind_some, Option.bind_none, Bool.or_true, Bool.true_or, Bool.and_true, Bool.true_and, Bool.and_false, Bool.false_and, Bool.or_false, Bool.false_or, Bool.not_true, Bool.not_false, Bool.or_self, Bool.and_self, Bool.not_not]
   ·refine ⟨left, h1, h2, ?_⟩;rw [aI.q0];simp (disch := omega) only [aO, aG, aT, wrap64, au, aA, dec_not, dec_and, dU, bP, cond_true, cond_false, Option.bind_some, Option.bind_none, Bool.or_true, Bool.true_or, Bool.and_true, Bool.true_and, Bool.and_false, Bool.false_and, Bool.or_false, Bool.false_or, Bool.not_true, Bool.not_false, Bool.or_self, Bool.and_self, Bool.not_not, if_true, if_false, and_self, true_and, and_true, and_false, false_and, or_true, true_or, or_false, false_or, not_true_eq_false, not_false_eq_true, decide_true, decide_false, eq_self, if_pos, if_neg, gQ, fG, aI.b0, aF hq.2.1]
 have outer : ∀ (n : Nat) (left : Int) (i : Nat), i + n = xs.length -> -9223372036854775808 <= left -> left < 9223372036854775808 -> ∃ l : Int, aI.l1 .lim (left, (i : Int), b, xs, ()) = some (l, b, xs, ()) := by
  intro n
  induction n with
  | zero =>
   intro left i hi h1 h2;refine ⟨left, ?_⟩;rw [aI.q1];simp (disch := omega) only [aO, aG, aT, wrap64, au, aA, dec_not, dec_and, dU, bP, cond_true, cond_false, Option.bind_some, Option.bind_none, Bool.or_true, Bool.true_or, Bool.and_true, Bool.true_and, Bool.and_false, Bool.false_and, Bool.or_false, Bool.false_or, Bool.not_true, Bool.not_false, Bool.or_self, Bool.and_self, Bool.not_not, if_true, if_false, and_self, true_and, and_true, and_false, false_and, or_true, true_or, or_false, false_or, not_true_eq_false, not_false_eq_true, decide_true, decide_false, eq_self, if_pos, if_neg, gQ, fG, aI.b1, aF hx]
  | succ n ih =>
   intro left i hi h1 h2;by_cases hl : left >= 0
   ·have hk : Ut (rd k0 xs i) := h.at (v := (b, xs)) (by show i < xs.length; omega);rw [aI.q1];simp only [aI.b1, aF hx, aF hk.1, aF hk.2.1, aF hk.2.2.2.1, aF hk.2.2.2.2, au hl, au (show (i : Int) < (xs.length : Int) by omega), aG (show (0 : Int) <= i by omega) (show (i : Int) < xs.length by omega)];simp only [cond_true, cond_false, Option.bind_some, Option.bind_none, Bool.or_true, Bool.true_or, Bool.and_true, Bool.true_and, Bool.and_false, Bool.false_and, Bool.or_false, Bool.false_or, Bool.not_true, Bool.not_false, Bool.or_self, Bool.and_self, Bool.not_not];obtain ⟨l, l1, l2, e⟩ := inner _ (IntKind.i64.wrap (IntKind.i64.wrap (IntKind.i64.wrap (IntKind.i64.wrap (IntKind.i64.wrap (left - 10) - ((rd k0 xs i).1.length : Int)) - ((rd k0 xs i).2.2.1.length : Int)) - ((rd k0 xs i).2.2.2.length : Int)) - ((rd k0 xs i).2.1.length : Int))) 0 (i : Int) (rd k0 xs i) hk (Nat.zero_add _) zV.1 zV.2;rw [show ((0 : Nat) : Int) = 0 from rfl] at e;rw [e];obtain ⟨l', e'⟩ := ih l (i + 1) (by omega) l1 l2;refine ⟨l', ?_⟩;rw [<- e'];simp (disch := omega) only [aO, aG, aT, wrap64, au, aA, dec_not, dec_and, dU, bP, cond_true, cond_false, Option.bind_some, Option.bind_none, Bool.or_true, Bool.true_or, Bool.and_true, Bool.true_and, Bool.and_false, Bool.false_and, Bool.or_false, Bool.false_or, Bool.not_true, Bool.not_false, Bool.or_self, Bool.and_self, Bool.not_not, if_true, if_false, and_self, true_and, and_true, and_false, false_and, or_true, true_or, or_false, false_or, not_true_eq_false, not_false_eq_true, decide_true, decide_false, eq_self, if_pos, if_neg, gQ, fG, wk i (by omega)]
   ·refine ⟨left, ?_⟩;rw [aI.q1];simp (disch := omega) only [aO, aG, aT, wrap64, au, aA, dec_not, dec_and, dU, bP, cond_true, cond_false, Option.bind_some, Option.bind_none, Bool.or_true, Bool.true_or, Bool.and_true, Bool.true_and, Bool.and_false, Bool.false_and, Bool.or_false, Bool.false_or, Bool.not_true, Bool.not_false, Bool.or_self, Bool.and_self, Bool.not_not, if_true, if_false, and_self, true_and, and_true, and_false, false_and, or_true, true_or, or_false, false_or, not_true_eq_false, not_false_eq_true, decide_true, decide_false, eq_self, if_pos, if_neg, gQ, fG, aI.b1, aF hx]
 obtain ⟨l, e⟩ := outer xs.length 400000 0 (by omega) (by omega) (by omega);rw [show ((0 : Nat) : Int) = 0 from rfl] at e;refine ⟨decide (l >= 0) && decide ((xs.length : Int) <= 300), ?_⟩;simp only [aI.run, e, aF hx];simp only [cond_true, cond_false, Option.bind_some, Option.bind_none, Bool.or_true, Bool.true_or, Bool.and_true, Bool.true_and, Bool.and_false, Bool.false_and, Bool.or_false, Bool.false_or, Bool.not_true, Bool.not_false, Bool.or_self, Bool.and_self, Bool.not_not, aF hx]
end Go.AM
end
section
namespace Go.AM
def hit (key : List Int) (ad : List (List Int)) (t : List Int) (k : KK) : Bool := decide (k.2.2.2 = t) && decide (k.1 = key) && decide (k.2.1 = ad)
theorem y9 {n : Nat} (h : n <= 140737488351232) : n < 9223372036854775808 := by omega
theorem ok_v {v : VV} (h : Ty.ok (.pair .bool (.lst (.pair .str (.pair (.lst .str) (.pair .str .str))))) v) : okV v := by
 obtain ⟨_, h1, h2⟩ := h;refine ⟨y9 h1, fun k hk => ?_⟩;obtain ⟨a, ⟨b1, b2⟩, c, d⟩ := h2 k hk;exact ⟨y9 a.1, y9 b1, fun s hs => y9 (b2 s hs).1, y9 c.1, y9 d.1⟩
end Go.AM
end
section
namespace Go.AM
theorem nJ {n : Nat} (h : n < 9223372036854775808) : n < dX := h
def qU (a b : List Int) : List Int := tab a.length fun i => dN .u8 (rd 0 a (i : Int)) (rd 0 b (i : Int))
@[simp] theorem jM (a b : List Int) : (qU a b).length = a.length := jB
theorem Uu (a b : List Int) : Bs (qU a b) := G7 fun _ _ => Bd _ _
theorem PG {a b : List Int} {k : Nat} (h : k < a.length) : rd 0 (qU a b) (k : Int) = dN .u8 (rd 0 a (k : Int)) (rd 0 b (k : Int)) := qy h
theorem nS {a b : List Int} (h : a.length <= b.length) (hb : b.length < 1000000000000) : fA.run .lim (a, b, ()) = some (qU a b) := by
 have e := iY (f := fA.l0 .lim) (fun k m => (b, (a.length : Int), (k : Int), m, ())) (fun k v => dN .u8 v (rd 0 b (k : Int))) a rfl (fun k hk m' hm hj => by
  rw [fA.q0];simp only [fA.b0, au (show (k : Int) < (a.length : Int) by omega), hm, aG (show (0 : Int) <= k by omega) (show (k : Int) < (a.length : Int) by omega), aG (show (0 : Int) <= k by omega) (show (k : Int) < (b.length : Int) by omega), cond_true, nX k (by omega), hj k (Nat.le_refl _), Int.toNat_natCast])
 simp only [fA.run, aF (show a.length < 9223372036854775808 by omega), cond_true];rw [show (0 : Int) = ((0 : Nat) : Int) from rfl, e, fA.q0];simp only [fA.b0, aA (show ¬ (a.length : Int) < (a.length : Int) by omega), cond_false, Option.bind_some];rfl
theorem XI : ∀ n : Nat, BM [0] n = List.replicate n 0
 | 0 => rfl
 | n + 1 => by rw [BM, XI n]; rfl
theorem oU {n : Nat} (h : n <= 1000000) : gu.run .lim ((n : Int), ()) = some (List.replicate n 0) := by
 have : strings_Repeat.run .lim ([0], (n : Int), ()) = some (List.replicate n 0) := by
  show FD _ = _;unfold FD;rw [cond_pos (by simp; omega), Int.toNat_natCast, XI]
 simp only [gu.run, this, Option.bind_some]
def RH (b : List Int) (i : Nat) : Int := if i = 15 then eP .u8 (rd 0 b 15) 1 else nM .u8 (eP .u8 (rd 0 b (i : Int)) 1) (iI .u8 (rd 0 b ((i + 1 : Nat) : Int)) 7)
def FP (b : List Int) : List Int := if rd 0 b 0 >= 128 then (tab 16 (RH b)).set 15 (dN .u8 (eP .u8 (rd 0 b 15) 1) 135) else tab 16 (RH b)
theorem XJ (b : List Int) (i : Nat) : B8 (RH b i) := by unfold RH; split <;> first | exact O7 _ _ | exact or_B _ _
theorem su (b : List Int) : ED (FP b) := by
 unfold FP;split
 ·refine ⟨by simp, fun x hx => ?_⟩;rcases List.mem_or_eq_of_mem_set hx with h | rfl
  ·exact G7 (fun k _ => XJ b k) x h
  ·exact Bd _ _
 ·exact ⟨jB, G7 fun k _ => XJ b k⟩
theorem or_zero {a : Int} (h : B8 a) : nM .u8 a 0 = a := by
 show IntKind.u8.wrap (BitVec.ofInt 8 a ||| BitVec.ofInt 8 0).toNat = a;rw [show BitVec.ofInt 8 0 = 0#8 from rfl, BitVec.or_zero, BitVec.toNat_ofInt, oL];unfold B8 at h;omega
def Vh (b : List Int) (k : Nat) : List Int := tab 16 fun i => if k <= i then RH b i else rd 0 b (i : Int)
theorem WM {b : List Int} {k : Nat} (hk : k < 16) : (Vh b (k + 1)).set k (RH b k) = Vh b k := by
 unfold Vh;rw [CP];refine jr fun i _ => ?_
 by_cases h1 : i = k
 ·subst h1; rw [if_pos rfl, if_pos (Nat.le_refl _)]
 ·rw [if_neg h1];by_cases h2 : k <= i
  ·rw [if_pos h2, if_pos (by omega)]
  ·rw [if_neg h2, if_neg (by omega)]
theorem YN {b : List Int} {k : Nat} (hk : k < 16) : rd 0 (Vh b (k + 1)) (k : Int) = rd 0 b (k : Int) := by unfold Vh; rw [qy hk, if_neg (by omega)]
theorem YO {x : Int} (h : B8 x) : IntKind.u8.wrap (iI .u8 x 7 * 135) = if x >= 128 then 135 else 0 :=
 gB (p := fun x => IntKind.u8.wrap (iI .u8 x 7 * 135) = if x >= 128 then 135 else 0) (by decide +kernel) h
theorem QW {b : List Int} (hb : ED b) : iZ.run .lim (b, ()) = some (FP b, 0, ()) := by
 obtain ⟨hl, hB⟩ := hb;have h0 : ∀ (b : List Int), tab 16 (fun i => if 16 <= i then RH b i else rd 0 b (i : Int)) = tab 16 fun i => rd 0 b (i : Int) := fun b => jr fun i hi => by rw [if_neg (by omega)]
 have e := dS (f := iZ.l0 .lim) (fun k => ((15 : Int) - (k : Int), (if k = 0 then 0 else iI .u8 (rd 0 b ((16 - k : Nat) : Int)) 7 : Int), Vh b (16 - k), ())) (n := 16) (fun k hk => by
  rw [iZ.q0];have ei : (15 : Int) - (k : Int) = ((15 - k : Nat) : Int) := by omega
  have w1 : IntKind.i64.wrap (((15 - k : Nat) : Int) - 1) = (15 : Int) - ((k + 1 : Nat) : Int) := by rw [wrap64 (by omega) (by omega)]; omega
  have hr := YN (b := b) (k := 15 - k) (by omega);have hs := WM (b := b) (k := 15 - k) (by omega);rw [show 15 - k + 1 = 16 - k by omega] at hr hs;have hx : B8 (rd 0 b ((15 - k : Nat) : Int)) := hB _ (fH (by omega) (by omega));have hg : nM .u8 (eP .u8 (rd 0 b ((15 - k : Nat) : Int)) 1) (if k = 0 then 0 else iI .u8 (rd 0 b ((16 - k : Nat) : Int)) 7) = RH b (15 - k) := by
   unfold RH;by_cases hk0 : k = 0
   ·subst hk0; rw [if_pos rfl, if_pos (by omega), or_zero (O7 _ _)]; rfl
   ·rw [if_neg hk0, if_neg (by omega), show 15 - k + 1 = 16 - k by omega]
  have hl2 : (Vh b (16 - k)).length = 16 := jB;rw [ei];simp only [iZ.b0, au (show ((15 - k : Nat) : Int) >= 0 by omega), hl2, aG (show (0 : Int) <= ((15 - k : Nat) : Int) by omega) (show ((15 - k : Nat) : Int) < ((16 : Nat) : Int) by omega), cond_true, hr, w1, Int.toNat_natCast, hg, hs];rw [if_neg (by omega), show 16 - (k + 1) = 15 - k by omega])
 have hst : Vh b 16 = b := by unfold Vh; rw [h0, <- Jd hl]
 have w0 : IntKind.i64.wrap ((b.length : Int) - 1) = 15 := by rw [wrap64 (by omega) (by omega)]; omega
 rw [Nat.sub_zero, hst, if_pos rfl, show (15 : Int) - ((0 : Nat) : Int) = 15 from rfl, if_neg (by omega), Nat.sub_self] at e;have e0 : Vh b 0 = tab 16 (RH b) := jr fun i _ => by rw [if_pos (Nat.zero_le _)]
 simp only [iZ.run, aF (show b.length < 9223372036854775808 by omega), cond_true, au (show (b.length : Int) = 16 by omega), Bool.not_true, cond_false, w0, e, e0];rw [iZ.q0];have hx0 : B8 (rd 0 b ((0 : Nat) : Int)) := hB _ (fH (by omega) (by omega));simp only [iZ.b0, aA (show ¬ ((15 : Int) - ((16 : Nat) : Int) >= 0) by omega), cond_false, Option.bind_some, jB, aG (show (0 : Int) <= 15 by omega) (show (15 : Int) < ((16 : Nat) : Int) by omega), cond_true, YO hx0];have h15 : rd 0 (tab 16 (RH b)) 15 = eP .u8 (rd 0 b 15) 1 := by
  have := qy (n := 16) (g := RH b) (k := 15) (by omega);rw [show ((15 : Nat) : Int) = 15 from rfl] at this;rw [this]; rfl
 rw [h15];unfold FP;rw [show ((0 : Nat) : Int) = 0 from rfl];by_cases hc : rd 0 b 0 >= 128
 ·rw [if_pos hc, if_pos hc]
 ·rw [if_neg hc, if_neg hc, xor_zero (O7 _ _), CP];congr 2
theorem sD {b : List Int} (hb : ED b) : jS.run .lim (b, ()) = some (FP b) := by simp only [jS.run, QW hb, Option.bind_some]
def EM (s : List Int) : List Int := s ++ (128 :: List.replicate (15 - s.length) 0)
theorem zf {s : List Int} (h : s.length < 16) : (EM s).length = 16 := by simp [EM]; omega
noncomputable def Vj (key s : List Int) : Nat -> List Int
 | 0 => G6
 | k + 1 => encS key (qU (Vj key s k) ((s.drop (16 * k)).take 16))
theorem Uw (key s : List Int) : ∀ k, ED (Vj key s k)
 | 0 => ⟨rfl, fun x hx => by rw [(List.mem_replicate.1 hx).2]; exact ⟨by decide, by decide⟩⟩
 | _ + 1 => r_ _ _
noncomputable def CV (key : List Int) : List Int := FP (encS key G6)
noncomputable def wM (key s : List Int) : List Int := if s.length = 16 then qU s (CV key) else qU (EM s) (FP (CV key))
noncomputable def Ux (key s : List Int) : List Int := encS key (qU (Vj key s ((s.length - 1) / 16)) (wM key (s.drop (16 * ((s.length - 1) / 16)))))
theorem EN (key s : List Int) : ED (Ux key s) := r_ _ _
theorem Jj {key b : List Int} (hk : key.length = 16 \/ key.length = 32) (hb : b.length = 16) : encR key b = (encS key b, 0) := by unfold encR; rw [if_pos hk, if_pos hb]
theorem QX {key s : List Int} (h : s.length <= 16) : (wM key s).length = 16 := by
 unfold wM;split
 ·simpa
 ·rw [jM, zf (by omega)]
section
variable {key s : List Int}
theorem zh (hk : key.length = 16 \/ key.length = 32) (hkb : Bs key) (hs : s.length < dX) : b_.run .lim ((key, CV key, FP (CV key)), s, ()) = some (Ux key s) := by
 have z := oU (n := 16) (by omega);have hloop := dS (f := b_.l0 .lim) (fun k => (s.drop (16 * k), key, CV key, FP (CV key), Vj key s k, key, CV key, FP (CV key), ())) (n := (s.length - 1) / 16) (fun k hk' => by
  rw [b_.q0];have hl : (s.drop (16 * k)).length = s.length - 16 * k := List.length_drop;have hc := Uw key s k;have h1 : cut (s.drop (16 * k)) 0 16 = (s.drop (16 * k)).take 16 := by have := sW (s.drop (16 * k)) 0 16; simpa using this
  have h2 : cut (s.drop (16 * k)) 16 ((s.drop (16 * k)).length : Int) = s.drop (16 * (k + 1)) := by
   have := sW (s.drop (16 * k)) 16 (s.drop (16 * k)).length;rw [show ((16 : Nat) : Int) = 16 from rfl] at this;rw [this, List.drop_drop, List.take_of_length_le (by rw [List.length_drop]; omega)];congr 1
  have hx := nS (a := Vj key s k) (b := (s.drop (16 * k)).take 16) (by rw [hc.1, List.length_take]; omega) (by rw [List.length_take]; omega);have he := vk (key := key) (b := qU (Vj key s k) ((s.drop (16 * k)).take 16)) (nJ (by omega)) (by rw [jM, hc.1]; decide) hkb;rw [Jj hk (by rw [jM, hc.1])] at he;have hlim : s.length < 9223372036854775808 := hs;simp only [b_.b0, aF (show (s.drop (16 * k)).length < 9223372036854775808 by omega), au (show ((s.drop (16 * k)).length : Int) > 16 by omega), aT (show (0 : Int) <= 0 by omega) (show (0 : Int) <= 16 by omega) (show (16 : Int) <= ((s.drop (16 * k)).length : Int) by omega), aT (show (0 : Int) <= 16 by omega) (show (16 : Int) <= ((s.drop (16 * k)).length : Int) by omega) (Int.le_refl _), cond_true, h1, h2, hx, he, Option.bind_some];rfl)
 simp only [b_.run];rw [show (16 : Int) = ((16 : Nat) : Int) from rfl, z];simp only [Option.bind_some];rw [Nat.mul_zero, List.drop_zero, show Vj key s 0 = G6 from rfl] at hloop;rw [hloop];generalize hq : (s.length - 1) / 16 = q;have hl : (s.drop (16 * q)).length = s.length - 16 * q := List.length_drop;have hlim : s.length < 9223372036854775808 := hs;rw [b_.q0];have hc := Uw key s q;have h16 : (s.drop (16 * q)).length <= 16 := by omega
 simp only [b_.b0, aF (show (s.drop (16 * q)).length < 9223372036854775808 by omega), aA (show ¬ ((s.drop (16 * q)).length : Int) > 16 by omega), cond_true, cond_false, Option.bind_some];have he := vk (key := key) (b := qU (Vj key s q) (wM key (s.drop (16 * q)))) (nJ (by omega)) (by rw [jM, hc.1]; decide) hkb;rw [Jj hk (by rw [jM, hc.1])] at he;have hll := QX (key := key) h16;have hx2 := nS (a := Vj key s q) (b := wM key (s.drop (16 * q))) (by rw [hc.1, hll]; omega) (by omega);have hcm : Ux key s = encS key (qU (Vj key s q) (wM key (s.drop (16 * q)))) := by unfold Ux; rw [hq]
 rw [hcm];generalize hm : s.drop (16 * q) = m at *;by_cases h3 : m.length = 16
 ·rw [au (show (m.length : Int) = ((16 : Nat) : Int) by omega)];have hx1 := nS (a := m) (b := CV key) (by rw [h3, show (CV key).length = 16 from (su _).1]; omega) (by rw [show (CV key).length = 16 from (su _).1]; omega);have hls : wM key m = qU m (CV key) := by unfold wM; rw [if_pos h3]
  rw [hls] at hx2 he ⊢
  simp only [cond_true, hx1, Option.bind_some, hx2, he]
 ·rw [aA (show ¬ (m.length : Int) = ((16 : Nat) : Int) by omega)];have hls : wM key m = qU (EM m) (FP (CV key)) := by unfold wM; rw [if_neg h3]
  have w15 : IntKind.i64.wrap (15 - (m.length : Int)) = ((15 - m.length : Nat) : Int) := by rw [wrap64 (by omega) (by omega)]; omega
  have hz := oU (n := 15 - m.length) (by omega);have YP : (m ++ [128]) ++ List.replicate (15 - m.length) (0 : Int) = EM m := by unfold EM; simp
  have hx1 := nS (a := EM m) (b := FP (CV key)) (by rw [zf (by omega), (su _).1]; omega) (by rw [(su _).1]; omega);rw [hls] at hx2 he ⊢
  simp only [cond_false];rw [cond_pos (au (by unfold maxStr; simp; omega)), w15, hz];simp only [Option.bind_some];rw [cond_pos (au (by unfold maxStr; simp; omega)), YP, hx1];simp only [Option.bind_some, hx2, he]
end
end Go.AM
end
section
namespace Go.AM
noncomputable def Vk (key : List Int) (l : List (List Int)) : Nat -> List Int
 | 0 => Ux key G6
 | k + 1 => qU (FP (Vk key l k)) (Ux key (rd [] l (k : Int)))
noncomputable def s2E (key d s : List Int) : List Int :=
 if s.length < 16 then Ux key (qU (EM s) (FP d)) else Ux key (s.take (s.length - 16) ++ qU (s.drop (s.length - 16)) d)
noncomputable def Vl (key : List Int) (l : List (List Int)) : List Int :=
 if l.length = 0 then Ux key (List.replicate 15 0 ++ [1]) else s2E key (Vk key l (l.length - 1)) (rd [] l ((l.length - 1 : Nat) : Int))
theorem Uy (key : List Int) (l : List (List Int)) : ∀ k, ED (Vk key l k)
 | 0 => EN _ _
 | k + 1 => ⟨by rw [Vk, jM, (su _).1], Uu _ _⟩
theorem Jk (key : List Int) (l : List (List Int)) : ED (Vl key l) := by
 unfold Vl s2E;split
 ·exact EN _ _
 ·split <;> exact EN _ _
theorem YQ (key : List Int) : ED (CV key) := su _
theorem QY {key : List Int} (hk : key.length = 16 \/ key.length = 32) (hkb : Bs key) : qM.run .lim (key, ()) = some ((key, (CV key, FP (CV key))), 0, ()) := by
 have z := oU (n := 16) (by omega);have aao : (List.replicate 16 (0 : Int)).length = 16 := rfl;have he := vk (key := key) (b := G6) (nJ (by omega)) (by rw [aao]; decide) hkb;rw [Jj hk aao] at he;simp only [qM.run];rw [show (16 : Int) = ((16 : Nat) : Int) from rfl, z];simp only [Option.bind_some, he, decide_true, Bool.not_true, cond_false, sD (r_ key G6)];rw [show FP (encS key G6) = CV key from rfl, sD (YQ key)];rfl
section
variable {key : List Int}
theorem PI {l : List (List Int)} (hk : key.length = 16 \/ key.length = 32) (hkb : Bs key) (hl : l.length < dX) (hs : ∀ s ∈ l, s.length < dX) :
  dL.run .lim ((key, (CV key, FP (CV key))), l, ()) = some (Vl key l) := by
 have hlim : l.length < 9223372036854775808 := hl;simp only [dL.run, aF hlim, cond_true];unfold Vl;by_cases h0 : l.length = 0
 ·rw [au (show (l.length : Int) = 0 by omega), if_pos h0];have z := oU (n := 15) (by omega);simp only [cond_true];rw [show (15 : Int) = ((15 : Nat) : Int) from rfl, z];simp only [Option.bind_some];rw [cond_pos (by decide), zh hk hkb (by decide)];rfl
 ·rw [aA (show ¬ (l.length : Int) = 0 by omega), if_neg h0];have z := oU (n := 16) (by omega);have w1 : IntKind.i64.wrap ((l.length : Int) - 1) = ((l.length - 1 : Nat) : Int) := by rw [wrap64 (by omega) (by omega)]; omega
  have hc : cut l 0 ((l.length - 1 : Nat) : Int) = l.take (l.length - 1) := by
   have := sW l 0 (l.length - 1);rw [show ((0 : Nat) : Int) = 0 from rfl] at this;rw [this, List.drop_zero, Nat.sub_zero]
  have htl : (l.take (l.length - 1)).length = l.length - 1 := by rw [List.length_take]; omega
  generalize hs1 : rd ([] : List Int) l ((l.length - 1 : Nat) : Int) = s;have hsl : s.length < 9223372036854775808 := by rw [<- hs1]; exact hs _ (fH (by omega) (by omega))
  have hloop := dS (f := dL.l0 .lim) (fun k => (Vk key l k, s, l.take (l.length - 1), ((l.length - 1 : Nat) : Int), (k : Int), key, CV key, FP (CV key), ())) (n := l.length - 1) (fun k hk' => by
   rw [dL.q0];have hok := Uy key l k;have ht := zh (key := key) (s := rd [] l (k : Int)) hk hkb (hs _ (fH (by omega) (by omega)));have hx := nS (a := FP (Vk key l k)) (b := Ux key (rd [] l (k : Int))) (by rw [(su _).1, (EN _ _).1]; omega) (by rw [(EN _ _).1]; omega);simp only [dL.b0, au (show (k : Int) < ((l.length - 1 : Nat) : Int) by omega), htl, aG (show (0 : Int) <= k by omega) (show (k : Int) < ((l.length - 1 : Nat) : Int) by omega), nR (d := ([] : List Int)) (xs := l) hk', cond_true, sD hok, Option.bind_some, ht, hx, wk k (by omega)];rfl)
  rw [show Vk key l 0 = Ux key G6 from rfl, show ((0 : Nat) : Int) = 0 from rfl] at hloop;simp only [cond_false];rw [show (16 : Int) = ((16 : Nat) : Int) from rfl, z];simp only [Option.bind_some, zh hk hkb (show (List.replicate 16 (0 : Int)).length < dX by decide), w1, aG (show (0 : Int) <= ((l.length - 1 : Nat) : Int) by omega) (show ((l.length - 1 : Nat) : Int) < (l.length : Int) by omega), aT (Int.le_refl 0) (show (0 : Int) <= ((l.length - 1 : Nat) : Int) by omega) (show ((l.length - 1 : Nat) : Int) <= (l.length : Int) by omega), cond_true, hc, htl, aF (show l.length - 1 < 9223372036854775808 by omega), hs1];rw [hloop, dL.q0];simp only [dL.b0, aA (show ¬ ((l.length - 1 : Nat) : Int) < ((l.length - 1 : Nat) : Int) by omega), cond_false, Option.bind_some, aF hsl, cond_true];have w2 : IntKind.i64.wrap ((s.length : Int) - ((16 : Nat) : Int)) = (s.length : Int) - 16 := by rw [wrap64 (by omega) (by omega)]; omega
  rw [w2];have hd := Uy key l (l.length - 1);unfold s2E;by_cases h3 : s.length < 16
  ·rw [aA (show ¬ ((s.length : Int) - 16 >= 0) by omega), if_pos h3];have w15 : IntKind.i64.wrap (15 - (s.length : Int)) = ((15 - s.length : Nat) : Int) := by rw [wrap64 (by omega) (by omega)]; omega
   have hz := oU (n := 15 - s.length) (by omega);have YP : (s ++ [128]) ++ List.replicate (15 - s.length) (0 : Int) = EM s := by unfold EM; simp
   have hx := nS (a := EM s) (b := FP (Vk key l (l.length - 1))) (by rw [zf h3, (su _).1]; omega) (by rw [(su _).1]; omega);simp only [cond_false];rw [cond_pos (au (by unfold maxStr; simp; omega)), w15, hz];simp only [Option.bind_some];rw [cond_pos (au (by unfold maxStr; simp; omega)), YP];simp only [sD hd, Option.bind_some, hx];rw [zh hk hkb (by rw [jM, zf h3]; decide)];rfl
  ·rw [au (show (s.length : Int) - 16 >= 0 by omega), if_neg h3];have e16 : (s.length : Int) - 16 = ((s.length - 16 : Nat) : Int) := by omega
   have hc1 : cut s ((s.length - 16 : Nat) : Int) (s.length : Int) = s.drop (s.length - 16) := by rw [sW, List.take_of_length_le (by rw [List.length_drop]; omega)]
   have hc2 : cut s 0 ((s.length - 16 : Nat) : Int) = s.take (s.length - 16) := by
    have := sW s 0 (s.length - 16);rw [show ((0 : Nat) : Int) = 0 from rfl] at this;rw [this, List.drop_zero, Nat.sub_zero]
   have hx := nS (a := s.drop (s.length - 16)) (b := Vk key l (l.length - 1)) (by rw [List.length_drop, hd.1]; omega) (by rw [hd.1]; omega);have htl2 : (s.take (s.length - 16) ++ qU (s.drop (s.length - 16)) (Vk key l (l.length - 1))).length = s.length := by rw [List.length_append, jM, List.length_take, List.length_drop]; omega
   simp only [e16, cond_true, aT (Int.le_refl 0) (show (0 : Int) <= ((s.length - 16 : Nat) : Int) by omega) (show ((s.length - 16 : Nat) : Int) <= (s.length : Int) by omega), aT (show (0 : Int) <= ((s.length - 16 : Nat) : Int) by omega) (show ((s.length - 16 : Nat) : Int) <= (s.length : Int) by omega) (Int.le_refl _), hc1, hc2, hx, Option.bind_some];rw [cond_pos (au (by rw [jM, List.length_take, List.length_drop]; unfold maxStr; omega)), zh hk hkb (by rw [htl2]; exact hsl)];rfl
def Hl (v : List Int) : List Int := (v.set 8 (fO .u8 (rd 0 v 8) 127)).set 12 (fO .u8 (rd 0 (v.set 8 (fO .u8 (rd 0 v 8) 127)) 12) 127)
theorem Ho (v : List Int) : (Hl v).length = v.length := by simp [Hl]
noncomputable def Hq (key v s : List Int) : List Int := qU s (QS key (Hl v) s.length)
theorem vU (key v s : List Int) : (Hq key v s).length = s.length := jM _ _
theorem PL (key v s : List Int) : Bs (Hq key v s) := Uu _ _
theorem WO {key v : List Int} {n : Nat} (hk : key.length = 16 \/ key.length = 32) (hv : v.length = 16) (hn : n <= 65536) : Wx key v (n : Int) = QS key v n := by
 unfold Wx Wv;rw [if_neg (show ¬ ((n : Int) < 0 \/ (n : Int) > 65536) by omega), if_pos hk, if_pos hv, if_pos rfl, Int.toNat_natCast]
theorem EO {v s : List Int} (hk : key.length = 16 \/ key.length = 32) (hkb : Bs key) (hv : v.length = 16) (hs : s.length <= 65536) : kT.run .lim (key, v, s, ()) = some (Hq key v s) := by
 have ha := NG (key := key) (at_ := Hl v) (n := (s.length : Int)) (nJ (by omega)) (by rw [Ho, hv]; decide) hkb;rw [WO hk (by rw [Ho, hv]) hs] at ha;have hx := nS (a := s) (b := QS key (Hl v) s.length) (by rw [KZ]; omega) (by rw [KZ]; omega);unfold Hl at ha hx;simp only [kT.run, List.length_set, hv, aG (show (0 : Int) <= 8 by omega) (show (8 : Int) < ((16 : Nat) : Int) by omega), aG (show (0 : Int) <= 12 by omega) (show (12 : Int) < ((16 : Nat) : Int) by omega), aF (show s.length < 9223372036854775808 by omega), cond_true, ha, Option.bind_some, hx];rfl
abbrev oV (key : List Int) : List Int := key.take (key.length / 2)
abbrev Bo (key : List Int) : List Int := key.drop (key.length / 2)
def sF (key : List Int) (ad : List (List Int)) : Int := if key.length = 32 \/ key.length = 64 then (if ad.length >= 127 then 18 else 0) else 13
noncomputable def EP (key : List Int) (ad : List (List Int)) (plain : List Int) : List Int :=
 Vl (oV key) (ad ++ [plain]) ++ Hq (Bo key) (Vl (oV key) (ad ++ [plain])) plain
noncomputable def vw (key : List Int) (ad : List (List Int)) (plain : List Int) : List Int × Int :=
 if sF key ad = 0 then (if plain.length > 65536 then ([], 12) else (EP key ad plain, 0)) else ([], sF key ad)
noncomputable def qV (key sealed : List Int) : List Int := Hq (Bo key) (sealed.take 16) (sealed.drop 16)
noncomputable def Lh (key : List Int) (ad : List (List Int)) (sealed : List Int) : List Int × Int :=
 if sF key ad = 0 then (if sealed.length < 16 then ([], 11) else if sealed.length > 65552 then ([], 12) else
  if Vl (oV key) (ad ++ [qV key sealed]) = sealed.take 16 then (qV key sealed, 0) else ([], 17)) else ([], sF key ad)
theorem CW {s : List Int} (h : Bs s) (n : Nat) : Bs (s.take n) := fun x hx => h x (List.mem_of_mem_take hx)
theorem PN {s : List Int} (h : Bs s) (n : Nat) : Bs (s.drop n) := fun x hx => h x (List.mem_of_mem_drop hx)
theorem xG {key : List Int} (h : key.length = 32 \/ key.length = 64) : ((oV key).length = 16 \/ (oV key).length = 32) /\ ((Bo key).length = 16 \/ (Bo key).length = 32) := by
 unfold oV Bo;rw [List.length_take, List.length_drop]; omega
theorem ER {ad : List (List Int)} (hk : key.length < dX) (hkb : Bs key) (ha : ad.length < dX) :
  ∃ r r1, kS.run .lim (key, ad, ()) = some (r, r1, sF key ad, ()) /\ (sF key ad = 0 -> r = (oV key, (CV (oV key), FP (CV (oV key)))) /\ r1 = Bo key) := by
 have hk63 : key.length < 9223372036854775808 := hk;have Uz : ad.length < 9223372036854775808 := ha;have hd : (key.length : Int).tdiv 2 = ((key.length / 2 : Nat) : Int) := by rw [Int.tdiv_eq_ediv_of_nonneg (Int.natCast_nonneg _)]; simp
 have w1 : IntKind.i64.wrap ((key.length : Int).tdiv 2) = ((key.length / 2 : Nat) : Int) := by rw [hd, wrap64 (by omega) (by omega)]
 unfold sF;simp only [kS.run, aF hk63, aF Uz, cond_true, Bool.or_true, w1];by_cases h1 : key.length = 32 \/ key.length = 64
 ·have : (!decide ((key.length : Int) = 32) && !decide ((key.length : Int) = 64)) = false := by
   rcases h1 with h | h
   ·rw [au (show (key.length : Int) = 32 by omega)]; rfl
   ·rw [au (show (key.length : Int) = 64 by omega), Bool.not_true, Bool.and_false]
  rw [this, if_pos h1];simp only [cond_false];by_cases h2 : ad.length >= 127
  ·rw [au (show (ad.length : Int) >= 127 by omega), if_pos h2];exact ⟨_, _, rfl, fun h => absurd h (by decide)⟩
  ·rw [aA (show ¬ (ad.length : Int) >= 127 by omega), if_neg h2];have hc1 : cut key 0 ((key.length / 2 : Nat) : Int) = oV key := by
    have := sW key 0 (key.length / 2);rw [show ((0 : Nat) : Int) = 0 from rfl] at this;rw [this, List.drop_zero, Nat.sub_zero]
   have hc2 : cut key ((key.length / 2 : Nat) : Int) (key.length : Int) = Bo key := by rw [sW, List.take_of_length_le (by rw [List.length_drop]; omega)]
   simp only [cond_false, aT (Int.le_refl 0) (show (0 : Int) <= ((key.length / 2 : Nat) : Int) by omega) (show ((key.length / 2 : Nat) : Int) <= (key.length : Int) by omega), aT (show (0 : Int) <= ((key.length / 2 : Nat) : Int) by omega) (show ((key.length / 2 : Nat) : Int) <= (key.length : Int) by omega) (Int.le_refl _), cond_true, hc1, hc2, QY (xG h1).1 (CW hkb _), Option.bind_some];exact ⟨_, _, rfl, fun _ => ⟨rfl, rfl⟩⟩
 ·rw [aA (show ¬ (key.length : Int) = 32 by omega), aA (show ¬ (key.length : Int) = 64 by omega), if_neg h1];exact ⟨_, _, rfl, fun h => absurd h (by decide)⟩
theorem Ad {ad : List (List Int)} (h : sF key ad = 0) : (key.length = 32 \/ key.length = 64) /\ ad.length < 127 := by
 unfold sF at h;split at h
 ·split at h
  ·exact absurd h (by decide)
  ·exact ⟨by assumption, by omega⟩
 ·exact absurd h (by decide)
theorem qW {ad : List (List Int)} (h : ad.length < 4398046511104) : aB.run .lim (ad, ()) = some ad := by
 simp only [aB.run];rw [cond_pos (au (by simpa using h)), List.nil_append]
theorem UA {ad : List (List Int)} {plain : List Int} (hk : key.length < dX) (hkb : Bs key) (ha : ad.length < dX) (had : ∀ s ∈ ad, s.length < dX) (hp : plain.length < dX) :
  uV.run .lim (key, ad, plain, ()) = some ((vw key ad plain).1, (vw key ad plain).2, ()) := by
 obtain ⟨r, r1, e, hz⟩ := ER hk hkb ha;have hp63 : plain.length < 9223372036854775808 := hp;unfold vw;simp only [uV.run, e, Option.bind_some, aF hp63, cond_true];by_cases h0 : sF key ad = 0
 ·obtain ⟨rfl, rfl⟩ := hz h0;obtain ⟨h1, h2⟩ := Ad h0;obtain ⟨g1, g2⟩ := xG h1;rw [au h0, if_pos h0];simp only [Bool.not_true, cond_false];by_cases h3 : plain.length > 65536
  ·rw [au (show (plain.length : Int) > 65536 by omega), if_pos h3]; rfl
  ·rw [aA (show ¬ (plain.length : Int) > 65536 by omega), if_neg h3];have hall : ∀ s ∈ ad ++ [plain], s.length < dX := fun s hs => by
    rcases List.mem_append.1 hs with hs | hs
    ·exact had s hs
    ·rw [List.mem_singleton.1 hs]; exact hp
   have hv := (Jk (oV key) (ad ++ [plain])).1;simp only [cond_false, qW (show ad.length < 4398046511104 by omega), Option.bind_some];rw [cond_pos (au (by simp; omega)), PI g1 (CW hkb _) (nJ (by simp; omega)) hall];simp only [Option.bind_some, EO g2 (PN hkb _) hv (show plain.length <= 65536 by omega)];rw [cond_pos (au (by rw [hv, vU]; unfold maxStr; omega))];rfl
 ·rw [aA h0, if_neg h0];rfl
theorem QZ {a b : List Int} (h : a.length = b.length) (ha : Bs a) (hb : Bs b) : qU a b = List.replicate a.length 0 ↔ b = a := by
 constructor
 ·intro e;refine (Jb (d := 0) h.symm fun k hk => ?_);have h1 : rd 0 (qU a b) (k : Int) = 0 := by rw [e, jo (by simp; omega)]; simp
  rw [PG (by omega)] at h1;have := xor_assoc (rd 0 a (k : Int)) (rd 0 b (k : Int)) (rd 0 b (k : Int));rw [h1, xor_self, zero_xor (hb _ (fH (by omega) (by omega))), xor_zero (ha _ (fH (by omega) (by omega)))] at this;exact this
 ·rintro rfl
  refine Jb (d := 0) (by simp) fun k hk => ?_
  rw [jM] at hk;rw [PG hk, xor_self, jo (by simpa using hk)]; simp
theorem UC {ad : List (List Int)} {sealed : List Int} (hk : key.length < dX) (hkb : Bs key) (ha : ad.length < dX) (had : ∀ s ∈ ad, s.length < dX) (hp : sealed.length < dX) (hpb : Bs sealed) :
  uY.run .lim (key, ad, sealed, ()) = some ((Lh key ad sealed).1, (Lh key ad sealed).2, ()) := by
 obtain ⟨r, r1, e, hz⟩ := ER hk hkb ha;have hp63 : sealed.length < 9223372036854775808 := hp;unfold Lh;simp only [uY.run, e, Option.bind_some, aF hp63, cond_true];by_cases h0 : sF key ad = 0
 ·obtain ⟨rfl, rfl⟩ := hz h0;obtain ⟨h1, h2⟩ := Ad h0;obtain ⟨g1, g2⟩ := xG h1;rw [au h0, if_pos h0];simp only [Bool.not_true, cond_false];by_cases h3 : sealed.length < 16
  ·rw [au (show (sealed.length : Int) < 16 by omega), if_pos h3]; rfl
  ·rw [aA (show ¬ (sealed.length : Int) < 16 by omega), if_neg h3];simp only [cond_false];by_cases h4 : sealed.length > 65552
   ·rw [au (show (sealed.length : Int) > 65552 by omega), if_pos h4]; rfl
   ·rw [aA (show ¬ (sealed.length : Int) > 65552 by omega), if_neg h4];have hc1 : cut sealed 0 16 = sealed.take 16 := by
     have := sW sealed 0 16;simpa using this
    have hc2 : cut sealed 16 (sealed.length : Int) = sealed.drop 16 := by
     have := sW sealed 16 sealed.length;rw [show ((16 : Nat) : Int) = 16 from rfl] at this;rw [this, List.take_of_length_le (by rw [List.length_drop]; omega)]
    have ht : (sealed.take 16).length = 16 := by rw [List.length_take]; omega
    have hdl : (sealed.drop 16).length = sealed.length - 16 := List.length_drop;have hol : (qV key sealed).length = sealed.length - 16 := by unfold qV; rw [vU, hdl]
    have hall : ∀ s ∈ ad ++ [qV key sealed], s.length < dX := fun s hs => by
     rcases List.mem_append.1 hs with hs | hs
     ·exact had s hs
     ·rw [List.mem_singleton.1 hs, hol]; exact nJ (by omega)
    have hv := Jk (oV key) (ad ++ [qV key sealed]);have z := oU (n := 16) (by omega);have hx := nS (a := sealed.take 16) (b := Vl (oV key) (ad ++ [qV key sealed])) (by rw [ht, hv.1]; omega) (by rw [hv.1]; omega);have hst := EO (v := sealed.take 16) (s := sealed.drop 16) g2 (PN hkb _) ht (by omega);rw [show Hq (Bo key) (sealed.take 16) (sealed.drop 16) = qV key sealed from rfl] at hst;simp only [cond_false, aT (Int.le_refl 0) (show (0 : Int) <= 16 by omega) (show (16 : Int) <= (sealed.length : Int) by omega), aT (show (0 : Int) <= 16 by omega) (show (16 : Int) <= (sealed.length : Int) by omega) (Int.le_refl _), cond_true, hc1, hc2, hst, Option.bind_some, qW (show ad.length < 4398046511104 by omega)];rw [cond_pos (au (by simp; omega)), PI g1 (CW hkb _) (nJ (by simp; omega)) hall];simp only [Option.bind_some, hx];rw [show (16 : Int) = ((16 : Nat) : Int) from rfl, z];simp only [Option.bind_some];have hiff := QZ (a := sealed.take 16) (b := Vl (oV key) (ad ++ [qV key sealed])) (by rw [ht, hv.1]) (CW hpb _) hv.2;rw [ht] at hiff;by_cases h5 : Vl (oV key) (ad ++ [qV key sealed]) = sealed.take 16
    ·rw [au (hiff.2 h5), if_pos h5]; rfl
    ·rw [aA (fun q => h5 (hiff.1 q)), if_neg h5]; rfl
 ·rw [aA h0, if_neg h0];rfl
end
theorem Ae (key : List Int) (ad : List (List Int)) (plain : List Int) : (EP key ad plain).length = plain.length + 16 := by unfold EP; rw [List.length_append, (Jk _ _).1, vU]; omega
theorem PO (key : List Int) (ad : List (List Int)) (plain : List Int) : Bs (EP key ad plain) := fun x h => by
 unfold EP at h;rcases List.mem_append.1 h with h | h
 ·exact (Jk _ _).2 x h
 ·exact PL _ _ _ x h
end Go.AM
end
section
namespace Go.AM
def zi (key : List Int) (ad : List (List Int)) (n : Nat) : Int := if qC (key, ad, [], []) = 0 then (if n > 65536 then 12 else 0) else qC (key, ad, [], [])
theorem Jl (key : List Int) (ad : List (List Int)) (p t : List Int) : qC (key, ad, p, t) = qC (key, ad, [], []) := rfl
noncomputable def qX (xs : List KK) (key : List Int) (ad : List (List Int)) (plain : List Int) : List KK × List Int × Int :=
 if zi key ad plain.length = 0 then
  match (List.range xs.length).find? (fun j : Nat => EJ (rd k0 xs (j : Int)) (key, ad, plain, [])) with
  | some k => (xs, (rd k0 xs (k : Int)).2.2.2, 0)
  | none => if xs.length >= 2048 then (xs, [], 18) else (xs ++ [(key, ad, plain, txt (xs.length + 1) plain)], txt (xs.length + 1) plain, 0)
 else (xs, [], zi key ad plain.length)
noncomputable def ES (xs : List KK) (key : List Int) (ad : List (List Int)) (t : List Int) : List Int × Int :=
 if qC (key, ad, [], []) = 0 then (if t.length < 16 then ([], 11) else if t.length > 65552 then ([], 12) else
  match (List.range xs.length).find? (fun j : Nat => hit key ad t (rd k0 xs (j : Int))) with
  | some k => ((rd k0 xs (k : Int)).2.2.1, 0)
  | none => ([], 17)) else ([], qC (key, ad, [], []))
noncomputable def jc (v : VV) (key : List Int) (ad : List (List Int)) (plain : List Int) : VV × List Int × Int :=
 bif v.1 then ((true, (qX v.2 key ad plain).1), (qX v.2 key ad plain).2) else (v, vw key ad plain)
noncomputable def h_ (v : VV) (key : List Int) (ad : List (List Int)) (t : List Int) : List Int × Int := bif v.1 then ES v.2 key ad t else Lh key ad t
structure WQ (key : List Int) (ad : List (List Int)) (s : List Int) : Prop where
 k : key.length < dX
 kb : Bs key
 a : ad.length < dX
 al : ∀ t ∈ ad, t.length < dX
 s : s.length < dX
theorem ET (key : List Int) (ad : List (List Int)) : sF key ad = qC (key, ad, [], []) := by
 show _ = if key.length ≠ 32 /\ key.length ≠ 64 then 13 else if ad.length > 126 then 18 else 0
 unfold sF;by_cases h : key.length = 32 \/ key.length = 64
 ·rw [if_pos h, if_neg (show ¬ (key.length ≠ 32 /\ key.length ≠ 64) by omega)];by_cases h2 : ad.length >= 127
  ·rw [if_pos h2, if_pos (show ad.length > 126 by omega)]
  ·rw [if_neg h2, if_neg (show ¬ ad.length > 126 by omega)]
 ·rw [if_neg h, if_pos (show key.length ≠ 32 /\ key.length ≠ 64 by omega)]
theorem Q5 {xs : List KK} (h : xs.length < 2048) : bG.run .lim (xs, ()) = some xs := by
 simp only [bG.run];rw [cond_pos (au (by simp; omega)), List.nil_append]
theorem Q7 (xs : List KK) (key : List Int) (ad : List (List Int)) (plain : List Int) (b : Bool) (hx : xs.length < dX) (hok : ∀ k ∈ xs, Ut k) (ha : ad.length < dX) :
  fU.l0 .lim (xs, (xs.length : Int), 0, key, ad, plain, [], xs, b, xs, false, ()) = match (List.range xs.length).find? (fun j : Nat => EJ (rd k0 xs (j : Int)) (key, ad, plain, [])) with
   | some k => some (.inl ((k : Int), xs, key, ad, plain, [], b, xs, false, ()))
   | none => some (.inr (xs, key, ad, plain, [], b, xs, false, ())) := by
 have Q8 : xs.length < 9223372036854775808 := hx;have e := lY (f := fU.l0 .lim) (fun k => (xs, (xs.length : Int), (k : Int), key, ad, plain, [], xs, b, xs, false, ())) xs.length (fun j : Nat => EJ (rd k0 xs (j : Int)) (key, ad, plain, [])) (fun k => some (.inl ((k : Int), xs, key, ad, plain, [], b, xs, false, ()))) (fun k hk => by
  rw [fU.q0];have hm : Ut (rd k0 xs k) := hok _ (fH (by omega) (by omega));simp only [fU.b0, Uo (rd k0 xs k) (key, ad, plain, []) hm.2.1 ha, wk k (by omega), au (show (k : Int) < (xs.length : Int) by omega), aG (show (0 : Int) <= k by omega) (show (k : Int) < (xs.length : Int) by omega), cond_true, Option.bind_some])
 rw [show ((0 : Nat) : Int) = 0 from rfl] at e;rw [e];cases (List.range xs.length).find? (fun j : Nat => EJ (rd k0 xs (j : Int)) (key, ad, plain, [])) with
 | some k => rfl
 | none =>
  simp only;rw [fU.q0];simp only [fU.b0, aA (show ¬ (xs.length : Int) < (xs.length : Int) by omega), cond_false]
theorem WR {v : VV} (hv : okV v) (hf : pq v = true) {key : List Int} {ad : List (List Int)} {plain : List Int} (T : WQ key ad plain) :
  fU.run .lim (v, key, ad, plain, ()) = some ((jc v key ad plain).1, (jc v key ad plain).2.1, (jc v key ad plain).2.2, ()) := by
 obtain ⟨b, xs⟩ := v;have hx : xs.length < dX := hv.1;have hp63 : plain.length < 9223372036854775808 := T.s;have Q8 : xs.length < 9223372036854775808 := hx;unfold jc;cases b with
 | false =>
  have hn : xs = [] := by
   unfold pq at hf;simpa using hf
  subst hn;have hs := UA T.k T.kb T.a T.al T.s;simp only [fU.run, jT.run, hs, Option.bind_some, cond_false];unfold vw;by_cases h0 : sF key ad = 0
  ·rw [if_pos h0];by_cases h1 : plain.length > 65536
   ·rw [if_pos h1]; rfl
   ·rw [if_neg h1]; rfl
  ·rw [if_neg h0, aA h0]; rfl
 | true =>
  have hr := EL (key, ad, plain, []) T.k T.a;rw [Jl] at hr;have hf' := Q7 xs key ad plain true hx hv.2 T.a;simp only [fU.run, hr, Option.bind_some, aF hp63, aF Q8, cond_true, hf'];unfold qX zi;by_cases h0 : qC (key, ad, [], []) = 0
  ·rw [au h0, if_pos h0];simp only [Bool.not_true, cond_false];by_cases h1 : plain.length > 65536
   ·rw [au (show (plain.length : Int) > 65536 by omega), if_pos h1, if_neg (by decide)]; rfl
   ·rw [aA (show ¬ (plain.length : Int) > 65536 by omega), if_neg h1, if_pos rfl];simp only [cond_false];cases hq : (List.range xs.length).find? (fun j : Nat => EJ (rd k0 xs (j : Int)) (key, ad, plain, [])) with
    | some k =>
     have hk : k < xs.length := List.mem_range.1 (List.mem_of_find?_eq_some hq);simp only [Option.bind_some];rw [cond_pos (au (by omega)), cond_pos (aG (by omega) (by omega))]
    | none =>
     simp only [Option.bind_some, aF Q8, cond_true];by_cases h2 : xs.length >= 2048
     ·rw [au (show (xs.length : Int) >= 2048 by omega), if_pos h2]; rfl
     ·rw [aA (show ¬ (xs.length : Int) >= 2048 by omega), if_neg h2];have ha126 : ad.length <= 126 := by
       have := Ad (key := key) (ad := ad) (by rw [ET]; exact h0);omega
      have w1 : IntKind.i64.wrap ((xs.length : Int) + 1) = (xs.length : Int) + 1 := wrap64 (by omega) (by omega);simp only [cond_false, qW (show ad.length < 4398046511104 by omega), Option.bind_some, w1, number_eq ((xs.length : Int) + 1) plain (by omega) (by omega) (by omega), Q5 (show xs.length < 2048 by omega)];rw [cond_pos (au (by simp; omega))]
  ·rw [aA h0, if_neg h0, if_neg h0]; rfl
theorem NM (xs : List KK) (key : List Int) (ad : List (List Int)) (t : List Int) (hx : xs.length < dX) (hok : ∀ k ∈ xs, Ut k) (ha : ad.length < dX) :
  fB.l0 .lim (xs, (xs.length : Int), 0, key, ad, [], t, xs, ()) = match (List.range xs.length).find? (fun j : Nat => hit key ad t (rd k0 xs (j : Int))) with
   | some k => some (.inl ((k : Int), xs, ()))
   | none => some (.inr (xs, ())) := by
 have Q8 : xs.length < 9223372036854775808 := hx;have e := lY (f := fB.l0 .lim) (fun k => (xs, (xs.length : Int), (k : Int), key, ad, [], t, xs, ())) xs.length (fun j : Nat => hit key ad t (rd k0 xs (j : Int))) (fun k => some (.inl ((k : Int), xs, ()))) (fun k hk => by
  rw [fB.q0];have hm : Ut (rd k0 xs k) := hok _ (fH (by omega) (by omega));simp only [fB.b0, La _ _ hm.2.1 ha, wk k (by omega), au (show (k : Int) < (xs.length : Int) by omega), aG (show (0 : Int) <= k by omega) (show (k : Int) < xs.length by omega)];unfold hit;cases decide ((rd k0 xs k).2.2.2 = t) && decide ((rd k0 xs k).1 = key) <;> simp only [cond_true, cond_false, Option.bind_some, Option.bind_none, Bool.or_true, Bool.true_or, Bool.and_true, Bool.true_and, Bool.and_false, Bool.false_and, Bool.or_false, Bool.false_or, Bool.not_true, Bool.not_false, Bool.or_self, Bool.and_self, Bool.not_not])
 rw [show ((0 : Nat) : Int) = 0 from rfl] at e;rw [e];cases (List.range xs.length).find? (fun j : Nat => hit key ad t (rd k0 xs (j : Int))) with
 | some k => rfl
 | none =>
  simp only;rw [fB.q0];simp only [fB.b0, aA (show ¬ (xs.length : Int) < (xs.length : Int) by omega), cond_false]
theorem UD {v : VV} (hv : okV v) {key : List Int} {ad : List (List Int)} {t : List Int} (T : WQ key ad t) (htb : Bs t) :
  fB.run .lim (v, key, ad, t, ()) = some ((h_ v key ad t).1, (h_ v key ad t).2, ()) := by
 obtain ⟨b, xs⟩ := v;have hx : xs.length < dX := hv.1;have hp63 : t.length < 9223372036854775808 := T.s;have Q8 : xs.length < 9223372036854775808 := hx;unfold h_;cases b with
 | false =>
  have hs := UC T.k T.kb T.a T.al T.s htb;simp only [fB.run, jU.run, hs, Option.bind_some, cond_false]
 | true =>
  have hr := EL (key, ad, [], t) T.k T.a;rw [Jl] at hr;have hf' := NM xs key ad t hx hv.2 T.a;simp only [fB.run, hr, Option.bind_some, aF hp63, aF Q8, cond_true, hf'];unfold ES;by_cases h0 : qC (key, ad, [], []) = 0
  ·rw [au h0, if_pos h0];simp only [Bool.not_true, cond_false];by_cases h1 : t.length < 16
   ·rw [au (show (t.length : Int) < 16 by omega), if_pos h1]; rfl
   ·rw [aA (show ¬ (t.length : Int) < 16 by omega), if_neg h1];by_cases h2 : t.length > 65552
    ·rw [au (show (t.length : Int) > 65552 by omega), if_pos h2]; rfl
    ·rw [aA (show ¬ (t.length : Int) > 65552 by omega), if_neg h2];simp only [cond_false];cases hq : (List.range xs.length).find? (fun j : Nat => hit key ad t (rd k0 xs (j : Int))) with
     | some k =>
      have hk : k < xs.length := List.mem_range.1 (List.mem_of_find?_eq_some hq);simp only [Option.bind_some];rw [cond_neg (aA (by omega)), cond_pos (aG (by omega) (by omega))]
     | none => rfl
  ·rw [aA h0, if_neg h0]; rfl
end Go.AM
end
section
namespace Go.AM
theorem EU {key : List Int} {ad : List (List Int)} {n : Nat} (h0 : zi key ad n = 0) : qC (key, ad, [], []) = 0 /\ n <= 65536 := by
 unfold zi at h0;split at h0
 ·split at h0
  ·exact absurd h0 (by decide)
  ·exact ⟨by assumption, by omega⟩
 ·exact absurd h0 (by assumption)
theorem vC (xs : List KK) (key : List Int) (ad : List (List Int)) (plain : List Int) :
  ((qX xs key ad plain).2.2 ≠ 0 /\ (qX xs key ad plain).1 = xs /\ (qX xs key ad plain).2.1 = []) \/
  (zi key ad plain.length = 0 /\ (∃ k, k < xs.length /\ EJ (rd k0 xs (k : Int)) (key, ad, plain, []) = true /\ qX xs key ad plain = (xs, (rd k0 xs (k : Int)).2.2.2, 0))) \/
  (zi key ad plain.length = 0 /\ xs.length < 2048 /\ (∀ k, k < xs.length -> EJ (rd k0 xs (k : Int)) (key, ad, plain, []) = false) /\ qX xs key ad plain = (xs ++ [(key, ad, plain, txt (xs.length + 1) plain)], txt (xs.length + 1) plain, 0)) := by
 unfold qX;by_cases h0 : zi key ad plain.length = 0
 ·rw [if_pos h0];cases hq : (List.range xs.length).find? (fun j : Nat => EJ (rd k0 xs (j : Int)) (key, ad, plain, [])) with
  | some k => exact .inr (.inl ⟨h0, k, List.mem_range.1 (List.mem_of_find?_eq_some hq), by simpa using List.find?_some hq, rfl⟩)
  | none =>
   simp only;by_cases h2 : xs.length >= 2048
   ·rw [if_pos h2]; exact .inl ⟨show (18 : Int) ≠ 0 by decide, rfl, rfl⟩
   ·rw [if_neg h2];refine .inr (.inr ⟨h0, by omega, fun k hk => ?_, rfl⟩);have := List.find?_eq_none.1 hq k (List.mem_range.2 hk);simpa using this
 ·rw [if_neg h0]; exact .inl ⟨h0, rfl, rfl⟩
theorem PS {xs : List KK} (h : pq (true, xs) = true) : xs.length <= 2048 /\ ∀ i, i < xs.length -> FN xs i = false := by
 unfold pq at h;simp only [cond_true, Bool.and_eq_true, decide_eq_true_eq, Bool.not_eq_true', List.any_eq_false, List.mem_range] at h;exact ⟨h.1, fun i hi => by simpa using h.2 i hi⟩
theorem UE {xs : List KK} {q : KK} {i : Nat} (hi : i < xs.length) : FN (xs ++ [q]) i = FN xs i := by
 unfold FN;rw [Ny hi, any_congr (d := fun j => EJ (rd k0 xs (j : Int)) (rd k0 xs (i : Int))) fun j hj => by rw [Ny (by omega)]]
theorem PU {α : Type} {d : α} {xs : List α} {q : α} : rd d (xs ++ [q]) (xs.length : Int) = q := by rw [jo (by simp)]; simp
theorem UF {v : VV} (hf : pq v = true) (key : List Int) (ad : List (List Int)) (plain : List Int) : pq (jc v key ad plain).1 = true := by
 obtain ⟨b, xs⟩ := v;unfold jc;cases b with
 | false => exact hf
 | true =>
  simp only [cond_true];obtain ⟨f1, f2⟩ := PS hf;rcases vC xs key ad plain with ⟨_, h, _⟩ | ⟨_, k, _, _, h⟩ | ⟨h0, h1, h2, h⟩
  ·rw [h]; exact hf
  ·rw [h]; exact hf
  ·rw [h];obtain ⟨g1, g2⟩ := EU h0;unfold pq;simp only [cond_true, Bool.and_eq_true, decide_eq_true_eq, Bool.not_eq_true', List.any_eq_false, List.mem_range, List.length_append, List.length_singleton];refine ⟨by omega, fun i hi => ?_⟩;by_cases hl : i < xs.length
   ·rw [UE hl, f2 i hl]; simp
   ·obtain rfl : i = xs.length := by omega
    unfold FN;rw [PU];rw [any_congr (d := fun _ => false) fun j hj => by
     rw [Ny hj];have := h2 j hj;unfold EJ at this ⊢
     exact this]
    rw [Jl, g1, au rfl, aA (show ¬ plain.length > 65536 by omega), au rfl];simp
theorem Q9 (n : Int) (k : Nat) : 0 <= byteOf n k /\ byteOf n k < 256 := by unfold byteOf; omega
theorem UG {xs : List KK} (h : pq (true, xs) = true) {i : Nat} (hi : i < xs.length) : (rd k0 xs (i : Int)).2.2.2 = txt ((i + 1 : Nat) : Int) (rd k0 xs (i : Int)).2.2.1 /\ (rd k0 xs (i : Int)).2.2.1.length <= 65536 := by
 have := (PS h).2 i hi;unfold FN at this;simp only [Bool.or_eq_false_iff, Bool.not_eq_false', decide_eq_true_eq, decide_eq_false_iff_not] at this;exact ⟨by rw [this.1.2]; congr 1, by omega⟩
theorem PV (n : Int) (p : List Int) : (txt n p).length = p.length + 16 := by simp [txt, Bl]; omega
theorem aap (n : Int) (p : List Int) : Bs (txt n p) := fun x hx => by
 unfold txt at hx;rcases List.mem_append.1 hx with h | h
 ·obtain ⟨i, _, rfl⟩ := List.mem_map.1 h;exact Q9 _ _
 ·rw [(List.mem_replicate.1 h).2]; exact ⟨by decide, by decide⟩
end Go.AM
end
section
namespace Go.AM
def vB (v : VV) : Prop := ∀ k ∈ v.2, Bs k.2.2.1
def Ext (v w : VV) : Prop := v.1 = w.1 /\ ∃ l, w.2 = v.2 ++ l
theorem Ext.trans {u v w : VV} (a : Ext u v) (b : Ext v w) : Ext u w := by
 obtain ⟨l, hl⟩ := a.2; obtain ⟨m, hm⟩ := b.2;exact ⟨a.1.trans b.1, l ++ m, by rw [hm, hl, List.append_assoc]⟩
theorem WS {v : VV} {key : List Int} {ad : List (List Int)} {s : List Int} (he : (jc v key ad s).2.2 ≠ 0) : (jc v key ad s).1 = v /\ (jc v key ad s).2.1 = [] := by
 obtain ⟨b, xs⟩ := v;cases b with
 | false =>
  refine ⟨rfl, ?_⟩;simp only [jc, cond_false] at he ⊢
  unfold vw at he ⊢
  by_cases h : sF key ad = 0
  ·rw [if_pos h] at he ⊢
   by_cases h' : s.length > 65536
   ·rw [if_pos h']
   ·rw [if_neg h'] at he; exact absurd rfl he
  ·rw [if_neg h]
 | true =>
  simp only [jc, cond_true] at he ⊢
  rcases vC xs key ad s with ⟨_, h, h'⟩ | ⟨_, _, _, _, h⟩ | ⟨_, _, _, h⟩
  ·rw [h, h']; exact ⟨rfl, rfl⟩
  ·rw [h] at he; exact absurd rfl he
  ·rw [h] at he; exact absurd rfl he
theorem NP {xs : List KK} {key : List Int} {ad : List (List Int)} {s : List Int} (hf : pq (true, xs) = true) (he : (qX xs key ad s).2.2 = 0) :
  zi key ad s.length = 0 /\ ∃ k, k < (qX xs key ad s).1.length /\ rd k0 (qX xs key ad s).1 (k : Int) = (key, ad, s, (qX xs key ad s).2.1) := by
 rcases vC xs key ad s with ⟨h, _, _⟩ | ⟨h0, k, hk, ha, h⟩ | ⟨h0, h1, h2, h⟩
 ·exact absurd he h
 ·rw [h];refine ⟨h0, k, hk, ?_⟩;unfold EJ at ha;simp only [Bool.and_eq_true, decide_eq_true_eq] at ha;obtain ⟨⟨a1, a2⟩, a3⟩ := ha;rw [<- a1, <- a2, <- a3]
 ·rw [h];exact ⟨h0, xs.length, by simp, PU⟩
theorem UH {v : VV} {key : List Int} {ad : List (List Int)} {s : List Int} (hf : pq v = true) (he : (jc v key ad s).2.2 = 0) :
  qC (key, ad, [], []) = 0 /\ s.length <= 65536 /\ (jc v key ad s).2.1.length = s.length + 16 /\ Bs (jc v key ad s).2.1 := by
 have hfw := UF hf key ad s;obtain ⟨b, xs⟩ := v;cases b with
 | false =>
  simp only [jc, cond_false] at he ⊢
  have h0 : sF key ad = 0 /\ s.length <= 65536 := by
   unfold vw at he;by_cases h : sF key ad = 0
   ·rw [if_pos h] at he;by_cases h' : s.length > 65536
    ·rw [if_pos h'] at he; exact absurd he (by decide)
    ·exact ⟨h, by omega⟩
   ·rw [if_neg h] at he; exact absurd he h
  have hr : vw key ad s = (EP key ad s, 0) := by unfold vw; rw [if_pos h0.1, if_neg (by omega)]
  rw [hr];exact ⟨by rw [<- ET]; exact h0.1, h0.2, Ae _ _ _, PO _ _ _⟩
 | true =>
  simp only [jc, cond_true] at he hfw ⊢
  obtain ⟨h0, k, hk, e⟩ := NP hf he;obtain ⟨g1, g2⟩ := EU h0;have ht := (UG hfw hk).1;rw [e] at ht;simp only at ht;refine ⟨g1, g2, by rw [ht, PV], by rw [ht]; exact aap _ _⟩
theorem EW {xs : List KK} {key : List Int} {ad : List (List Int)} {t : List Int} (h : (ES xs key ad t).2 = 0) :
  ∃ k, k < xs.length /\ rd k0 xs (k : Int) = (key, ad, (ES xs key ad t).1, t) := by
 unfold ES at h ⊢
 by_cases h0 : qC (key, ad, [], []) = 0
 ·rw [if_pos h0] at h ⊢
  by_cases h1 : t.length < 16
  ·rw [if_pos h1] at h; exact absurd h (by decide)
  ·rw [if_neg h1] at h ⊢
   by_cases h2 : t.length > 65552
   ·rw [if_pos h2] at h; exact absurd h (by decide)
   ·rw [if_neg h2] at h ⊢
    cases hq : (List.range xs.length).find? (fun j : Nat => hit key ad t (rd k0 xs (j : Int))) with
    | none => rw [hq] at h; exact absurd h (show (17 : Int) ≠ 0 by decide)
    | some k =>
     have hh : hit key ad t (rd k0 xs (k : Int)) = true := by simpa using List.find?_some hq
     unfold hit at hh;simp only [Bool.and_eq_true, decide_eq_true_eq] at hh;obtain ⟨⟨a1, a2⟩, a3⟩ := hh;refine ⟨k, List.mem_range.1 (List.mem_of_find?_eq_some hq), ?_⟩;simp only;rw [<- a1, <- a2, <- a3]
 ·rw [if_neg h0] at h; exact absurd h h0
theorem Lj {v : VV} {key : List Int} {ad : List (List Int)} {t : List Int} (hf : pq v = true) (hb : vB v) (h : (h_ v key ad t).2 = 0) :
  qC (key, ad, [], []) = 0 /\ (h_ v key ad t).1.length <= 65536 /\ t.length = (h_ v key ad t).1.length + 16 /\ Bs (h_ v key ad t).1 := by
 obtain ⟨b, xs⟩ := v;cases b with
 | false =>
  simp only [h_, cond_false] at h ⊢
  unfold Lh at h ⊢
  by_cases h0 : sF key ad = 0
  ·rw [if_pos h0] at h ⊢
   by_cases h1 : t.length < 16
   ·rw [if_pos h1] at h; exact absurd h (by decide)
   ·rw [if_neg h1] at h ⊢
    by_cases h2 : t.length > 65552
    ·rw [if_pos h2] at h; exact absurd h (by decide)
    ·rw [if_neg h2] at h ⊢
     split at h
     ·rename_i q;rw [if_pos q];have hl : (qV key t).length = t.length - 16 := by unfold qV; rw [vU, List.length_drop]
      refine ⟨by rw [<- ET]; exact h0, by rw [hl]; omega, by rw [hl]; omega, ?_⟩;unfold qV; exact PL _ _ _
     ·exact absurd h (by decide)
  ·rw [if_neg h0] at h; exact absurd h h0
 | true =>
  simp only [h_, cond_true] at h ⊢
  obtain ⟨k, hk, e⟩ := EW h;obtain ⟨f1, f2⟩ := UG hf hk;rw [e] at f1 f2;simp only at f1 f2;refine ⟨?_, f2, (congrArg List.length f1).trans (PV _ _), ?_⟩
  ·unfold ES at h;by_cases h0 : qC (key, ad, [], []) = 0
   ·exact h0
   ·rw [if_neg h0] at h; exact absurd h h0
  ·have := hb (rd k0 xs (k : Int)) (fH (by omega) (by show (k : Int) < (xs.length : Int); omega));rw [e] at this;exact this
theorem v_B {v : VV} (h : Ty.ok (.pair .bool (.lst (.pair .str (.pair (.lst .str) (.pair .str .str))))) v) : vB v := by
 obtain ⟨_, h1, h2⟩ := h;intro k hk;obtain ⟨a, ⟨b1, b2⟩, c, d⟩ := h2 k hk;exact c.2
end Go.AM
end
section
namespace Go.AM
def findF (l : List FF) (kind : Int) : List Int := ((List.range l.length).filter fun k : Nat => decide ((rd f0 l (k : Int)).1 = kind)).map fun k : Nat => (k : Int)
def Bq (l : List FF) (kind : Int) (n : Nat) : List Int := ((List.range n).filter fun k : Nat => decide ((rd f0 l (k : Int)).1 = kind)).map fun k : Nat => (k : Int)
theorem Hr (l : List FF) (kind : Int) (n : Nat) : (Bq l kind n).length <= n := by
 unfold Bq;rw [List.length_map];exact Nat.le_trans (List.length_filter_le _ _) (by simp)
theorem NQ (l : List FF) (kind : Int) (n : Nat) : Bq l kind (n + 1) = if (rd f0 l (n : Int)).1 = kind then Bq l kind n ++ [(n : Int)] else Bq l kind n := by
 unfold Bq;rw [List.range_succ, List.filter_append, List.map_append];by_cases h : (rd f0 l (n : Int)).1 = kind
 ·rw [if_pos h, List.filter_cons_of_pos (by simpa using h)]; rfl
 ·rw [if_neg h, List.filter_cons_of_neg (by simpa using h)]; simp
theorem Ll {l : List FF} (kind : Int) (hl : l.length <= 140737488351232) (h2 : l.length < 8796093022208) : fQ.run .lim (l, kind, ()) = some (findF l kind) := by
 have e := dS (f := fQ.l0 .lim) (fun k => (kind, l, (l.length : Int), (k : Int), Bq l kind k, ())) (n := l.length) (fun k hk => by
  rw [fQ.q0];have hn := Hr l kind k;simp only [fQ.b0, au (show (k : Int) < (l.length : Int) by omega), aG (show (0 : Int) <= (k : Int) by omega) (show (k : Int) < (l.length : Int) by omega), cond_true, nX k (by omega), NQ];by_cases h : (rd f0 l (k : Int)).1 = kind
  ·rw [au h, if_pos h];simp only [cond_true];rw [cond_pos (au (show (Bq l kind k).length + [(k : Int)].length < 8796093022208 by simp; omega))]
  ·rw [aA h, if_neg h]; rfl)
 have e0 : fQ.l0 .lim (kind, l, (l.length : Int), 0, ([] : List Int), ()) = _ := e;simp only [fQ.run, aF (show l.length < 9223372036854775808 by omega), cond_true, e0];rw [fQ.q0];simp only [fQ.b0, aA (show ¬ (l.length : Int) < (l.length : Int) by omega), cond_false, Option.bind_some];rfl
def mg (l : List FF) (kind : Int) : Option Nat := (List.range l.length).find? fun k : Nat => decide ((rd f0 l (k : Int)).1 = kind)
theorem Bv {α : Type} (p : α -> Bool) : ∀ l : List α, l.find? p = (l.filter p).head?
 | [] => rfl
 | a :: l => by
  cases h : p a with
  | true => rw [List.find?_cons_of_pos h, List.filter_cons_of_pos h]; rfl
  | false => rw [List.find?_cons_of_neg (by simp [h]), List.filter_cons_of_neg (by simp [h]), Bv p l]
theorem vF (l : List FF) (kind : Int) : (mg l kind = none /\ findF l kind = []) \/ ∃ k r, mg l kind = some k /\ findF l kind = (k : Int) :: r /\ k < l.length /\ (rd f0 l (k : Int)).1 = kind := by
 unfold mg findF;rw [Bv];cases h : (List.range l.length).filter (fun k : Nat => decide ((rd f0 l (k : Int)).1 = kind)) with
 | nil => exact .inl ⟨rfl, rfl⟩
 | cons k r =>
  have hm : k ∈ (List.range l.length).filter (fun k : Nat => decide ((rd f0 l (k : Int)).1 = kind)) := by rw [h]; exact .head _
  obtain ⟨h1, h2⟩ := List.mem_filter.1 hm;exact .inr ⟨k, _, rfl, rfl, List.mem_range.1 h1, by simpa using h2⟩
theorem Af (l : List FF) (kind : Int) : (findF l kind).length <= l.length := Hr l kind l.length
def Ag (l : List FF) (kind : Int) : List Int × Int :=
 if (findF l kind).length = 0 then ([], 19) else if (findF l kind).length = 1 then ((rd f0 l (rd 0 (findF l kind) 0)).2, 0) else ([], 24)
theorem YR {l : List FF} {kind : Int} (h : (findF l kind).length ≠ 0) : inB 0 ((findF l kind).length : Int) = true /\ inB (rd 0 (findF l kind) 0) (l.length : Int) = true := by
 refine ⟨aG (by omega) (by omega), ?_⟩;rcases vF l kind with ⟨_, q⟩ | ⟨k, r, _, q, hk, _⟩
 ·rw [q] at h; exact absurd rfl h
 ·rw [q];exact aG (show (0 : Int) <= (k : Int) by omega) (show (k : Int) < (l.length : Int) by omega)
theorem UJ {l : List FF} (kind : Int) (hl : l.length < 8796093022208) : qh.run .lim (l, kind, ()) = some ((Ag l kind).1, (Ag l kind).2, ()) := by
 have hn := Af l kind;simp only [qh.run, Ll kind (by omega) hl, Option.bind_some, aF (show (findF l kind).length < 9223372036854775808 by omega), cond_true];unfold Ag;by_cases h0 : (findF l kind).length = 0
 ·rw [au (show ((findF l kind).length : Int) = 0 by omega), if_pos h0]; rfl
 ·rw [aA (show ¬ ((findF l kind).length : Int) = 0 by omega), if_neg h0];obtain ⟨i1, i2⟩ := YR h0;by_cases h1 : (findF l kind).length = 1
  ·rw [au (show ((findF l kind).length : Int) = 1 by omega), if_pos h1];simp only [cond_true, cond_false, i1, i2]
  ·rw [aA (show ¬ ((findF l kind).length : Int) = 1 by omega), if_neg h1]; rfl
def sZ (n : Nat) : Nat := (4 - n % 4) % 4
def zk (s : List Int) : List Int := s ++ List.replicate (sZ s.length) 0
theorem Ah : ∀ n, BM [0] n = List.replicate n (0 : Int)
 | 0 => rfl
 | n + 1 => by rw [BM, Ah n]; rfl
theorem XL (n : Int) : fO .i64 n 3 = n % 4 := by
 show IntKind.i64.wrap ((BitVec.ofInt 64 n &&& BitVec.ofInt 64 3).toNat : Int) = _;rw [BitVec.toNat_and, BitVec.toNat_ofInt, show (BitVec.ofInt 64 3).toNat = 2 ^ 2 - 1 from rfl, Nat.and_two_pow_sub_one_eq_mod];rw [wrap64 (by omega) (by omega)]; omega
theorem Ht {s : List Int} (h : s.length < 4611686018427387904) : kU.run .lim (s, ()) = some (zk s) := by
 have w : IntKind.i64.wrap (0 - (s.length : Int)) = -(s.length : Int) := by rw [wrap64 (by omega) (by omega)]; omega
 have e : fO .i64 (-(s.length : Int)) 3 = (sZ s.length : Int) := by rw [XL]; unfold sZ; omega
 have hp : sZ s.length < 4 := by unfold sZ; omega
 simp only [kU.run, aF (show s.length < 9223372036854775808 by omega), cond_true, w, e];have hr : strings_Repeat.run .lim ([0], (sZ s.length : Int), ()) = some (List.replicate (sZ s.length) 0) := by
  show FD ([0], (sZ s.length : Int), ()) = _;unfold FD;simp only [Int.toNat_natCast];rw [au (show (0 : Int) <= (sZ s.length : Int) by omega), Nat.ble_eq_true_of_le (show [(0 : Int)].length * sZ s.length <= 140737488355328 by simp; omega), Ah]; rfl
 simp only [hr, Option.bind_some];rw [cond_pos (au (show s.length + (List.replicate (sZ s.length) (0 : Int)).length <= maxStr by rw [List.length_replicate]; unfold maxStr; omega))];rfl
def Bz (b : List Int) : Nat := (rd 0 b 2 * 256 + rd 0 b 3).toNat
def Hu (b : List Int) : Prop := ¬ (rd 0 b 0 * 256 + rd 0 b 1 = 16) \/ b.length < 20 + Bz b \/ b.drop 20 ≠ zk ((b.take (20 + Bz b)).drop 20)
open Classical in
noncomputable def xH (b : List Int) : List Int × List Int × Int :=
 if b.length < 4 then ([], [], 11) else if Hu b then ([], [], 10) else ((b.take 20).drop 4, (b.take (20 + Bz b)).drop 20, 0)
end Go.AM
end
section
namespace Go.AM
theorem WT {b : List Int} (hb : Bs b) {k : Nat} (h : k < b.length) : B8 (rd 0 b (k : Int)) := hb _ (fH (by omega) (by omega))
theorem PW {α : Type} {d : α} {xs : List α} {n k : Nat} : rd d (xs.drop n) (k : Int) = rd d xs ((n + k : Nat) : Int) := by unfold rd; rw [Int.toNat_natCast, Int.toNat_natCast, List.getD_eq_getElem?_getD, List.getD_eq_getElem?_getD, List.getElem?_drop]
theorem nG {α : Type} {s : List α} {b : Nat} {j : Int} (hj : j = (b : Int)) : cut s 0 j = s.take b := by subst hj; rfl
theorem UK {b : List Int} (hb : Bs b) (hl : b.length < 1000000) : nY.run .lim (b, ()) = some ((xH b).1, (xH b).2.1, (xH b).2.2, ()) := by
 simp only [nY.run, aF (show b.length < 9223372036854775808 by omega), cond_true];have hc0 : cut b 2 (b.length : Int) = b.drop 2 := vT (a := 2) rfl;have hc1 : cut b 0 2 = b.take 2 := nG (b := 2) rfl;simp only [hc0, hc1];unfold xH;by_cases h2 : b.length < 2
 ·rw [au (show (b.length : Int) < 2 by omega), if_pos (by omega)]; rfl
 rw [aA (show ¬ (b.length : Int) < 2 by omega)];have l2 : (b.drop 2).length = b.length - 2 := List.length_drop;have lt2 : (b.take 2).length = 2 := by rw [List.length_take]; omega
 simp only [cond_false, aT (show (0 : Int) <= 0 by omega) (show (0 : Int) <= 2 by omega) (show (2 : Int) <= (b.length : Int) by omega), aT (show (0 : Int) <= 2 by omega) (show (2 : Int) <= (b.length : Int) by omega) (Int.le_refl _), cond_true, lt2,
  aG (show (0 : Int) <= 0 by omega) (show (0 : Int) < ((2 : Nat) : Int) by omega), aG (show (0 : Int) <= 1 by omega) (show (1 : Int) < ((2 : Nat) : Int) by omega), aF (show (b.drop 2).length < 9223372036854775808 by omega)]
 by_cases h4 : b.length < 4
 ·rw [au (show ((b.drop 2).length : Int) < 2 by omega), if_pos h4]; rfl
 rw [aA (show ¬ ((b.drop 2).length : Int) < 2 by omega), if_neg h4];have hc2 : cut (b.drop 2) 0 2 = (b.drop 2).take 2 := nG (b := 2) rfl;have hc3 : cut (b.drop 2) 2 ((b.drop 2).length : Int) = b.drop 4 := (show cut (b.drop 2) 2 ((b.drop 2).length : Int) = (b.drop 2).drop 2 from vT (a := 2) rfl).trans (by rw [List.drop_drop]);have lt3 : ((b.drop 2).take 2).length = 2 := by rw [List.length_take]; omega
 have l4 : (b.drop 4).length = b.length - 4 := List.length_drop;have r0 : rd 0 (b.take 2) 0 = rd 0 b 0 := nR (k := 0) (n := 2) (by decide);have r1 : rd 0 (b.take 2) 1 = rd 0 b 1 := nR (k := 1) (n := 2) (by decide);have r2 : rd 0 ((b.drop 2).take 2) 0 = rd 0 b 2 := (nR (k := 0) (n := 2) (by decide)).trans (PW (n := 2) (k := 0));have r3 : rd 0 ((b.drop 2).take 2) 1 = rd 0 b 3 := (nR (k := 1) (n := 2) (by decide)).trans (PW (n := 2) (k := 1));have b0 : B8 (rd 0 b 0) := WT hb (k := 0) (by omega);have b1 : B8 (rd 0 b 1) := WT hb (k := 1) (by omega);have b2 : B8 (rd 0 b 2) := WT hb (k := 2) (by omega);have b3 : B8 (rd 0 b 3) := WT hb (k := 3) (by omega);have hm : rd 0 b 2 * 256 + rd 0 b 3 = (Bz b : Int) := by unfold Bz; omega
 have hm2 : Bz b < 65536 := by unfold Bz; omega
 simp only [cond_false, hc2, hc3, lt3, r0, r1, r2, r3, aag b0 b1, aag b2 b3, hm, aT (show (0 : Int) <= 0 by omega) (show (0 : Int) <= 2 by omega) (show (2 : Int) <= ((b.drop 2).length : Int) by omega), aT (show (0 : Int) <= 2 by omega) (show (2 : Int) <= ((b.drop 2).length : Int) by omega) (Int.le_refl _), cond_true,
  aG (show (0 : Int) <= 0 by omega) (show (0 : Int) < ((2 : Nat) : Int) by omega), aG (show (0 : Int) <= 1 by omega) (show (1 : Int) < ((2 : Nat) : Int) by omega)]
 by_cases hn : rd 0 b 0 * 256 + rd 0 b 1 = 16
 ·simp only [hn, decide_true, Bool.not_true, cond_false, aF (show (b.drop 4).length < 9223372036854775808 by omega), cond_true];by_cases h20 : b.length < 20
  ·rw [au (show ((b.drop 4).length : Int) < 16 by omega), if_pos (show Hu b from .inr (.inl (by omega)))]; rfl
  rw [aA (show ¬ ((b.drop 4).length : Int) < 16 by omega)];have hc4 : cut (b.drop 4) 0 16 = (b.take 20).drop 4 := (show cut (b.drop 4) 0 16 = (b.drop 4).take 16 from nG (b := 16) rfl).trans (by rw [List.drop_take]);have hc5 : cut (b.drop 4) 16 ((b.drop 4).length : Int) = b.drop 20 := (show cut (b.drop 4) 16 ((b.drop 4).length : Int) = (b.drop 4).drop 16 from vT (a := 16) rfl).trans (by rw [List.drop_drop]);have l20 : (b.drop 20).length = b.length - 20 := List.length_drop;simp only [cond_false, hc4, hc5, aT (show (0 : Int) <= 0 by omega) (show (0 : Int) <= 16 by omega) (show (16 : Int) <= ((b.drop 4).length : Int) by omega), aT (show (0 : Int) <= 16 by omega) (show (16 : Int) <= ((b.drop 4).length : Int) by omega) (Int.le_refl _), cond_true, aF (show (b.drop 20).length < 9223372036854775808 by omega)];by_cases hmm : b.length < 20 + Bz b
  ·rw [au (show ((b.drop 20).length : Int) < (Bz b : Int) by omega), if_pos (show Hu b from .inr (.inl hmm))]; rfl
  rw [aA (show ¬ ((b.drop 20).length : Int) < (Bz b : Int) by omega)];have hc6 : cut (b.drop 20) 0 (Bz b : Int) = (b.drop 20).take (Bz b) := nG rfl;have hc7 : cut (b.drop 20) (Bz b : Int) ((b.drop 20).length : Int) = (b.drop 20).drop (Bz b) := vT rfl;have ls : ((b.drop 20).take (Bz b)).length = Bz b := by rw [List.length_take]; omega
  have hst : (b.take (20 + Bz b)).drop 20 = (b.drop 20).take (Bz b) := by rw [List.drop_take]; congr 1; omega
  have lsum : ((b.drop 20).take (Bz b)).length + ((b.drop 20).drop (Bz b)).length <= maxStr := by rw [ls, List.length_drop]; unfold maxStr; omega
  simp only [cond_false, hc6, hc7, aT (show (0 : Int) <= 0 by omega) (show (0 : Int) <= (Bz b : Int) by omega) (show (Bz b : Int) <= ((b.drop 20).length : Int) by omega), aT (show (0 : Int) <= (Bz b : Int) by omega) (show (Bz b : Int) <= ((b.drop 20).length : Int) by omega) (Int.le_refl _), cond_true];rw [cond_pos (au lsum), Ht (show ((b.drop 20).take (Bz b)).length < 4611686018427387904 by omega)];simp only [Option.bind_some, List.take_append_drop];by_cases hf : b.drop 20 = zk ((b.drop 20).take (Bz b))
  ·rw [au hf, if_neg (show ¬ Hu b from fun q => by
    rcases q with q | q | q
    ·exact q hn
    ·exact hmm q
    ·exact q (by rw [hst]; exact hf)), hst]; rfl
  ·rw [aA hf, if_pos (show Hu b from .inr (.inr (by rw [hst]; exact hf)))]; rfl
 ·rw [aA hn, if_pos (show Hu b from .inl hn)]; rfl
theorem aaq {b : List Int} (hb : Bs b) : Bs (xH b).1 /\ Bs (xH b).2.1 /\ (xH b).1.length <= b.length /\ (xH b).2.1.length <= b.length := by
 unfold xH;split
 ·exact ⟨fun x h => (by cases h), fun x h => (by cases h), by simp, by simp⟩
 ·split
  ·exact ⟨fun x h => (by cases h), fun x h => (by cases h), by simp, by simp⟩
  ·exact ⟨(hb.take _).drop _, (hb.take _).drop _, by rw [List.length_drop, List.length_take]; omega, by rw [List.length_drop, List.length_take]; omega⟩
theorem WU {a b : List FF} (ha : a.length < 9223372036854775808) (hb : b.length < 9223372036854775808) : bM.run .lim (a, b, ()) = some (decide (a = b)) := by
 simp only [bM.run, aF ha, aF hb, cond_true];by_cases hl : a.length = b.length
 ·rw [au (show (a.length : Int) = (b.length : Int) by omega)];have e := lD (f := bM.l0 .lim) (fun k => (a, b, (k : Int), ())) a.length (fun k : Nat => !decide (rd f0 a (k : Int) = rd f0 b (k : Int))) (some (.inl (false, ()))) (fun k hk => by
   rw [bM.q0];have w : IntKind.i64.wrap ((k : Int) + 1) = ((k + 1 : Nat) : Int) := by rw [wrap64 (by omega) (by omega)]; omega
   have hd : ((decide ((rd f0 a (k : Int)).1 = (rd f0 b (k : Int)).1)) && (decide ((rd f0 a (k : Int)).2 = (rd f0 b (k : Int)).2))) = decide (rd f0 a (k : Int) = rd f0 b (k : Int)) := by rw [Bool.eq_iff_iff]; simp [Prod.ext_iff]
   simp only [bM.b0, aF ha, au (show (k : Int) < (a.length : Int) by omega), aG (show (0 : Int) <= (k : Int) by omega) (show (k : Int) < (a.length : Int) by omega), aG (show (0 : Int) <= (k : Int) by omega) (show (k : Int) < (b.length : Int) by omega), cond_true, w, hd])
  rw [Jc hl] at e;have e0 : bM.l0 .lim (a, b, 0, ()) = _ := e;simp only [Bool.not_true, cond_false, e0];by_cases hq : a = b
  ·rw [au hq];simp only [Bool.not_true, cond_false];rw [bM.q0];simp only [bM.b0, aF ha, aA (show ¬ (a.length : Int) < (a.length : Int) by omega), cond_true, cond_false, Option.bind_some]
  ·rw [aA hq]; rfl
 ·rw [aA (show ¬ (a.length : Int) = (b.length : Int) by omega), aA (show ¬ a = b from fun q => hl (by rw [q]))]; rfl
theorem vG {c : Bool} {x : Option Bool} {d : Bool} (h : x = some d) : (bif c then x else some false) = some (c && d) := by cases c <;> simp [h]
def Hw (a b : PK) : Bool := ((((((((((((decide (a.1 = b.1) && decide (a.2.1 = b.2.1)) && decide (a.2.2.1 = b.2.2.1)) && decide (a.2.2.2.1 = b.2.2.2.1)) && decide (a.2.2.2.2.1 = b.2.2.2.2.1)) && decide (a.2.2.2.2.2.1 = b.2.2.2.2.2.1)) && decide (a.2.2.2.2.2.2.1 = b.2.2.2.2.2.2.1)) && decide (a.2.2.2.2.2.2.2.1 = b.2.2.2.2.2.2.2.1)) && decide (a.2.2.2.2.2.2.2.2.1 = b.2.2.2.2.2.2.2.2.1)) && decide (a.2.2.2.2.2.2.2.2.2.1 = b.2.2.2.2.2.2.2.2.2.1)) && decide (a.2.2.2.2.2.2.2.2.2.2.1 = b.2.2.2.2.2.2.2.2.2.2.1)) && decide (a.2.2.2.2.2.2.2.2.2.2.2.1 = b.2.2.2.2.2.2.2.2.2.2.2.1)) && decide (a.2.2.2.2.2.2.2.2.2.2.2.2.1 = b.2.2.2.2.2.2.2.2.2.2.2.2.1)) && decide (a.fs = b.fs)
theorem Q_ (a b : PK) : Hw a b = true ↔ a = b := by
 obtain ⟨a1, a2, a3, a4, a5, a6, a7, a8, a9, a10, a11, a12, Vm, al⟩ := a;obtain ⟨b1, b2, b3, b4, b5, b6, b7, b8, b9, b10, b11, b12, b13, bl⟩ := b;unfold Hw;simp only [Bool.and_eq_true, decide_eq_true_eq, Prod.mk.injEq];constructor
 ·rintro ⟨⟨⟨⟨⟨⟨⟨⟨⟨⟨⟨⟨⟨h1, h2⟩, h3⟩, h4⟩, h5⟩, h6⟩, h7⟩, h8⟩, h9⟩, h10⟩, h11⟩, h12⟩, h13⟩, Zu⟩
  exact ⟨h1, h2, h3, h4, h5, h6, h7, h8, h9, h10, h11, h12, h13, Zu⟩
 ·rintro ⟨h1, h2, h3, h4, h5, h6, h7, h8, h9, h10, h11, h12, h13, Zu⟩
  exact ⟨⟨⟨⟨⟨⟨⟨⟨⟨⟨⟨⟨⟨h1, h2⟩, h3⟩, h4⟩, h5⟩, h6⟩, h7⟩, h8⟩, h9⟩, h10⟩, h11⟩, h12⟩, h13⟩, Zu⟩
theorem Rf {a b : PK} (ha : a.fs.length < 9223372036854775808) (hb : b.fs.length < 9223372036854775808) : iG.run .lim (a, b, ()) = some (Hw a b) := by
 simp only [iG.run];rw [vG (WU ha hb)];simp only [Option.bind_some];generalize hx : (((((((decide (a.1 = b.1) && decide (a.2.1 = b.2.1)) && decide (a.2.2.1 = b.2.2.1)) && decide (a.2.2.2.1 = b.2.2.2.1)) && decide (a.2.2.2.2.1 = b.2.2.2.2.1)) && decide (a.2.2.2.2.2.1 = b.2.2.2.2.2.1)) && decide (a.2.2.2.2.2.2.1 = b.2.2.2.2.2.2.1)) && decide (a.2.2.2.2.2.2.2.1 = b.2.2.2.2.2.2.2.1)) = x;have hn : ((((((((!(decide (a.1 = b.1))) || (!(decide (a.2.1 = b.2.1)))) || (!(decide (a.2.2.1 = b.2.2.1)))) || (!(decide (a.2.2.2.1 = b.2.2.2.1)))) || (!(decide (a.2.2.2.2.1 = b.2.2.2.2.1)))) || (!(decide (a.2.2.2.2.2.1 = b.2.2.2.2.2.1)))) || (!(decide (a.2.2.2.2.2.2.1 = b.2.2.2.2.2.2.1)))) || (!(decide (a.2.2.2.2.2.2.2.1 = b.2.2.2.2.2.2.2.1)))) = !x := by rw [<- hx]; simp only [Bool.not_and]
 rw [hn];have hs : Hw a b = (x && (((((decide (a.2.2.2.2.2.2.2.2.1 = b.2.2.2.2.2.2.2.2.1) && decide (a.2.2.2.2.2.2.2.2.2.1 = b.2.2.2.2.2.2.2.2.2.1)) && decide (a.2.2.2.2.2.2.2.2.2.2.1 = b.2.2.2.2.2.2.2.2.2.2.1)) && decide (a.2.2.2.2.2.2.2.2.2.2.2.1 = b.2.2.2.2.2.2.2.2.2.2.2.1)) && decide (a.2.2.2.2.2.2.2.2.2.2.2.2.1 = b.2.2.2.2.2.2.2.2.2.2.2.2.1)) && decide (a.fs = b.fs))) := by
  unfold Hw;rw [<- hx];simp only [Bool.and_assoc]
 rw [hs];cases x with
 | false => rfl
 | true =>
  simp only [Bool.not_true, cond_false, Bool.true_and];congr 1;rw [Bool.eq_iff_iff];simp only [Bool.and_eq_true];constructor
  ·rintro ⟨h, _, k⟩; exact ⟨h, k⟩
  ·rintro ⟨h, k⟩; exact ⟨h, h, k⟩
abbrev NT := PK × List FF × List FF
abbrev n0 : NT := (p0, ([], []))
end Go.AM
end
section
namespace Go.AM
noncomputable def kF (v : VV) (s key : List Int) : NT × Int :=
 if NI s = 0 then
  match mg (iy s).fs 1028 with
  | none => (n0, 19)
  | some k =>
   if (xH (rd f0 (iy s).fs (k : Int)).2).2.2 = 0 then
    if (h_ v key [s.take (48 + (aX ((iy s).fs.take k)).length), (xH (rd f0 (iy s).fs (k : Int)).2).1] (xH (rd f0 (iy s).fs (k : Int)).2).2.1).2 = 0 then
     if (EG (h_ v key [s.take (48 + (aX ((iy s).fs.take k)).length), (xH (rd f0 (iy s).fs (k : Int)).2).1] (xH (rd f0 (iy s).fs (k : Int)).2).2.1).1.length (h_ v key [s.take (48 + (aX ((iy s).fs.take k)).length), (xH (rd f0 (iy s).fs (k : Int)).2).1] (xH (rd f0 (iy s).fs (k : Int)).2).2.1).1 []).2 = 0 then
      ((PK.cut (iy s) [], ((iy s).fs.take k, (EG (h_ v key [s.take (48 + (aX ((iy s).fs.take k)).length), (xH (rd f0 (iy s).fs (k : Int)).2).1] (xH (rd f0 (iy s).fs (k : Int)).2).2.1).1.length (h_ v key [s.take (48 + (aX ((iy s).fs.take k)).length), (xH (rd f0 (iy s).fs (k : Int)).2).1] (xH (rd f0 (iy s).fs (k : Int)).2).2.1).1 []).1)), 0)
     else (n0, (EG (h_ v key [s.take (48 + (aX ((iy s).fs.take k)).length), (xH (rd f0 (iy s).fs (k : Int)).2).1] (xH (rd f0 (iy s).fs (k : Int)).2).2.1).1.length (h_ v key [s.take (48 + (aX ((iy s).fs.take k)).length), (xH (rd f0 (iy s).fs (k : Int)).2).1] (xH (rd f0 (iy s).fs (k : Int)).2).2.1).1 []).2)
    else (n0, (h_ v key [s.take (48 + (aX ((iy s).fs.take k)).length), (xH (rd f0 (iy s).fs (k : Int)).2).1] (xH (rd f0 (iy s).fs (k : Int)).2).2.1).2)
   else (n0, (xH (rd f0 (iy s).fs (k : Int)).2).2.2)
 else (n0, NI s)
theorem YS {v : VV} {key : List Int} {r : PK} (h : r.fs.length <= 16) :
  iF.l0 .lim (r.2.2.2.2.2.2.2.2.2.2.2.2.2, (r.2.2.2.2.2.2.2.2.2.2.2.2.2.length : Int), 0, key, v.1, v.2, 0, 0, 0, 0, 0, 0, 0, 0, 0, 0, 0, 0, 0, r.1, r.2.1, r.2.2.1, r.2.2.2.1, r.2.2.2.2.1, r.2.2.2.2.2.1, r.2.2.2.2.2.2.1, r.2.2.2.2.2.2.2.1, r.2.2.2.2.2.2.2.2.1, r.2.2.2.2.2.2.2.2.2.1, r.2.2.2.2.2.2.2.2.2.2.1, r.2.2.2.2.2.2.2.2.2.2.2.1, r.2.2.2.2.2.2.2.2.2.2.2.2.1, r.2.2.2.2.2.2.2.2.2.2.2.2.2, ()) = match mg r.fs 1028 with
   | some k => some (.inl ((k : Int), key, v.1, v.2, 0, 0, 0, 0, 0, 0, 0, 0, 0, 0, 0, 0, 0, r.1, r.2.1, r.2.2.1, r.2.2.2.1, r.2.2.2.2.1, r.2.2.2.2.2.1, r.2.2.2.2.2.2.1, r.2.2.2.2.2.2.2.1, r.2.2.2.2.2.2.2.2.1, r.2.2.2.2.2.2.2.2.2.1, r.2.2.2.2.2.2.2.2.2.2.1, r.2.2.2.2.2.2.2.2.2.2.2.1, r.2.2.2.2.2.2.2.2.2.2.2.2.1, r.2.2.2.2.2.2.2.2.2.2.2.2.2, ()))
   | none => some (.inr (key, v.1, v.2, 0, 0, 0, 0, 0, 0, 0, 0, 0, 0, 0, 0, 0, r.1, r.2.1, r.2.2.1, r.2.2.2.1, r.2.2.2.2.1, r.2.2.2.2.2.1, r.2.2.2.2.2.2.1, r.2.2.2.2.2.2.2.1, r.2.2.2.2.2.2.2.2.1, r.2.2.2.2.2.2.2.2.2.1, r.2.2.2.2.2.2.2.2.2.2.1, r.2.2.2.2.2.2.2.2.2.2.2.1, r.2.2.2.2.2.2.2.2.2.2.2.2.1, r.2.2.2.2.2.2.2.2.2.2.2.2.2, ())) := by
 have h : r.2.2.2.2.2.2.2.2.2.2.2.2.2.length <= 16 := h;have e := lY (f := iF.l0 .lim) (fun j => (r.2.2.2.2.2.2.2.2.2.2.2.2.2, (r.2.2.2.2.2.2.2.2.2.2.2.2.2.length : Int), (j : Int), key, v.1, v.2, 0, 0, 0, 0, 0, 0, 0, 0, 0, 0, 0, 0, 0, r.1, r.2.1, r.2.2.1, r.2.2.2.1, r.2.2.2.2.1, r.2.2.2.2.2.1, r.2.2.2.2.2.2.1, r.2.2.2.2.2.2.2.1, r.2.2.2.2.2.2.2.2.1, r.2.2.2.2.2.2.2.2.2.1, r.2.2.2.2.2.2.2.2.2.2.1, r.2.2.2.2.2.2.2.2.2.2.2.1, r.2.2.2.2.2.2.2.2.2.2.2.2.1, r.2.2.2.2.2.2.2.2.2.2.2.2.2, ())) r.2.2.2.2.2.2.2.2.2.2.2.2.2.length (fun j : Nat => decide ((rd f0 r.2.2.2.2.2.2.2.2.2.2.2.2.2 (j : Int)).1 = 1028)) (fun j => some (.inl ((j : Int), key, v.1, v.2, 0, 0, 0, 0, 0, 0, 0, 0, 0, 0, 0, 0, 0, r.1, r.2.1, r.2.2.1, r.2.2.2.1, r.2.2.2.2.1, r.2.2.2.2.2.1, r.2.2.2.2.2.2.1, r.2.2.2.2.2.2.2.1, r.2.2.2.2.2.2.2.2.1, r.2.2.2.2.2.2.2.2.2.1, r.2.2.2.2.2.2.2.2.2.2.1, r.2.2.2.2.2.2.2.2.2.2.2.1, r.2.2.2.2.2.2.2.2.2.2.2.2.1, r.2.2.2.2.2.2.2.2.2.2.2.2.2, ()))) (fun k hk => by
  rw [iF.q0];have hr : rY.run .lim (rd ((0 : Int), ([] : List Int)) r.2.2.2.2.2.2.2.2.2.2.2.2.2 (k : Int), ()) = some (decide ((rd f0 r.2.2.2.2.2.2.2.2.2.2.2.2.2 (k : Int)).1 = 1028)) := rfl;simp only [iF.b0, au (show (k : Int) < (r.2.2.2.2.2.2.2.2.2.2.2.2.2.length : Int) by omega), aG (show (0 : Int) <= (k : Int) by omega) (show (k : Int) < (r.2.2.2.2.2.2.2.2.2.2.2.2.2.length : Int) by omega), cond_true, hr, Option.bind_some, nX k (by omega)])
 have e0 : iF.l0 .lim (r.2.2.2.2.2.2.2.2.2.2.2.2.2, (r.2.2.2.2.2.2.2.2.2.2.2.2.2.length : Int), 0, key, v.1, v.2, 0, 0, 0, 0, 0, 0, 0, 0, 0, 0, 0, 0, 0, r.1, r.2.1, r.2.2.1, r.2.2.2.1, r.2.2.2.2.1, r.2.2.2.2.2.1, r.2.2.2.2.2.2.1, r.2.2.2.2.2.2.2.1, r.2.2.2.2.2.2.2.2.1, r.2.2.2.2.2.2.2.2.2.1, r.2.2.2.2.2.2.2.2.2.2.1, r.2.2.2.2.2.2.2.2.2.2.2.1, r.2.2.2.2.2.2.2.2.2.2.2.2.1, r.2.2.2.2.2.2.2.2.2.2.2.2.2, ()) = _ := e;rw [e0];unfold mg;cases hq : (List.range r.fs.length).find? (fun k : Nat => decide ((rd f0 r.fs (k : Int)).1 = 1028)) with
 | some k =>
  have hq : (List.range r.2.2.2.2.2.2.2.2.2.2.2.2.2.length).find? (fun k : Nat => decide ((rd f0 r.2.2.2.2.2.2.2.2.2.2.2.2.2 (k : Int)).1 = 1028)) = some k := hq;simp only [hq]
 | none =>
  have hq : (List.range r.2.2.2.2.2.2.2.2.2.2.2.2.2.length).find? (fun k : Nat => decide ((rd f0 r.2.2.2.2.2.2.2.2.2.2.2.2.2 (k : Int)).1 = 1028)) = none := hq;simp only [hq];rw [iF.q0];simp only [iF.b0, aA (show ¬ (r.2.2.2.2.2.2.2.2.2.2.2.2.2.length : Int) < (r.2.2.2.2.2.2.2.2.2.2.2.2.2.length : Int) by omega), cond_false]
end Go.AM
end
section
namespace Go.AM
end Go.AM
end
section
namespace Go.AM
def jd (aH sealed : List Int) : List Int := ((twoS 16 ++ twoS (sealed.length : Int)) ++ aH) ++ zk sealed
theorem Ai {aH sealed : List Int} (hn : aH.length = 16) : (jd aH sealed).length = 20 + sealed.length + sZ sealed.length := by
 unfold jd zk;simp only [List.length_append, jL, List.length_replicate];omega
theorem WV {s : List Int} (h : Bs s) : Bs (zk s) := h.app fun x hx => by rw [(List.mem_replicate.1 hx).2]; decide
theorem WW {aH sealed : List Int} (hn : Bs aH) (hs : Bs sealed) : Bs (jd aH sealed) := (((Ul _).app (Ul _)).app hn).app (WV hs)
noncomputable def oW (v : VV) (key aH ahead : List Int) (inner : List FF) : VV × FF × Int :=
 if aH.length = 16 then
  if ahead.length > 1280 then (v, f0, 12) else
  if qQ inner = 0 then
   if (jc v key [ahead, aH] (qR inner)).2.2 = 0 then ((jc v key [ahead, aH] (qR inner)).1, (1028, jd aH (jc v key [ahead, aH] (qR inner)).2.1), 0)
   else (v, f0, (jc v key [ahead, aH] (qR inner)).2.2)
  else (v, f0, qQ inner)
 else (v, f0, 10)
theorem Hy {v : VV} {key : List Int} {ad : List (List Int)} {s : List Int} (hf : pq v = true) (hs : s.length <= 65536) : (jc v key ad s).2.1.length <= s.length + 16 := by
 by_cases he : (jc v key ad s).2.2 = 0
 ·rw [(UH hf he).2.2.1]; exact Nat.le_refl _
 ·rw [(WS he).2]; simp
theorem WX {v : VV} (hv : okV v) (hf : pq v = true) {key aH ahead : List Int} {inner : List FF} (hk : key.length < dX) (hkb : Bs key) (hn : aH.length < dX) (ha : ahead.length < dX) (hi : FL inner) :
  uX.run .lim (v, key, aH, ahead, inner, ()) = some ((oW v key aH ahead inner).1, (oW v key aH ahead inner).2.1, (oW v key aH ahead inner).2.2, ()) := by
 have hn' : aH.length < 9223372036854775808 := hn;have ha' : ahead.length < 9223372036854775808 := ha;simp only [uX.run, aF hn', aF ha', cond_true];unfold oW;by_cases h1 : aH.length = 16
 case neg => rw [aA (show ¬ (aH.length : Int) = 16 by omega), if_neg h1]; rfl
 rw [au (show (aH.length : Int) = 16 by omega), if_pos h1];by_cases h2 : ahead.length > 1280
 ·rw [au (show (ahead.length : Int) > 1280 by omega), if_pos h2]; rfl
 rw [aA (show ¬ (ahead.length : Int) > 1280 by omega), if_neg h2];simp only [Bool.not_true, cond_false, He hi, Option.bind_some];by_cases h3 : qQ inner = 0
 case neg => rw [aA h3, if_neg h3]; rfl
 rw [au h3, if_pos h3];have hfl := y8 (l := inner);have T : WQ key [ahead, aH] (qR inner) := ⟨hk, hkb, by simp [dX], fun t ht => by
  simp only [List.mem_cons, List.not_mem_nil, or_false] at ht;rcases ht with rfl | rfl
  ·exact ha
  ·exact hn, nJ (by omega)⟩
 simp only [Bool.not_true, cond_false, WR hv hf T, Option.bind_some];have hsl := Hy (key := key) (ad := [ahead, aH]) hf (show (qR inner).length <= 65536 by omega);generalize jc v key [ahead, aH] (qR inner) = w at hsl;obtain ⟨w1, w2, w3⟩ := w;simp only at hsl ⊢
 by_cases h4 : w3 = 0
 case neg => rw [aA h4, if_neg h4]; rfl
 rw [au h4, if_pos h4];have hp : sZ w2.length < 4 := by unfold sZ; omega
 have hfs : (zk w2).length <= w2.length + 4 := by unfold zk; rw [List.length_append, List.length_replicate]; omega
 have t1 : ∀ n, yV.run .lim (n, ()) = some (twoS n) := fun n => rfl
 simp only [Bool.not_true, cond_false, t1, Option.bind_some, aF (show w2.length < 9223372036854775808 by omega), cond_true];rw [cond_pos (au (show (twoS 16).length + (twoS (w2.length : Int)).length <= maxStr by rw [jL, jL]; decide)), cond_pos (au (show (twoS 16 ++ twoS (w2.length : Int)).length + aH.length <= maxStr by rw [List.length_append, jL, jL, h1]; decide)),
  Ht (show w2.length < 4611686018427387904 by omega)]
 simp only [Option.bind_some];rw [cond_pos (au (show ((twoS 16 ++ twoS (w2.length : Int)) ++ aH).length + (zk w2).length <= maxStr by rw [List.length_append, List.length_append, jL, jL, h1]; unfold maxStr; omega))];rfl
noncomputable def qm (v : VV) (p : PK) (key aH : List Int) (inner : List FF) : VV × List Int × Int :=
 if (findF p.fs 1028).length > 0 then (v, [], 23) else
 if LM p = 0 then
  if (oW v key aH (Hf p) inner).2.2 = 0 then
   if LM (PK.cut p (p.fs ++ [(oW v key aH (Hf p) inner).2.1])) = 0 then ((oW v key aH (Hf p) inner).1, Hf (PK.cut p (p.fs ++ [(oW v key aH (Hf p) inner).2.1])), 0)
   else (v, [], LM (PK.cut p (p.fs ++ [(oW v key aH (Hf p) inner).2.1])))
  else (v, [], (oW v key aH (Hf p) inner).2.2)
 else (v, [], LM p)
theorem WY (p : PK) : (Hf p).length <= 1280 := by
 unfold Hf;split
 ·rename_i h;rw [List.length_append, Ji];have hf : qQ p.fs = 0 := by
   unfold LM at h;split at h
   ·exact h
   ·exact absurd h (by decide)
  have := y8 (l := p.fs);unfold qR at this;rw [if_pos hf] at this;omega
 ·simp
theorem Rh {v : VV} (hf : pq v = true) {key aH ahead : List Int} {inner : List FF} : (oW v key aH ahead inner).2.1.2.length <= 100000 := by
 unfold oW;split
 ·rename_i hn;split
  ·simp
  ·split
   ·split
    ·rename_i h;have hfl := y8 (l := inner);have hsl := Hy (v := v) (key := key) (ad := [ahead, aH]) (s := qR inner) hf (by omega);show (jd aH _).length <= _;rw [Ai hn];have : sZ (jc v key [ahead, aH] (qR inner)).2.1.length < 4 := by unfold sZ; omega
     omega
    ·simp
   ·simp
 ·simp
theorem UL {v : VV} (hv : okV v) (hf : pq v = true) {p : PK} {key aH : List Int} {inner : List FF} (hp : FL p.fs) (hpl : p.fs.length <= 1000000000) (hk : key.length < dX) (hkb : Bs key) (hn : aH.length < dX) (hi : FL inner) :
  qN.run .lim (v, p, key, aH, inner, ()) = some ((qm v p key aH inner).1, (qm v p key aH inner).2.1, (qm v p key aH inner).2.2, ()) := by
 have hff := Af p.fs 1028;have hfe := Ll (l := p.fs) 1028 (by omega) (by omega);have hfe : fQ.run .lim (p.2.2.2.2.2.2.2.2.2.2.2.2.2, 1028, ()) = _ := hfe;simp only [qN.run, hfe, Option.bind_some, aF (show (findF p.fs 1028).length < 9223372036854775808 by omega), cond_true];unfold qm;by_cases h1 : (findF p.fs 1028).length > 0
 ·rw [au (show ((findF p.fs 1028).length : Int) > 0 by omega), if_pos h1]; rfl
 rw [aA (show ¬ ((findF p.fs 1028).length : Int) > 0 by omega), if_neg h1];simp only [cond_false, EI hp, Option.bind_some];by_cases h2 : LM p = 0
 case neg => rw [aA h2, if_neg h2]; rfl
 rw [au h2, if_pos h2];have hwl := WY p;simp only [Bool.not_true, cond_false, WX hv hf hk hkb hn (nJ (show (Hf p).length < 9223372036854775808 by omega)) hi, Option.bind_some];have hal := Rh (v := v) hf (key := key) (aH := aH) (ahead := Hf p) (inner := inner);generalize oW v key aH (Hf p) inner = a at hal;obtain ⟨a1, a2, a3⟩ := a;simp only at hal ⊢
 by_cases h3 : a3 = 0
 case neg => rw [aA h3, if_neg h3]; rfl
 rw [au h3, if_pos h3];have hcl : bI.run .lim (p.2.2.2.2.2.2.2.2.2.2.2.2.2, ()) = some p.fs := by
  simp only [bI.run];rw [cond_pos (au (show ([] : List FF).length + p.fs.length < 2932031007402 by simp; omega))];rfl
 have hq : FL (PK.fs (PK.cut p (p.fs ++ [a2]))) := by
  refine ⟨?_, fun f hf => ?_⟩
  ·show (p.fs ++ [a2]).length < _;rw [List.length_append]; simp; omega
  ·rcases List.mem_append.1 hf with hf | hf
   ·exact hp.2 f hf
   ·rw [List.mem_singleton.1 hf]; omega
 have hw := EI hq;have hw : aK.run .lim ((p.1, p.2.1, p.2.2.1, p.2.2.2.1, p.2.2.2.2.1, p.2.2.2.2.2.1, p.2.2.2.2.2.2.1, p.2.2.2.2.2.2.2.1, p.2.2.2.2.2.2.2.2.1, p.2.2.2.2.2.2.2.2.2.1, p.2.2.2.2.2.2.2.2.2.2.1, p.2.2.2.2.2.2.2.2.2.2.2.1, p.2.2.2.2.2.2.2.2.2.2.2.2.1, p.fs ++ [a2]), ()) = _ := hw;simp only [Bool.not_true, cond_false, hcl, Option.bind_some];rw [cond_pos (au (show p.fs.length + [a2].length < 2932031007402 by simp; omega)), hw];simp only [Option.bind_some];by_cases h4 : LM (PK.cut p (p.fs ++ [a2])) = 0
 ·rw [au h4, if_pos h4]; rfl
 ·rw [aA h4, if_neg h4]; rfl
end Go.AM
end
section
set_option maxRecDepth 100000
namespace Go.AM
theorem UN {n : Nat} {x : Int} (h : B8 x) : Bs (List.replicate n x) := fun y hy => by rw [(List.mem_replicate.1 hy).2]; exact h
theorem Lm {v : VV} {s key : List Int} (h : (kF v s key).2 = 0) : NI s = 0 /\ ∃ k aH sealed, (kF v s key).1.2.1 = (iy s).fs.take k /\
  (h_ v key [s.take (48 + (aX ((iy s).fs.take k)).length), aH] sealed).2 = 0 /\
  EG (h_ v key [s.take (48 + (aX ((iy s).fs.take k)).length), aH] sealed).1.length (h_ v key [s.take (48 + (aX ((iy s).fs.take k)).length), aH] sealed).1 [] = ((kF v s key).1.2.2, 0) := by
 by_cases h0 : NI s = 0
 case neg => unfold kF at h; rw [if_neg h0] at h; exact absurd h h0
 refine ⟨h0, ?_⟩;unfold kF at h ⊢
 rw [if_pos h0] at h ⊢
 revert h;cases mg (iy s).fs 1028 with
 | none => intro h; exact absurd h (show ¬ (19 : Int) = 0 by decide)
 | some k =>
  simp only;by_cases h1 : (xH (rd f0 (iy s).fs (k : Int)).2).2.2 = 0
  case neg => rw [if_neg h1]; intro h; exact absurd h h1
  rw [if_pos h1];generalize (xH (rd f0 (iy s).fs (k : Int)).2).1 = aH;generalize (xH (rd f0 (iy s).fs (k : Int)).2).2.1 = sealed;by_cases h2 : (h_ v key [s.take (48 + (aX ((iy s).fs.take k)).length), aH] sealed).2 = 0
  case neg => rw [if_neg h2]; intro h; exact absurd h h2
  rw [if_pos h2];generalize ho : h_ v key [s.take (48 + (aX ((iy s).fs.take k)).length), aH] sealed = o at h2;by_cases h3 : (EG o.1.length o.1 []).2 = 0
  case neg => rw [if_neg h3]; intro h; exact absurd h h3
  rw [if_pos h3];intro _;refine ⟨k, aH, sealed, rfl, by rw [ho]; exact h2, ?_⟩;rw [ho, <- h3]
end Go.AM
end
section
namespace Go.AM
abbrev RK := Int × List Int × Int
abbrev r0 : RK := (0, ([], 0))
abbrev CK := Int × List Int × List Int
def EX (a : Int) : Int := if a = 15 then 32 else if a = 17 then 64 else 0
theorem UO (a : Int) : lF.run .lim (a, ()) = some (EX a) := by
 simp only [lF.run];unfold EX;by_cases h : a = 15
 ·rw [au h, if_pos h]; rfl
 ·rw [aA h, if_neg h];by_cases h2 : a = 17
  ·rw [au h2, if_pos h2]; rfl
  ·rw [aA h2, if_neg h2]; rfl
theorem Ri (a : Int) : fP.run .lim (a, ()) = some (EX a) := by
 simp only [fP.run];unfold EX;by_cases h : a = 15
 ·rw [au h, if_pos h]; rfl
 ·rw [aA h, if_neg h];by_cases h2 : a = 17
  ·rw [au h2, if_pos h2]; rfl
  ·rw [aA h2, if_neg h2]; rfl
def Rj (k : CK) : Bool := decide (EX k.1 > 0) && decide ((k.2.1.length : Int) = EX k.1) && decide ((k.2.2.length : Int) = EX k.1)
structure KOk (k : CK) : Prop where
 a : k.2.1.length < dX
 b : k.2.2.length < dX
theorem WZ {k : CK} (h : KOk k) : uT.run .lim (k, ()) = some (Rj k) := by
 have h1 : k.2.1.length < 9223372036854775808 := h.a;have h2 : k.2.2.length < 9223372036854775808 := h.b;simp only [uT.run, UO, Option.bind_some, aF h1, aF h2, Bool.or_true, cond_true];rfl
theorem UQ {k : CK} (h : KOk k) : iM.run .lim (k, ()) = some (Rj k) := by
 have h1 : k.2.1.length < 9223372036854775808 := h.a;have h2 : k.2.2.length < 9223372036854775808 := h.b;simp only [iM.run, Ri, Option.bind_some, aF h1, aF h2, Bool.or_true, cond_true];rfl
theorem NR (a b : List (List Int)) (ha : a.length < dX) (hb : b.length < dX) : bJ.run .lim (a, b, ()) = some (decide (a = b)) := by
 have Uz : a.length < 9223372036854775808 := ha;have hb63 : b.length < 9223372036854775808 := hb;simp only [bJ.run, aF Uz, aF hb63, cond_true];by_cases hl : a.length = b.length
 ·have e := lD (f := bJ.l0 .lim) (fun i => (a, b, (i : Int), ())) a.length (fun k => !decide (rd [] a (k : Int) = rd [] b (k : Int))) (some (.inl (false, ()))) (fun k hk => by
   rw [bJ.q0];simp only [bJ.b0, aF Uz, au (show (k : Int) < (a.length : Int) by omega), aG (show (0 : Int) <= (k : Int) by omega) (show (k : Int) < (a.length : Int) by omega), aG (show (0 : Int) <= (k : Int) by omega) (show (k : Int) < (b.length : Int) by omega), cond_true, wk k (by omega)])
  rw [show ((0 : Nat) : Int) = 0 from rfl] at e;rw [au (show (a.length : Int) = (b.length : Int) by omega)];simp only [Bool.not_true, cond_false, e, Jc hl];by_cases h : a = b
  ·rw [au h];simp only [Bool.not_true, cond_false];rw [bJ.q0];simp only [bJ.b0, aF Uz, aA (show ¬ (a.length : Int) < (a.length : Int) by omega), cond_true, cond_false, Option.bind_some]
  ·rw [aA h]; rfl
 ·rw [aA (show ¬ (a.length : Int) = (b.length : Int) by omega), aA (fun h => hl (by rw [h]))]; rfl
end Go.AM
end
