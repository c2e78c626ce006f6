import Derived.Test.YtepefklelohplaaGreatPart1

/-! The functions that the laws of this seat reach, as plain functions, and what these answer; no condition. -/
set_option linter.unusedSimpArgs false
set_option linter.unusedVariables false

section
namespace Go.AM
abbrev VV := Bool × List KK
def okK (k : KK) : Prop := k.1.length < 9223372036854775808 ∧ k.2.1.length < 9223372036854775808 ∧ (∀ s ∈ k.2.1, s.length < 9223372036854775808) ∧ k.2.2.1.length < 9223372036854775808 ∧ k.2.2.2.length < 9223372036854775808
def okV (v : VV) : Prop := v.2.length < 9223372036854775808 ∧ ∀ k ∈ v.2, okK k
theorem okV.at {v : VV} (h : okV v) {k : Nat} (hk : k < v.2.length) : okK (rd k0 v.2 (k : Int)) := h.2 _ (rd_mem (by omega) (by omega))
def refE (k : KK) : Int := if k.1.length ≠ 32 ∧ k.1.length ≠ 64 then 13 else if k.2.1.length > 126 then 18 else 0
theorem refused_eq (k : KK) (h : k.1.length < 9223372036854775808) (h2 : k.2.1.length < 9223372036854775808) : ideal_refused.run .lim (k, ()) = some (refE k) := by
 unfold refE
 simp only [ideal_refused.run, smallN h, smallN h2, cond_true, Bool.or_true]
 by_cases h3 : k.1.length ≠ 32 ∧ k.1.length ≠ 64
 ·rw [cond_pos (by simp (disch := omega) only [smallI_t, inB_t, cutB_t, wrap64, dec_t, dec_f, dec_not, dec_and, dec_or, cond_ite, cond_true, cond_false, Option.bind_some, Option.bind_none, Bool.or_true, Bool.true_or, Bool.and_true, Bool.true_and, Bool.and_false, Bool.false_and, Bool.or_false, Bool.false_or, Bool.not_true, Bool.not_false, Bool.or_self, Bool.and_self, Bool.not_not, if_true, if_false, and_self, true_and, and_true, and_false, false_and, or_true, true_or, or_false, false_or, not_true_eq_false, not_false_eq_true, decide_true, decide_false, eq_self, if_pos, if_neg, mx_eq, mn_eq, dec_t (show ¬ ((k.1.length : Int) = 32) by omega), dec_t (show ¬ ((k.1.length : Int) = 64) by omega)]), if_pos h3]
 ·rw [cond_neg, if_neg h3]
  ·by_cases h4 : k.2.1.length > 126 <;> simp (disch := omega) only [smallI_t, inB_t, cutB_t, wrap64, dec_t, dec_f, dec_not, dec_and, dec_or, cond_ite, cond_true, cond_false, Option.bind_some, Option.bind_none, Bool.or_true, Bool.true_or, Bool.and_true, Bool.true_and, Bool.and_false, Bool.false_and, Bool.or_false, Bool.false_or, Bool.not_true, Bool.not_false, Bool.or_self, Bool.and_self, Bool.not_not, if_true, if_false, and_self, true_and, and_true, and_false, false_and, or_true, true_or, or_false, false_or, not_true_eq_false, not_false_eq_true, decide_true, decide_false, eq_self, if_pos, if_neg, mx_eq, mn_eq]
  ·by_cases h4 : k.1.length = 32
   ·simp (disch := omega) only [smallI_t, inB_t, cutB_t, wrap64, dec_t, dec_f, dec_not, dec_and, dec_or, cond_ite, cond_true, cond_false, Option.bind_some, Option.bind_none, Bool.or_true, Bool.true_or, Bool.and_true, Bool.true_and, Bool.and_false, Bool.false_and, Bool.or_false, Bool.false_or, Bool.not_true, Bool.not_false, Bool.or_self, Bool.and_self, Bool.not_not, if_true, if_false, and_self, true_and, and_true, and_false, false_and, or_true, true_or, or_false, false_or, not_true_eq_false, not_false_eq_true, decide_true, decide_false, eq_self, if_pos, if_neg, mx_eq, mn_eq]
   ·simp (disch := omega) only [smallI_t, inB_t, cutB_t, wrap64, dec_t, dec_f, dec_not, dec_and, dec_or, cond_ite, cond_true, cond_false, Option.bind_some, Option.bind_none, Bool.or_true, Bool.true_or, Bool.and_true, Bool.true_and, Bool.and_false, Bool.false_and, Bool.or_false, Bool.false_or, Bool.not_true, Bool.not_false, Bool.or_self, Bool.and_self, Bool.not_not, if_true, if_false, and_self, true_and, and_true, and_false, false_and, or_true, true_or, or_false, false_or, not_true_eq_false, not_false_eq_true, decide_true, decide_false, eq_self, if_pos, if_neg, mx_eq, mn_eq]
def badK (xs : List KK) (i : Nat) : Bool :=
 !decide (refE (rd k0 xs i) = 0) || decide ((rd k0 xs i).2.2.1.length > 65536) || !decide ((rd k0 xs i).2.2.2 = txt ((i : Int) + 1) (rd k0 xs i).2.2.1) || (List.range i).any fun j => alk (rd k0 xs j) (rd k0 xs i)
def fitV (v : VV) : Bool := bif v.1 then decide (v.2.length ≤ 2048) && !((List.range v.2.length).any (badK v.2)) else decide (v.2.length = 0)
theorem rfit_in (xs : List KK) (i : Nat) (q : KK) (b : Bool) (hi : i ≤ xs.length) (hy : xs.length < 9223372036854775808) (hok : ∀ k ∈ xs, okK k) (hq : okK q) :
  pendulumref22_Fit.l0 .lim ((i : Int), 0, b, xs, q.1, q.2.1, q.2.2.1, q.2.2.2, ()) = bif (List.range i).any (fun j => alk (rd k0 xs j) q) then some (.inl (false, ())) else some (.inr ((i : Int), b, xs, ())) := by
 have e := loop_any (f := pendulumref22_Fit.l0 .lim) (fun j => ((i : Int), (j : Int), b, xs, q.1, q.2.1, q.2.2.1, q.2.2.2, ())) i (fun j => alk (rd k0 xs j) q) (some (.inl (false, ()))) (fun k hk => by
  rw [pendulumref22_Fit.q0]
  have ha := ralike_eq q (rd k0 xs k) hq.2.1 (hok _ (rd_mem (by omega) (by omega))).2.1
  rw [alk_symm] at ha
  have ha : pendulumref22_alike.run .lim ((q.1, q.2.1, q.2.2.1, q.2.2.2), rd k0 xs k, ()) = some (alk (rd k0 xs k) q) := ha
  simp (disch := omega) only [smallI_t, inB_t, cutB_t, wrap64, dec_t, dec_f, dec_not, dec_and, dec_or, cond_ite, cond_true, cond_false, Option.bind_some, Option.bind_none, Bool.or_true, Bool.true_or, Bool.and_true, Bool.true_and, Bool.and_false, Bool.false_and, Bool.or_false, Bool.false_or, Bool.not_true, Bool.not_false, Bool.or_self, Bool.and_self, Bool.not_not, if_true, if_false, and_self, true_and, and_true, and_false, false_and, or_true, true_or, or_false, false_or, not_true_eq_false, not_false_eq_true, decide_true, decide_false, eq_self, if_pos, if_neg, mx_eq, mn_eq, pendulumref22_Fit.b0, wk k (by omega), ha])
 refine e.trans ?_
 rw [pendulumref22_Fit.q0]
 simp (disch := omega) only [smallI_t, inB_t, cutB_t, wrap64, dec_t, dec_f, dec_not, dec_and, dec_or, cond_ite, cond_true, cond_false, Option.bind_some, Option.bind_none, Bool.or_true, Bool.true_or, Bool.and_true, Bool.true_and, Bool.and_false, Bool.false_and, Bool.or_false, Bool.false_or, Bool.not_true, Bool.not_false, Bool.or_self, Bool.and_self, Bool.not_not, if_true, if_false, and_self, true_and, and_true, and_false, false_and, or_true, true_or, or_false, false_or, not_true_eq_false, not_false_eq_true, decide_true, decide_false, eq_self, if_pos, if_neg, mx_eq, mn_eq, pendulumref22_Fit.b0]
theorem refB (q : KK) : ((!decide ((q.1.length : Int) = 32) && !decide ((q.1.length : Int) = 64)) || decide ((q.2.1.length : Int) > 126)) = !decide (refE q = 0) := by
 unfold refE
 by_cases h1 : q.1.length ≠ 32 ∧ q.1.length ≠ 64
 ·rw [if_pos h1, dec_f (show ¬ (q.1.length : Int) = 32 by omega), dec_f (show ¬ (q.1.length : Int) = 64 by omega)]; rfl
 ·rw [if_neg h1]
  have : (!decide ((q.1.length : Int) = 32) && !decide ((q.1.length : Int) = 64)) = false := by
   by_cases h2 : q.1.length = 32
   ·rw [dec_t (by omega)]; rfl
   ·rw [dec_t (show (q.1.length : Int) = 64 by omega), Bool.not_true, Bool.and_false]
  rw [this, Bool.false_or]
  by_cases h3 : q.2.1.length > 126
  ·rw [if_pos h3, dec_t (by omega)]; rfl
  ·rw [if_neg h3, dec_f (by omega)]; rfl
theorem rfit_eq (v : VV) (h : okV v) : pendulumref22_Fit.run .lim (v, ()) = some (fitV v) := by
 obtain ⟨b, xs⟩ := v
 have hx : xs.length < 9223372036854775808 := h.1
 unfold fitV
 simp only [pendulumref22_Fit.run, smallN hx]
 cases b with
 | false => simp only [cond_true, cond_false, Option.bind_some, Option.bind_none, Bool.or_true, Bool.true_or, Bool.and_true, Bool.true_and, Bool.and_false, Bool.false_and, Bool.or_false, Bool.false_or, Bool.not_true, Bool.not_false, Bool.or_self, Bool.and_self, Bool.not_not]; congr 2; simp
 | true =>
  simp only [cond_true, cond_false, Option.bind_some, Option.bind_none, Bool.or_true, Bool.true_or, Bool.and_true, Bool.true_and, Bool.and_false, Bool.false_and, Bool.or_false, Bool.false_or, Bool.not_true, Bool.not_false, Bool.or_self, Bool.and_self, Bool.not_not]
  by_cases h1 : xs.length ≤ 2048
  ·obtain ⟨j, _, e⟩ := loop_hit (f := pendulumref22_Fit.l1 .lim) (fun k => ((k : Int), true, xs, ())) xs.length (badK xs) (fun k => bif (!decide (refE (rd k0 xs k) = 0) || decide ((rd k0 xs k).2.2.1.length > 65536) || !decide ((rd k0 xs k).2.2.2 = txt ((k : Int) + 1) (rd k0 xs k).2.2.1)) then some (.inl (false, ())) else some (.inr (.inl (false, ())))) (fun k hk => by
    rw [pendulumref22_Fit.q1]
    have w := wk k (by omega)
    have hk' : okK (rd k0 xs k) := h.at (v := (true, xs)) hk
    have hn := fun hh => rtext_eq ((k : Int) + 1) (rd k0 xs k).2.2.1 (by omega) (by omega) hh
    have e2 := rfit_in xs k (rd k0 xs k) true (by omega) hx h.2 hk'
    unfold badK
    simp only [pendulumref22_Fit.b1, smallN hx, dec_t (show (k : Int) < (xs.length : Int) by omega), inB_t (show (0 : Int) ≤ k by omega) (show (k : Int) < xs.length by omega), smallN hk'.1, smallN hk'.2.1, smallN hk'.2.2.2.1, w, refB]
    rw [show ((k + 1 : Nat) : Int) = (k : Int) + 1 by omega]
    simp only [cond_true, cond_false, Option.bind_some, Option.bind_none, Bool.or_true, Bool.true_or, Bool.and_true, Bool.true_and, Bool.and_false, Bool.false_and, Bool.or_false, Bool.false_or, Bool.not_true, Bool.not_false, Bool.or_self, Bool.and_self, Bool.not_not]
    by_cases c1 : refE (rd k0 xs k) = 0
    ·by_cases c2 : (rd k0 xs k).2.2.1.length > 65536
     ·simp only [dec_t c1, dec_t c2, dec_t (show ((rd k0 xs k).2.2.1.length : Int) > 65536 by omega)]
      simp only [cond_true, cond_false, Option.bind_some, Option.bind_none, Bool.or_true, Bool.true_or, Bool.and_true, Bool.true_and, Bool.and_false, Bool.false_and, Bool.or_false, Bool.false_or, Bool.not_true, Bool.not_false, Bool.or_self, Bool.and_self, Bool.not_not]
     ·simp only [dec_t c1, dec_f c2, dec_f (show ¬ ((rd k0 xs k).2.2.1.length : Int) > 65536 by omega)]
      simp only [cond_true, cond_false, Option.bind_some, Option.bind_none, Bool.or_true, Bool.true_or, Bool.and_true, Bool.true_and, Bool.and_false, Bool.false_and, Bool.or_false, Bool.false_or, Bool.not_true, Bool.not_false, Bool.or_self, Bool.and_self, Bool.not_not]
      rw [hn (by omega)]
      simp only [cond_true, cond_false, Option.bind_some, Option.bind_none, Bool.or_true, Bool.true_or, Bool.and_true, Bool.true_and, Bool.and_false, Bool.false_and, Bool.or_false, Bool.false_or, Bool.not_true, Bool.not_false, Bool.or_self, Bool.and_self, Bool.not_not]
      by_cases c3 : (rd k0 xs k).2.2.2 = txt ((k : Int) + 1) (rd k0 xs k).2.2.1
      ·simp only [dec_t c3]
       simp only [cond_true, cond_false, Option.bind_some, Option.bind_none, Bool.or_true, Bool.true_or, Bool.and_true, Bool.true_and, Bool.and_false, Bool.false_and, Bool.or_false, Bool.false_or, Bool.not_true, Bool.not_false, Bool.or_self, Bool.and_self, Bool.not_not]
       rw [e2]
       cases (List.range k).any fun j => alk (rd k0 xs j) (rd k0 xs k)
       ·simp only [cond_true, cond_false, Option.bind_some, Option.bind_none, Bool.or_true, Bool.true_or, Bool.and_true, Bool.true_and, Bool.and_false, Bool.false_and, Bool.or_false, Bool.false_or, Bool.not_true, Bool.not_false, Bool.or_self, Bool.and_self, Bool.not_not]; rw [show IntKind.i64.wrap ((k : Int) + 1) = (k : Int) + 1 by rw [w]; omega]
       ·simp only [cond_true, cond_false, Option.bind_some, Option.bind_none, Bool.or_true, Bool.true_or, Bool.and_true, Bool.true_and, Bool.and_false, Bool.false_and, Bool.or_false, Bool.false_or, Bool.not_true, Bool.not_false, Bool.or_self, Bool.and_self, Bool.not_not]
      ·simp only [dec_f c3]
       simp only [cond_true, cond_false, Option.bind_some, Option.bind_none, Bool.or_true, Bool.true_or, Bool.and_true, Bool.true_and, Bool.and_false, Bool.false_and, Bool.or_false, Bool.false_or, Bool.not_true, Bool.not_false, Bool.or_self, Bool.and_self, Bool.not_not]
    ·simp only [dec_f c1]
     simp only [cond_true, cond_false, Option.bind_some, Option.bind_none, Bool.or_true, Bool.true_or, Bool.and_true, Bool.true_and, Bool.and_false, Bool.false_and, Bool.or_false, Bool.false_or, Bool.not_true, Bool.not_false, Bool.or_self, Bool.and_self, Bool.not_not])
   rw [show ((0 : Nat) : Int) = 0 from rfl] at e
   rw [cond_neg (by simp (disch := omega) only [smallI_t, inB_t, cutB_t, wrap64, dec_t, dec_f, dec_not, dec_and, dec_or, cond_ite, cond_true, cond_false, Option.bind_some, Option.bind_none, Bool.or_true, Bool.true_or, Bool.and_true, Bool.true_and, Bool.and_false, Bool.false_and, Bool.or_false, Bool.false_or, Bool.not_true, Bool.not_false, Bool.or_self, Bool.and_self, Bool.not_not, if_true, if_false, and_self, true_and, and_true, and_false, false_and, or_true, true_or, or_false, false_or, not_true_eq_false, not_false_eq_true, decide_true, decide_false, eq_self, if_pos, if_neg, mx_eq, mn_eq]), e, pendulumref22_Fit.q1]
   simp (disch := omega) only [smallI_t, inB_t, cutB_t, wrap64, dec_t, dec_f, dec_not, dec_and, dec_or, cond_ite, cond_true, cond_false, Option.bind_some, Option.bind_none, Bool.or_true, Bool.true_or, Bool.and_true, Bool.true_and, Bool.and_false, Bool.false_and, Bool.or_false, Bool.false_or, Bool.not_true, Bool.not_false, Bool.or_self, Bool.and_self, Bool.not_not, if_true, if_false, and_self, true_and, and_true, and_false, false_and, or_true, true_or, or_false, false_or, not_true_eq_false, not_false_eq_true, decide_true, decide_false, eq_self, if_pos, if_neg, mx_eq, mn_eq, pendulumref22_Fit.b1, smallN hx]
   cases (List.range xs.length).any (badK xs)
   ·rfl
   ·simp only [cond_true, cond_false, Option.bind_some, Option.bind_none, Bool.or_true, Bool.true_or, Bool.and_true, Bool.true_and, Bool.and_false, Bool.false_and, Bool.or_false, Bool.false_or, Bool.not_true, Bool.not_false, Bool.or_self, Bool.and_self, Bool.not_not]; split <;> rfl
  ·rw [cond_pos (by simp (disch := omega) only [smallI_t, inB_t, cutB_t, wrap64, dec_t, dec_f, dec_not, dec_and, dec_or, cond_ite, cond_true, cond_false, Option.bind_some, Option.bind_none, Bool.or_true, Bool.true_or, Bool.and_true, Bool.true_and, Bool.and_false, Bool.false_and, Bool.or_false, Bool.false_or, Bool.not_true, Bool.not_false, Bool.or_self, Bool.and_self, Bool.not_not, if_true, if_false, and_self, true_and, and_true, and_false, false_and, or_true, true_or, or_false, false_or, not_true_eq_false, not_false_eq_true, decide_true, decide_false, eq_self, if_pos, if_neg, mx_eq, mn_eq]), dec_f h1]
   simp only [cond_true, cond_false, Option.bind_some, Option.bind_none, Bool.or_true, Bool.true_or, Bool.and_true, Bool.true_and, Bool.and_false, Bool.false_and, Bool.or_false, Bool.false_or, Bool.not_true, Bool.not_false, Bool.or_self, Bool.and_self, Bool.not_not]
theorem alk_text (a b : KK) : (alk a b && decide (a.2.2.2 = b.2.2.2)) = decide (a = b) := by
 obtain ⟨a1, a2, a3, a4⟩ := a
 obtain ⟨b1, b2, b3, b4⟩ := b
 unfold alk
 simp only
 by_cases h1 : a1 = b1 <;> by_cases h2 : a2 = b2 <;> by_cases h3 : a3 = b3 <;> by_cases h4 : a4 = b4 <;> simp [h1, h2, h3, h4]
theorem rsame_eq (v w : VV) (hv : okV v) (hw : okV w) : pendulumref22_Same.run .lim (v, w, ()) = some (decide (v = w)) := by
 obtain ⟨a, xs⟩ := v
 obtain ⟨b, ys⟩ := w
 have hx : xs.length < 9223372036854775808 := hv.1
 have hy : ys.length < 9223372036854775808 := hw.1
 simp only [pendulumref22_Same.run, smallN hx, smallN hy]
 by_cases hab : a = b
 ·subst hab
  rw [show (a == a) = true by simp]
  simp only [cond_true, cond_false, Option.bind_some, Option.bind_none, Bool.or_true, Bool.true_or, Bool.and_true, Bool.true_and, Bool.and_false, Bool.false_and, Bool.or_false, Bool.false_or, Bool.not_true, Bool.not_false, Bool.or_self, Bool.and_self, Bool.not_not]
  by_cases hl : xs.length = ys.length
  ·have e := loop_any (f := pendulumref22_Same.l0 .lim) (fun k => ((k : Int), a, xs, a, ys, ())) xs.length (fun k => !decide (rd k0 xs k = rd k0 ys k)) (some (.inl (false, ()))) (fun k hk => by
    rw [pendulumref22_Same.q0]
    have hs := ralike_eq (rd k0 xs k) (rd k0 ys k) (hv.at hk).2.1 (hw.at (v := (a, ys)) (k := k) (by show k < ys.length; omega)).2.1
    simp only [pendulumref22_Same.b0, wk k (by omega), hs, smallN hx, dec_t (show (k : Int) < (xs.length : Int) by omega), inB_t (show (0 : Int) ≤ k by omega) (show (k : Int) < xs.length by omega), inB_t (show (0 : Int) ≤ k by omega) (show (k : Int) < ys.length by omega)]
    simp only [cond_true, cond_false, Option.bind_some, Option.bind_none, Bool.or_true, Bool.true_or, Bool.and_true, Bool.true_and, Bool.and_false, Bool.false_and, Bool.or_false, Bool.false_or, Bool.not_true, Bool.not_false, Bool.or_self, Bool.and_self, Bool.not_not]
    rw [← alk_text (rd k0 xs k) (rd k0 ys k)]
    cases alk (rd k0 xs k) (rd k0 ys k) <;> simp only [cond_true, cond_false, Option.bind_some, Option.bind_none, Bool.or_true, Bool.true_or, Bool.and_true, Bool.true_and, Bool.and_false, Bool.false_and, Bool.or_false, Bool.false_or, Bool.not_true, Bool.not_false, Bool.or_self, Bool.and_self, Bool.not_not])
   rw [any_ne hl, show ((0 : Nat) : Int) = 0 from rfl] at e
   rw [cond_neg (by simp (disch := omega) only [smallI_t, inB_t, cutB_t, wrap64, dec_t, dec_f, dec_not, dec_and, dec_or, cond_ite, cond_true, cond_false, Option.bind_some, Option.bind_none, Bool.or_true, Bool.true_or, Bool.and_true, Bool.true_and, Bool.and_false, Bool.false_and, Bool.or_false, Bool.false_or, Bool.not_true, Bool.not_false, Bool.or_self, Bool.and_self, Bool.not_not, if_true, if_false, and_self, true_and, and_true, and_false, false_and, or_true, true_or, or_false, false_or, not_true_eq_false, not_false_eq_true, decide_true, decide_false, eq_self, if_pos, if_neg, mx_eq, mn_eq]), e, pendulumref22_Same.q0]
   simp (disch := omega) only [smallI_t, inB_t, cutB_t, wrap64, dec_t, dec_f, dec_not, dec_and, dec_or, cond_ite, cond_true, cond_false, Option.bind_some, Option.bind_none, Bool.or_true, Bool.true_or, Bool.and_true, Bool.true_and, Bool.and_false, Bool.false_and, Bool.or_false, Bool.false_or, Bool.not_true, Bool.not_false, Bool.or_self, Bool.and_self, Bool.not_not, if_true, if_false, and_self, true_and, and_true, and_false, false_and, or_true, true_or, or_false, false_or, not_true_eq_false, not_false_eq_true, decide_true, decide_false, eq_self, if_pos, if_neg, mx_eq, mn_eq, pendulumref22_Same.b0, smallN hx]
   by_cases h : xs = ys
   ·subst h; simp (disch := omega) only [smallI_t, inB_t, cutB_t, wrap64, dec_t, dec_f, dec_not, dec_and, dec_or, cond_ite, cond_true, cond_false, Option.bind_some, Option.bind_none, Bool.or_true, Bool.true_or, Bool.and_true, Bool.true_and, Bool.and_false, Bool.false_and, Bool.or_false, Bool.false_or, Bool.not_true, Bool.not_false, Bool.or_self, Bool.and_self, Bool.not_not, if_true, if_false, and_self, true_and, and_true, and_false, false_and, or_true, true_or, or_false, false_or, not_true_eq_false, not_false_eq_true, decide_true, decide_false, eq_self, if_pos, if_neg, mx_eq, mn_eq]
   ·rw [dec_f (fun q => h (Prod.mk.inj q).2)]; simp (disch := omega) only [smallI_t, inB_t, cutB_t, wrap64, dec_t, dec_f, dec_not, dec_and, dec_or, cond_ite, cond_true, cond_false, Option.bind_some, Option.bind_none, Bool.or_true, Bool.true_or, Bool.and_true, Bool.true_and, Bool.and_false, Bool.false_and, Bool.or_false, Bool.false_or, Bool.not_true, Bool.not_false, Bool.or_self, Bool.and_self, Bool.not_not, if_true, if_false, and_self, true_and, and_true, and_false, false_and, or_true, true_or, or_false, false_or, not_true_eq_false, not_false_eq_true, decide_true, decide_false, eq_self, if_pos, if_neg, mx_eq, mn_eq]
  ·rw [cond_pos (by simp (disch := omega) only [smallI_t, inB_t, cutB_t, wrap64, dec_t, dec_f, dec_not, dec_and, dec_or, cond_ite, cond_true, cond_false, Option.bind_some, Option.bind_none, Bool.or_true, Bool.true_or, Bool.and_true, Bool.true_and, Bool.and_false, Bool.false_and, Bool.or_false, Bool.false_or, Bool.not_true, Bool.not_false, Bool.or_self, Bool.and_self, Bool.not_not, if_true, if_false, and_self, true_and, and_true, and_false, false_and, or_true, true_or, or_false, false_or, not_true_eq_false, not_false_eq_true, decide_true, decide_false, eq_self, if_pos, if_neg, mx_eq, mn_eq]), dec_f]
   exact fun q => hl (by rw [(Prod.mk.inj q).2])
 ·rw [show (a == b) = false by simpa using hab, dec_f (fun q => hab (Prod.mk.inj q).1)]
  simp only [cond_true, cond_false, Option.bind_some, Option.bind_none, Bool.or_true, Bool.true_or, Bool.and_true, Bool.true_and, Bool.and_false, Bool.false_and, Bool.or_false, Bool.false_or, Bool.not_true, Bool.not_false, Bool.or_self, Bool.and_self, Bool.not_not]
theorem light_some (v : VV) (h : okV v) : ∃ r, pendulumref22_Light.run .lim (v, ()) = some r := by
 obtain ⟨b, xs⟩ := v
 have hx : xs.length < 9223372036854775808 := h.1
 -- the inner loop
 have inner : ∀ (n : Nat) (left : Int) (j : Nat) (i : Int) (q : KK), okK q → j + n = q.2.1.length → -9223372036854775808 ≤ left → left < 9223372036854775808 → ∃ l : Int, -9223372036854775808 ≤ l ∧ l < 9223372036854775808 ∧ pendulumref22_Light.l0 .lim (left, i, (j : Int), b, xs, q.1, q.2.1, q.2.2.1, q.2.2.2, ()) = some (l, i, b, xs, ()) := by
  intro n
  induction n with
  | zero =>
   intro left j i q hq hj h1 h2
   refine ⟨left, h1, h2, ?_⟩
   rw [pendulumref22_Light.q0]
   simp (disch := omega) only [smallI_t, inB_t, cutB_t, wrap64, dec_t, dec_f, dec_not, dec_and, dec_or, cond_ite, cond_true, cond_false, Option.bind_some, Option.bind_none, Bool.or_true, Bool.true_or, Bool.and_true, Bool.true_and, Bool.and_false, Bool.false_and, Bool.or_false, Bool.false_or, Bool.not_true, Bool.not_false, Bool.or_self, Bool.and_self, Bool.not_not, if_true, if_false, and_self, true_and, and_true, and_false, false_and, or_true, true_or, or_false, false_or, not_true_eq_false, not_false_eq_true, decide_true, decide_false, eq_self, if_pos, if_neg, mx_eq, mn_eq, pendulumref22_Light.b0, smallN hq.2.1]
  | succ n ih =>
   intro left j i q hq hj h1 h2
   have hb := @wrap64_lo (left - ((rd ([] : List Int) q.2.1 (j : Int)).length : Int))
   have hs := hq.2.2.1 (rd ([] : List Int) q.2.1 (j : Int)) (rd_mem (by omega) (by omega))
   by_cases hl : left ≥ 0
   ·obtain ⟨l, l1, l2, e⟩ := ih (IntKind.i64.wrap (left - ((rd ([] : List Int) q.2.1 (j : Int)).length : Int))) (j + 1) i q hq (by omega) hb.1 hb.2
    refine ⟨l, l1, l2, ?_⟩
    rw [pendulumref22_Light.q0, ← e]
    have hj' := hq.2.1
    simp only [pendulumref22_Light.b0, smallN hq.2.1, wk j (by omega), smallN hs, dec_t hl, dec_t (show (j : Int) < (q.2.1.length : Int) by omega), inB_t (show (0 : Int) ≤ j by omega) (show (j : Int) < q.2.1.length by omega)]
    simp only [cond_true, cond_false, Option.bind_some, Option.bind_none, Bool.or_true, Bool.true_or, Bool.and_true, Bool.true_and, Bool.and_false, Bool.false_and, Bool.or_false, Bool.false_or, Bool.not_true, Bool.not_false, Bool.or_self, Bool.and_self, Bool.not_not]
   ·refine ⟨left, h1, h2, ?_⟩
    rw [pendulumref22_Light.q0]
    simp (disch := omega) only [smallI_t, inB_t, cutB_t, wrap64, dec_t, dec_f, dec_not, dec_and, dec_or, cond_ite, cond_true, cond_false, Option.bind_some, Option.bind_none, Bool.or_true, Bool.true_or, Bool.and_true, Bool.true_and, Bool.and_false, Bool.false_and, Bool.or_false, Bool.false_or, Bool.not_true, Bool.not_false, Bool.or_self, Bool.and_self, Bool.not_not, if_true, if_false, and_self, true_and, and_true, and_false, false_and, or_true, true_or, or_false, false_or, not_true_eq_false, not_false_eq_true, decide_true, decide_false, eq_self, if_pos, if_neg, mx_eq, mn_eq, pendulumref22_Light.b0, smallN hq.2.1]
 have outer : ∀ (n : Nat) (left : Int) (i : Nat), i + n = xs.length → -9223372036854775808 ≤ left → left < 9223372036854775808 → ∃ l : Int, pendulumref22_Light.l1 .lim (left, (i : Int), b, xs, ()) = some (l, b, xs, ()) := by
  intro n
  induction n with
  | zero =>
   intro left i hi h1 h2
   refine ⟨left, ?_⟩
   rw [pendulumref22_Light.q1]
   simp (disch := omega) only [smallI_t, inB_t, cutB_t, wrap64, dec_t, dec_f, dec_not, dec_and, dec_or, cond_ite, cond_true, cond_false, Option.bind_some, Option.bind_none, Bool.or_true, Bool.true_or, Bool.and_true, Bool.true_and, Bool.and_false, Bool.false_and, Bool.or_false, Bool.false_or, Bool.not_true, Bool.not_false, Bool.or_self, Bool.and_self, Bool.not_not, if_true, if_false, and_self, true_and, and_true, and_false, false_and, or_true, true_or, or_false, false_or, not_true_eq_false, not_false_eq_true, decide_true, decide_false, eq_self, if_pos, if_neg, mx_eq, mn_eq, pendulumref22_Light.b1, smallN hx]
  | succ n ih =>
   intro left i hi h1 h2
   by_cases hl : left ≥ 0
   ·have hk : okK (rd k0 xs i) := h.at (v := (b, xs)) (by show i < xs.length; omega)
    rw [pendulumref22_Light.q1]
    simp only [pendulumref22_Light.b1, smallN hx, smallN hk.1, smallN hk.2.1, smallN hk.2.2.2.1, smallN hk.2.2.2.2, dec_t hl, dec_t (show (i : Int) < (xs.length : Int) by omega), inB_t (show (0 : Int) ≤ i by omega) (show (i : Int) < xs.length by omega)]
    simp only [cond_true, cond_false, Option.bind_some, Option.bind_none, Bool.or_true, Bool.true_or, Bool.and_true, Bool.true_and, Bool.and_false, Bool.false_and, Bool.or_false, Bool.false_or, Bool.not_true, Bool.not_false, Bool.or_self, Bool.and_self, Bool.not_not]
    obtain ⟨l, l1, l2, e⟩ := inner _ (IntKind.i64.wrap (IntKind.i64.wrap (IntKind.i64.wrap (IntKind.i64.wrap (IntKind.i64.wrap (left - 10) - ((rd k0 xs i).1.length : Int)) - ((rd k0 xs i).2.2.1.length : Int)) - ((rd k0 xs i).2.2.2.length : Int)) - ((rd k0 xs i).2.1.length : Int))) 0 (i : Int) (rd k0 xs i) hk (Nat.zero_add _) wrap64_lo.1 wrap64_lo.2
    rw [show ((0 : Nat) : Int) = 0 from rfl] at e
    rw [e]
    obtain ⟨l', e'⟩ := ih l (i + 1) (by omega) l1 l2
    refine ⟨l', ?_⟩
    rw [← e']
    simp (disch := omega) only [smallI_t, inB_t, cutB_t, wrap64, dec_t, dec_f, dec_not, dec_and, dec_or, cond_ite, cond_true, cond_false, Option.bind_some, Option.bind_none, Bool.or_true, Bool.true_or, Bool.and_true, Bool.true_and, Bool.and_false, Bool.false_and, Bool.or_false, Bool.false_or, Bool.not_true, Bool.not_false, Bool.or_self, Bool.and_self, Bool.not_not, if_true, if_false, and_self, true_and, and_true, and_false, false_and, or_true, true_or, or_false, false_or, not_true_eq_false, not_false_eq_true, decide_true, decide_false, eq_self, if_pos, if_neg, mx_eq, mn_eq, wk i (by omega)]
   ·refine ⟨left, ?_⟩
    rw [pendulumref22_Light.q1]
    simp (disch := omega) only [smallI_t, inB_t, cutB_t, wrap64, dec_t, dec_f, dec_not, dec_and, dec_or, cond_ite, cond_true, cond_false, Option.bind_some, Option.bind_none, Bool.or_true, Bool.true_or, Bool.and_true, Bool.true_and, Bool.and_false, Bool.false_and, Bool.or_false, Bool.false_or, Bool.not_true, Bool.not_false, Bool.or_self, Bool.and_self, Bool.not_not, if_true, if_false, and_self, true_and, and_true, and_false, false_and, or_true, true_or, or_false, false_or, not_true_eq_false, not_false_eq_true, decide_true, decide_false, eq_self, if_pos, if_neg, mx_eq, mn_eq, pendulumref22_Light.b1, smallN hx]
 obtain ⟨l, e⟩ := outer xs.length 400000 0 (by omega) (by omega) (by omega)
 rw [show ((0 : Nat) : Int) = 0 from rfl] at e
 refine ⟨decide (l ≥ 0) && decide ((xs.length : Int) ≤ 300), ?_⟩
 simp only [pendulumref22_Light.run, e, smallN hx]
 simp only [cond_true, cond_false, Option.bind_some, Option.bind_none, Bool.or_true, Bool.true_or, Bool.and_true, Bool.true_and, Bool.and_false, Bool.false_and, Bool.or_false, Bool.false_or, Bool.not_true, Bool.not_false, Bool.or_self, Bool.and_self, Bool.not_not, smallN hx]
end Go.AM
end
section
namespace Go.AM
def hit (key : List Int) (ad : List (List Int)) (t : List Int) (k : KK) : Bool := decide (k.2.2.2 = t) && decide (k.1 = key) && decide (k.2.1 = ad)
theorem lt63 {n : Nat} (h : n ≤ 140737488351232) : n < 9223372036854775808 := by omega
theorem ok_v {v : VV} (h : Ty.ok (.pair .bool (.lst (.pair .str (.pair (.lst .str) (.pair .str .str))))) v) : okV v := by
 obtain ⟨_, h1, h2⟩ := h
 refine ⟨lt63 h1, fun k hk => ?_⟩
 obtain ⟨a, ⟨b1, b2⟩, c, d⟩ := h2 k hk
 exact ⟨lt63 a.1, lt63 b1, fun s hs => lt63 (b2 s hs).1, lt63 c.1, lt63 d.1⟩
end Go.AM
end
section
namespace Go.AM
abbrev B8 (x : Int) : Prop := 0 ≤ x ∧ x < 256
theorem wrapu8_B (n : Int) : B8 (IntKind.u8.wrap n) := by rw [wrapu8]; unfold B8; omega
theorem wrapu8_id {n : Int} (h : B8 n) : IntKind.u8.wrap n = n := by rw [wrapu8]; unfold B8 at h; omega
theorem xor_B (a b : Int) : B8 (ixor .u8 a b) := by unfold ixor bits2; exact wrapu8_B _
theorem or_B (a b : Int) : B8 (ior .u8 a b) := by unfold ior bits2; exact wrapu8_B _
theorem shl_B (a b : Int) : B8 (ishl .u8 a b) := by unfold ishl; exact wrapu8_B _
theorem shr_eq {a k : Int} : ishr .u8 a k = a / 2 ^ min k.toNat 8 := by
 unfold ishr
 rw [Int.fdiv_eq_ediv_of_nonneg _ (Int.le_of_lt (Int.pow_pos (by omega)))]
 rfl
theorem xor_comm (a b : Int) : ixor .u8 a b = ixor .u8 b a := by
 show IntKind.u8.wrap (BitVec.ofInt 8 a ^^^ BitVec.ofInt 8 b).toNat = IntKind.u8.wrap (BitVec.ofInt 8 b ^^^ BitVec.ofInt 8 a).toNat
 rw [BitVec.xor_comm]
theorem ofInt_wrap8 (x : BitVec 8) : BitVec.ofInt 8 (IntKind.u8.wrap x.toNat) = x := by
 rw [wrapu8]
 apply BitVec.eq_of_toNat_eq
 have := x.isLt
 rw [BitVec.toNat_ofInt]
 omega
theorem xor_assoc (a b c : Int) : ixor .u8 (ixor .u8 a b) c = ixor .u8 a (ixor .u8 b c) := by
 show IntKind.u8.wrap (BitVec.ofInt 8 (IntKind.u8.wrap (BitVec.ofInt 8 a ^^^ BitVec.ofInt 8 b).toNat) ^^^ BitVec.ofInt 8 c).toNat = IntKind.u8.wrap (BitVec.ofInt 8 a ^^^ BitVec.ofInt 8 (IntKind.u8.wrap (BitVec.ofInt 8 b ^^^ BitVec.ofInt 8 c).toNat)).toNat
 rw [ofInt_wrap8, ofInt_wrap8, BitVec.xor_assoc]
theorem xor_self (a : Int) : ixor .u8 a a = 0 := by
 show IntKind.u8.wrap (BitVec.ofInt 8 a ^^^ BitVec.ofInt 8 a).toNat = 0
 rw [BitVec.xor_self]; rfl
theorem xor_zero {a : Int} (h : B8 a) : ixor .u8 a 0 = a := by
 show IntKind.u8.wrap (BitVec.ofInt 8 a ^^^ BitVec.ofInt 8 0).toNat = a
 rw [show BitVec.ofInt 8 0 = 0#8 from rfl, BitVec.xor_zero, BitVec.toNat_ofInt, wrapu8]
 unfold B8 at h
 omega
theorem zero_xor {a : Int} (h : B8 a) : ixor .u8 0 a = a := by rw [xor_comm, xor_zero h]
theorem byte_cases {p : Int → Prop} (h : ∀ n : Nat, n < 256 → p n) {a : Int} (ha : B8 a) : p a := by
 have := h a.toNat (by unfold B8 at ha; omega)
 rwa [show ((a.toNat : Nat) : Int) = a by unfold B8 at ha; omega] at this
def tab (n : Nat) (g : Nat → Int) : List Int := (List.range n).map g
@[simp] theorem tab_len {n : Nat} {g : Nat → Int} : (tab n g).length = n := by simp [tab]
theorem rd_tab {n : Nat} {g : Nat → Int} {k : Nat} (h : k < n) : rd 0 (tab n g) (k : Int) = g k := by
 rw [rd_ix (by simpa using h)]; simp [tab]
theorem rd_tabI {n : Nat} {g : Nat → Int} {k : Int} (h0 : 0 ≤ k) (h : k < n) : rd 0 (tab n g) k = g k.toNat := by
 have := rd_tab (n := n) (g := g) (k := k.toNat) (by omega)
 rwa [show ((k.toNat : Nat) : Int) = k by omega] at this
theorem tab_congr {n : Nat} {g h : Nat → Int} (e : ∀ k, k < n → g k = h k) : tab n g = tab n h := by
 unfold tab; exact List.map_congr_left fun k hk => e k (List.mem_range.1 hk)
theorem tab_set {n : Nat} {g : Nat → Int} {k : Nat} {v : Int} : (tab n g).set k v = tab n fun i => if i = k then v else g i := by
 unfold tab
 apply List.ext_getElem (by simp)
 intro i h1 h2
 simp only [List.getElem_set, List.getElem_map, List.getElem_range]
 by_cases h : k = i
 ·rw [if_pos h, if_pos h.symm]
 ·rw [if_neg h, if_neg (Ne.symm h)]
theorem tab_of {m : List Int} {n : Nat} (h : m.length = n) : m = tab n fun i => rd 0 m (i : Int) := by
 apply rd_ext (d := 0) (by simp [h])
 intro k hk
 rw [rd_tab (by omega)]
def tabP (n k : Nat) (g : Nat → Int) : List Int := tab n fun i => if i < k then g i else 0
@[simp] theorem tabP_len {n k : Nat} {g : Nat → Int} : (tabP n k g).length = n := tab_len
theorem tabP_zero {n : Nat} {g : Nat → Int} : tabP n 0 g = List.replicate n 0 := by
 unfold tabP tab
 rw [List.eq_replicate_iff]
 exact ⟨by simp, fun b hb => by obtain ⟨i, _, rfl⟩ := List.mem_map.1 hb; simp⟩
theorem tabP_end {n : Nat} {g : Nat → Int} : tabP n n g = tab n g := tab_congr fun k hk => by rw [if_pos hk]
theorem tabP_set {n k : Nat} {g : Nat → Int} {v : Int} (h : v = g k) : (tabP n k g).set k v = tabP n (k + 1) g := by
 unfold tabP
 rw [tab_set]
 refine tab_congr fun i _ => ?_
 by_cases h1 : i = k
 ·subst h1; rw [if_pos rfl, if_pos (by omega), h]
 ·rw [if_neg h1]
  by_cases h2 : i < k
  ·rw [if_pos h2, if_pos (by omega)]
  ·rw [if_neg h2, if_neg (by omega)]
theorem rd_set {m : List Int} {k : Nat} {v : Int} (h : k < m.length) : rd 0 (m.set k v) (k : Int) = v := by
 rw [rd_ix (by simpa using h)]; simp
theorem loop_upd {α β : Type} {f : α → Option β} (st : Nat → List Int → α) (g : Nat → Int → Int) (m : List Int) {n : Nat} (hn : m.length = n)
  (h : ∀ k, k < n → ∀ m' : List Int, m'.length = n → (∀ j, k ≤ j → rd 0 m' (j : Int) = rd 0 m (j : Int)) → f (st k m') = f (st (k + 1) (m'.set k (g k (rd 0 m (k : Int)))))) :
  f (st 0 m) = f (st n (tab n fun i => g i (rd 0 m (i : Int)))) := by
 have key : ∀ k, k ≤ n → f (st 0 m) = f (st k (tab n fun i => if i < k then g i (rd 0 m (i : Int)) else rd 0 m (i : Int))) := by
  intro k
  induction k with
  | zero =>
   intro _
   rw [show (tab n fun i => if i < 0 then g i (rd 0 m (i : Int)) else rd 0 m (i : Int)) = m from by
    conv => rhs; rw [tab_of hn]
    exact tab_congr fun i _ => by rw [if_neg (by omega)]]
  | succ k ih =>
   intro hk
   rw [ih (by omega), h k (by omega) _ (by simp) fun j hj => by
    by_cases hjn : j < n
    ·rw [rd_tab hjn, if_neg (by omega)]
    ·unfold rd
     rw [Int.toNat_natCast, List.getD_eq_getElem?_getD, List.getD_eq_getElem?_getD, List.getElem?_eq_none (by simp; omega), List.getElem?_eq_none (by omega)]]
   congr 2
   rw [tab_set]
   refine tab_congr fun i _ => ?_
   by_cases h1 : i = k
   ·subst h1; rw [if_pos rfl, if_pos (by omega)]
   ·rw [if_neg h1]
    by_cases h2 : i < k
    ·rw [if_pos h2, if_pos (by omega)]
    ·rw [if_neg h2, if_neg (by omega)]
 rw [key n (Nat.le_refl _)]
 congr 2
 exact tab_congr fun i hi => by rw [if_pos hi]
theorem list4 {t : List Int} (h : t.length = 4) : t = [rd 0 t 0, rd 0 t 1, rd 0 t 2, rd 0 t 3] := by
 match t, h with
 | [a, b, c, d], _ => rfl
theorem wk' (k : Nat) (h : k < 4611686018427387904) : IntKind.i64.wrap ((k : Int) + 1) = ((k + 1 : Nat) : Int) := by
 rw [wrap64 (by omega) (by omega)]; omega
end Go.AM
end
section
namespace Go.AM
def tmS : Nat → Int → Int → Int → Int
 | 0, _, _, r => r
 | n + 1, a, b, r => tmS n (bif decide (iand .u8 a 128 = 0) then ishl .u8 a 1 else ixor .u8 (ishl .u8 a 1) 27) (ishr .u8 b 1) (bif decide (iand .u8 b 1 = 1) then ixor .u8 r a else r)
def tm (a b : Int) : Int := tmS 8 a b 0
theorem tmS_B : ∀ n a b r, B8 r → B8 (tmS n a b r)
 | 0, _, _, _, h => h
 | n + 1, a, b, r, h => tmS_B n _ _ _ (by cases decide (iand .u8 b 1 = 1) <;> first | exact h | exact xor_B _ _)
theorem tm_B (a b : Int) : B8 (tm a b) := tmS_B 8 a b 0 ⟨by decide, by decide⟩
theorem tmS_zero : ∀ n a r, tmS n a 0 r = r
 | 0, _, _ => rfl
 | n + 1, a, r => by
  rw [tmS, show ishr .u8 0 1 = 0 from by decide, tmS_zero n]
  rfl
theorem step_a {a : Int} (h : B8 a) : ixor .u8 (ishl .u8 a 1) (IntKind.u8.wrap (ishr .u8 a 7 * 27)) = bif decide (iand .u8 a 128 = 0) then ishl .u8 a 1 else ixor .u8 (ishl .u8 a 1) 27 :=
 byte_cases (p := fun a => ixor .u8 (ishl .u8 a 1) (IntKind.u8.wrap (ishr .u8 a 7 * 27)) = bif decide (iand .u8 a 128 = 0) then ishl .u8 a 1 else ixor .u8 (ishl .u8 a 1) 27) (by decide +kernel) h
theorem bit_b {b : Int} (h : B8 b) : iand .u8 b 1 = 0 ∨ iand .u8 b 1 = 1 :=
 byte_cases (p := fun b => iand .u8 b 1 = 0 ∨ iand .u8 b 1 = 1) (by decide +kernel) h
theorem step_B {a : Int} : B8 (bif decide (iand .u8 a 128 = 0) then ishl .u8 a 1 else ixor .u8 (ishl .u8 a 1) 27) := by
 cases decide (iand .u8 a 128 = 0)
 ·exact xor_B _ _
 ·exact shl_B _ _
theorem atimes_eq {a b : Int} (ha : B8 a) (hb : B8 b) : aes_Times.run .lim (a, b, ()) = some (tm a b) := by
 have key : ∀ (n : Nat) (a b r : Int), B8 a → B8 r → 0 ≤ b → b < 2 ^ n → n ≤ 8 → aes_Times.l0 .lim (a, b, r, ()) = some (tmS n a b r, ()) := by
  intro n
  induction n with
  | zero =>
   intro a b r ha hr h0 h1 _
   obtain rfl : b = 0 := by simp at h1; omega
   rw [aes_Times.q0]
   simp (disch := omega) only [smallI_t, inB_t, cutB_t, wrap64, dec_t, dec_f, dec_not, dec_and, dec_or, cond_ite, cond_true, cond_false, Option.bind_some, Option.bind_none, Bool.or_true, Bool.true_or, Bool.and_true, Bool.true_and, Bool.and_false, Bool.false_and, Bool.or_false, Bool.false_or, Bool.not_true, Bool.not_false, Bool.or_self, Bool.and_self, Bool.not_not, if_true, if_false, and_self, true_and, and_true, and_false, false_and, or_true, true_or, or_false, false_or, not_true_eq_false, not_false_eq_true, decide_true, decide_false, eq_self, if_pos, if_neg, mx_eq, mn_eq, aes_Times.b0]
   rfl
  | succ n ih =>
   intro a b r ha hr h0 h1 hn
   have hb : B8 b := by
    refine ⟨h0, Int.lt_of_lt_of_le h1 ?_⟩
    have h2 : (2 : Int) ^ (n + 1) = ((2 ^ (n + 1) : Nat) : Int) := by simp
    have h3 : 2 ^ (n + 1) ≤ 2 ^ 8 := Nat.pow_le_pow_right (by omega) hn
    rw [h2]; omega
   rw [aes_Times.q0]
   by_cases hz : b = 0
   ·subst hz
    rw [tmS_zero]
    simp (disch := omega) only [smallI_t, inB_t, cutB_t, wrap64, dec_t, dec_f, dec_not, dec_and, dec_or, cond_ite, cond_true, cond_false, Option.bind_some, Option.bind_none, Bool.or_true, Bool.true_or, Bool.and_true, Bool.true_and, Bool.and_false, Bool.false_and, Bool.or_false, Bool.false_or, Bool.not_true, Bool.not_false, Bool.or_self, Bool.and_self, Bool.not_not, if_true, if_false, and_self, true_and, and_true, and_false, false_and, or_true, true_or, or_false, false_or, not_true_eq_false, not_false_eq_true, decide_true, decide_false, eq_self, if_pos, if_neg, mx_eq, mn_eq, aes_Times.b0]
   ·have hs : ishr .u8 b 1 = b / 2 := by rw [shr_eq]; rfl
    have hm : IntKind.u8.wrap (a * iand .u8 b 1) = bif decide (iand .u8 b 1 = 1) then a else 0 := by
     rcases bit_b hb with e | e
     ·rw [e]; simp; decide
     ·rw [e, Int.mul_one, wrapu8_id ha]; rfl
    have hx : ixor .u8 r (bif decide (iand .u8 b 1 = 1) then a else 0) = bif decide (iand .u8 b 1 = 1) then ixor .u8 r a else r := by
     cases decide (iand .u8 b 1 = 1)
     ·exact xor_zero hr
     ·rfl
    have hr' : B8 (bif decide (iand .u8 b 1 = 1) then ixor .u8 r a else r) := by
     cases decide (iand .u8 b 1 = 1)
     ·exact hr
     ·exact xor_B _ _
    have h2 := ih _ (ishr .u8 b 1) _ (@step_B a) hr' (by rw [hs]; omega) (by rw [hs, Int.pow_succ] at *; omega) (by omega)
    simp only [aes_Times.b0, dec_t (show b > 0 by omega), cond_true, step_a ha, hm, hx]
    rw [h2, tmS]
 have := key 8 a b 0 ha ⟨by decide, by decide⟩ hb.1 hb.2 (by omega)
 simp only [aes_Times.run, this, Option.bind_some]
 rfl
noncomputable def sbx (b : Int) : Int := (pendulumref08_Sub.run (.fuel 0) (b, ())).getD 0
def invS : Nat → Int → Int → Int
 | 0, r, _ => r
 | n + 1, r, s => invS n (tm r (tm s s)) (tm s s)
def rotS (b n : Int) : Int := ior .u8 (ishl .u8 b n) (ishr .u8 b (8 - n))
def subS (b : Int) : Int := ixor .u8 (ixor .u8 (ixor .u8 (ixor .u8 (ixor .u8 (invS 7 1 b) (rotS (invS 7 1 b) 1)) (rotS (invS 7 1 b) 2)) (rotS (invS 7 1 b) 3)) (rotS (invS 7 1 b) 4)) 99
theorem inverse_eq {b : Int} (hb : B8 b) : aes_inverse.run .lim (b, ()) = some (invS 7 1 b) := by
 have key : ∀ (n i : Nat) (r s : Int), i + n = 7 → B8 r → B8 s → aes_inverse.l0 .lim (r, s, (i : Int), ()) = some (invS n r s, ()) := by
  intro n
  induction n with
  | zero =>
   intro i r s h _ _
   rw [aes_inverse.q0]
   simp (disch := omega) only [smallI_t, inB_t, cutB_t, wrap64, dec_t, dec_f, dec_not, dec_and, dec_or, cond_ite, cond_true, cond_false, Option.bind_some, Option.bind_none, Bool.or_true, Bool.true_or, Bool.and_true, Bool.true_and, Bool.and_false, Bool.false_and, Bool.or_false, Bool.false_or, Bool.not_true, Bool.not_false, Bool.or_self, Bool.and_self, Bool.not_not, if_true, if_false, and_self, true_and, and_true, and_false, false_and, or_true, true_or, or_false, false_or, not_true_eq_false, not_false_eq_true, decide_true, decide_false, eq_self, if_pos, if_neg, mx_eq, mn_eq, aes_inverse.b0]
   rfl
  | succ n ih =>
   intro i r s h hr hs
   rw [aes_inverse.q0]
   simp only [aes_inverse.b0, wk' i (by omega), dec_t (show (i : Int) < 7 by omega), cond_true, atimes_eq hs hs, Option.bind_some, atimes_eq hr (tm_B s s), ih (i + 1) _ _ (by omega) (tm_B _ _) (tm_B _ _)]
   rfl
 have := key 7 0 1 b rfl ⟨by decide, by decide⟩ hb
 rw [show ((0 : Nat) : Int) = 0 from rfl] at this
 simp only [aes_inverse.run, this, Option.bind_some]
theorem asub_S {b : Int} (hb : B8 b) : aes_Sub.run .lim (b, ()) = some (subS b) := by
 simp only [aes_Sub.run, inverse_eq hb, Option.bind_some]
 have w : ∀ n : Int, aes_turn.run .lim (invS 7 1 b, n, ()) = bif decide (0 ≤ n) then (bif decide (0 ≤ IntKind.i64.wrap (8 - n)) then some (ior .u8 (ishl .u8 (invS 7 1 b) n) (ishr .u8 (invS 7 1 b) (IntKind.i64.wrap (8 - n)))) else none) else none := fun n => rfl
 rw [w, w, w, w]
 rfl
theorem sub_table : ∀ n : Nat, n < 256 → subS n = sbx n := by decide +kernel
theorem asub_eq {b : Int} (hb : B8 b) : aes_Sub.run .lim (b, ()) = some (sbx b) := by
 rw [asub_S hb, byte_cases (p := fun b => subS b = sbx b) sub_table hb]
theorem sbx_B {b : Int} (hb : B8 b) : B8 (sbx b) := by
 rw [← byte_cases (p := fun b => subS b = sbx b) sub_table hb]; exact xor_B _ _
end Go.AM
end
section
namespace Go.AM
abbrev z4 : List Int := List.replicate 4 0
abbrev z16 : List Int := List.replicate 16 0
abbrev z256 : List Int := List.replicate 256 0
abbrev kL : List Int := [1, 2, 3, 9, 11, 13, 14]
theorem kL_ok : ∀ k : Nat, k < 7 → 0 ≤ rd 0 kL (k : Int) ∧ rd 0 kL (k : Int) < 16 := by decide
def rowsT (k : Nat) : List (List Int) :=
 let t := fun j : Int => tabP 256 k fun i => tm (i : Int) j
 [z256, t 1, t 2, t 3, z256, z256, z256, z256, z256, t 9, z256, t 11, z256, t 13, t 14, z256]
def rowsS (i : Nat) (yb : List (List Int)) : Nat → List (List Int)
 | 0 => yb
 | k + 1 => (rowsS i yb k).set (rd 0 kL (k : Int)).toNat ((rd z256 (rowsS i yb k) (rd 0 kL (k : Int))).set i (tm (i : Int) (rd 0 kL (k : Int))))
theorem rowsS_7 (k : Nat) : rowsS k (rowsT k) 7 = rowsT (k + 1) := by
 have e : rowsS k (rowsT k) 7 = (
  let t := fun j : Int => (tabP 256 k fun i => tm (i : Int) j).set k (tm (k : Int) j)
  [z256, t 1, t 2, t 3, z256, z256, z256, z256, z256, t 9, z256, t 11, z256, t 13, t 14, z256]) := rfl
 have h : ∀ j : Int, (tabP 256 k fun i => tm (i : Int) j).set k (tm (k : Int) j) = tabP 256 (k + 1) fun i => tm (i : Int) j := fun j => tabP_set rfl
 rw [e]
 simp only [h]
 rfl
theorem rowsT_zero : rowsT 0 = List.replicate 16 z256 := by
 unfold rowsT
 simp only [tabP_zero]
 rfl
noncomputable def bkS : Nat → List Int
 | 0 => z256
 | k + 1 => (bkS k).set (sbx (k : Int)).toNat (k : Int)
noncomputable def sbT (k : Nat) : List Int := tabP 256 k fun i => sbx (i : Int)
theorem rd_sbT {x : Int} (h : B8 x) : rd 0 (sbT 256) x = sbx x := by
 unfold sbT
 rw [tabP_end, rd_tabI h.1 (by exact h.2), show ((x.toNat : Nat) : Int) = x by have := h.1; omega]
theorem rd_rows {x : Int} (h : B8 x) : rd 0 (rd z256 (rowsT 256) 1) x = tm x 1 ∧ rd 0 (rd z256 (rowsT 256) 2) x = tm x 2 ∧ rd 0 (rd z256 (rowsT 256) 3) x = tm x 3 := by
 have e : ∀ j : Int, rd 0 (tabP 256 256 fun i => tm (i : Int) j) x = tm x j := fun j => by
  rw [tabP_end, rd_tabI h.1 (by exact h.2), show ((x.toNat : Nat) : Int) = x by have := h.1; omega]
 exact ⟨e 1, e 2, e 3⟩
def word (key : List Int) (j : Nat) : List Int := [rd 0 key ((4 * j : Nat) : Int), rd 0 key ((4 * j + 1 : Nat) : Int), rd 0 key ((4 * j + 2 : Nat) : Int), rd 0 key ((4 * j + 3 : Nat) : Int)]
theorem drop4 {m : List Int} {k : Nat} (h : k + 4 ≤ m.length) : (m.drop k).take 4 = [rd 0 m (k : Int), rd 0 m ((k + 1 : Nat) : Int), rd 0 m ((k + 2 : Nat) : Int), rd 0 m ((k + 3 : Nat) : Int)] := by
 rw [rd_ix (show k < m.length by omega), rd_ix (show k + 1 < m.length by omega), rd_ix (show k + 2 < m.length by omega), rd_ix (show k + 3 < m.length by omega)]
 rw [List.drop_eq_getElem_cons (show k < m.length by omega), List.drop_eq_getElem_cons (show k + 1 < m.length by omega), List.drop_eq_getElem_cons (show k + 2 < m.length by omega), List.drop_eq_getElem_cons (show k + 3 < m.length by omega)]
 rfl
theorem cutN {α : Type} (m : List α) (a b : Nat) : cut m (a : Int) (b : Int) = (m.drop a).take (b - a) := by
 unfold cut; rw [Int.toNat_natCast, Int.toNat_natCast, List.drop_take]
theorem cut_word {key : List Int} {j : Nat} (h : 4 * j + 4 ≤ key.length) : (cut key ((4 * j : Nat) : Int) ((4 * j + 4 : Nat) : Int)).take 4 = word key j := by
 rw [cutN, show 4 * j + 4 - 4 * j = 4 by omega, List.take_take, Nat.min_self, drop4 h]
 rfl
def Words (W : List (List Int)) : Prop := ∀ w ∈ W, w.length = 4 ∧ ∀ x ∈ w, B8 x
theorem Words.at {W : List (List Int)} (h : Words W) {i : Nat} (hi : i < W.length) : (rd z4 W (i : Int)).length = 4 ∧ ∀ x ∈ rd z4 W (i : Int), B8 x := h _ (rd_mem (by omega) (by omega))
theorem Words.byte {W : List (List Int)} (h : Words W) {i : Nat} (hi : i < W.length) {j : Int} (h0 : 0 ≤ j) (hj : j < 4) : B8 (rd 0 (rd z4 W (i : Int)) j) := by
 have := h.at hi
 exact this.2 _ (rd_mem h0 (by omega))
noncomputable def turnW (nk : Nat) (i : Nat) (x : Int) (t : List Int) : List Int :=
 if i % nk = 0 then [ixor .u8 (sbx (rd 0 t 1)) x, sbx (rd 0 t 2), sbx (rd 0 t 3), sbx (rd 0 t 0)]
 else if nk = 8 ∧ i % 8 = 4 then [sbx (rd 0 t 0), sbx (rd 0 t 1), sbx (rd 0 t 2), sbx (rd 0 t 3)]
 else [rd 0 t 0, rd 0 t 1, rd 0 t 2, rd 0 t 3]
def xor4 (t w : List Int) : List Int := [ixor .u8 (rd 0 t 0) (rd 0 w 0), ixor .u8 (rd 0 t 1) (rd 0 w 1), ixor .u8 (rd 0 t 2) (rd 0 w 2), ixor .u8 (rd 0 t 3) (rd 0 w 3)]
noncomputable def stepW (nk : Nat) (s : List (List Int) × Int) : List (List Int) × Int :=
 (s.1 ++ [xor4 (turnW nk s.1.length s.2 (rd z4 s.1 ((s.1.length - 1 : Nat) : Int))) (rd z4 s.1 ((s.1.length - nk : Nat) : Int))], if s.1.length % nk = 0 then tm s.2 2 else s.2)
noncomputable def sched (nk : Nat) (key : List Int) : Nat → List (List Int) × Int
 | 0 => ((List.range nk).map (word key), 1)
 | k + 1 => stepW nk (sched nk key k)
theorem sched_len (nk : Nat) (key : List Int) : ∀ k, (sched nk key k).1.length = nk + k
 | 0 => by simp [sched]
 | k + 1 => by rw [sched, stepW, List.length_append, sched_len nk key k]; rfl
theorem xor4_ok (t w : List Int) : (xor4 t w).length = 4 ∧ ∀ x ∈ xor4 t w, B8 x := by
 refine ⟨rfl, fun x hx => ?_⟩
 simp only [xor4, List.mem_cons, List.not_mem_nil, or_false] at hx
 rcases hx with rfl | rfl | rfl | rfl <;> exact xor_B _ _
theorem sched_ok (nk : Nat) (key : List Int) (hk : 4 * nk ≤ key.length) (hb : ∀ x ∈ key, B8 x) : ∀ k, Words (sched nk key k).1 ∧ B8 (sched nk key k).2
 | 0 => by
  refine ⟨fun w hw => ?_, show B8 1 from ⟨by decide, by decide⟩⟩
  obtain ⟨j, hj, rfl⟩ := List.mem_map.1 hw
  have hj := List.mem_range.1 hj
  refine ⟨rfl, fun x hx => ?_⟩
  simp only [word, List.mem_cons, List.not_mem_nil, or_false] at hx
  rcases hx with rfl | rfl | rfl | rfl <;> exact hb _ (rd_mem (by omega) (by omega))
 | k + 1 => by
  obtain ⟨h1, h2⟩ := sched_ok nk key hk hb k
  refine ⟨fun w hw => ?_, ?_⟩
  ·rcases List.mem_append.1 hw with hw | hw
   ·exact h1 w hw
   ·rw [List.mem_singleton.1 hw]; exact xor4_ok _ _
  ·show B8 (if _ then tm _ 2 else _)
   split
   ·exact tm_B _ _
   ·exact h2
noncomputable def allW (key : List Int) : List (List Int) := (sched (key.length / 4) key (3 * (key.length / 4) + 28)).1
theorem allW_len (key : List Int) : (allW key).length = 4 * (key.length / 4) + 28 := by unfold allW; rw [sched_len]; omega
theorem allW_ok (key : List Int) (hb : ∀ x ∈ key, B8 x) : Words (allW key) := (sched_ok _ key (by omega) hb _).1
def rndK (W : List (List Int)) (j : Nat) : List Int := rd z4 W ((4 * j : Nat) : Int) ++ (rd z4 W ((4 * j + 1 : Nat) : Int) ++ (rd z4 W ((4 * j + 2 : Nat) : Int) ++ rd z4 W ((4 * j + 3 : Nat) : Int)))
def rnds (W : List (List Int)) : List (List Int) := (List.range (W.length / 4)).map (rndK W)
theorem rndK_len {W : List (List Int)} (h : Words W) {j : Nat} (hj : 4 * j + 3 < W.length) : (rndK W j).length = 16 := by
 unfold rndK
 simp only [List.length_append, (h.at (show 4 * j < W.length by omega)).1, (h.at (show 4 * j + 1 < W.length by omega)).1, (h.at (show 4 * j + 2 < W.length by omega)).1, (h.at hj).1]
noncomputable def shiftS (b : List Int) : List Int := tab 16 fun i => sbx (rd 0 b (((i + 4 * (i % 4)) % 16 : Nat) : Int))
def mixS (b : List Int) : List Int := tab 16 fun i =>
 ixor .u8 (ixor .u8 (ixor .u8 (ixor .u8 0 (tm (rd 0 b ((i / 4 * 4 + i % 4 : Nat) : Int)) 2)) (tm (rd 0 b ((i / 4 * 4 + (i + 1) % 4 : Nat) : Int)) 3)) (tm (rd 0 b ((i / 4 * 4 + (i + 2) % 4 : Nat) : Int)) 1)) (tm (rd 0 b ((i / 4 * 4 + (i + 3) % 4 : Nat) : Int)) 1)
def plusS (b k : List Int) : List Int := tab 16 fun i => ixor .u8 (rd 0 b (i : Int)) (rd 0 k (i : Int))
noncomputable def rndS (last : Bool) (b k : List Int) : List Int := plusS (bif last then shiftS b else mixS (shiftS b)) k
noncomputable def encN (W : List (List Int)) (b : List Int) : Nat → List Int
 | 0 => plusS b (rndK W 0)
 | j + 1 => rndS (decide (j + 2 = W.length / 4)) (encN W b j) (rndK W (j + 1))
noncomputable def encS (key b : List Int) : List Int := encN (allW key) b ((allW key).length / 4 - 1)
def Blk (b : List Int) : Prop := b.length = 16 ∧ ∀ x ∈ b, B8 x
theorem tab_B {n : Nat} {g : Nat → Int} (h : ∀ k, k < n → B8 (g k)) : ∀ x ∈ tab n g, B8 x := by
 intro x hx
 obtain ⟨i, hi, rfl⟩ := List.mem_map.1 hx
 exact h i (List.mem_range.1 hi)
theorem plusS_ok (b k : List Int) : Blk (plusS b k) := ⟨tab_len, tab_B fun _ _ => xor_B _ _⟩
theorem encN_ok (W : List (List Int)) (b : List Int) : ∀ j, Blk (encN W b j)
 | 0 => plusS_ok _ _
 | _ + 1 => plusS_ok _ _
theorem encS_ok (key b : List Int) : Blk (encS key b) := encN_ok _ _ _
theorem Blk.at {b : List Int} (h : Blk b) {i : Nat} (hi : i < 16) : B8 (rd 0 b (i : Int)) := h.2 _ (rd_mem (by omega) (by rw [h.1]; omega))
end Go.AM
end
section
namespace Go.AM
theorem rd_app {α : Type} {d : α} {a b : List α} {k : Nat} (h : k < a.length) : rd d (a ++ b) (k : Int) = rd d a (k : Int) := by
 unfold rd; rw [Int.toNat_natCast, List.getD_eq_getElem?_getD, List.getD_eq_getElem?_getD, List.getElem?_append_left h]
end Go.AM
end
section
namespace Go.AM
section
variable {ok : Bool} {n dn mu sm four nk x i t t1 t2 tp tq : Int} {key b tw ta out K was kb T sb bk : List Int} {yb W rn : List (List Int)} {last : Bool}
theorem E_mul (i : Nat) (hi : i < 256) : aes_Encrypt.l0 .lim ((i : Int), t, 7, 0, ok, key, dn, mu, sm, sb, bk, yb, kL, b, tw, ()) = some (t, ok, key, dn, mu, sm, sb, bk, rowsS i yb 7, b, tw, ()) := by
 have e := loop_to (f := aes_Encrypt.l0 .lim) (fun k => ((i : Int), t, 7, (k : Int), ok, key, dn, mu, sm, sb, bk, rowsS i yb k, kL, b, tw, ())) (n := 7) (fun k hk => by
  rw [aes_Encrypt.q0]
  obtain ⟨h1, h2⟩ := kL_ok k hk
  have hB : B8 (rd 0 kL (k : Int)) := ⟨h1, by omega⟩
  have hi8 : B8 (i : Int) := ⟨by omega, by omega⟩
  simp only [aes_Encrypt.b0, dec_t (show (k : Int) < 7 by omega), inB_t (show (0 : Int) ≤ k by omega) (show (k : Int) < (kL.length : Int) from show (k : Int) < 7 by omega), wrapu8_id hi8, atimes_eq hi8 hB, Option.bind_some, inB_t h1 (show rd 0 kL (k : Int) < 16 from h2), inB_t (show (0 : Int) ≤ i by omega) (show (i : Int) < 256 by omega), cond_true, wk' k (by omega), Int.toNat_natCast]
  rfl)
 refine e.trans ?_
 rw [aes_Encrypt.q0]
 simp only [aes_Encrypt.b0, dec_f (show ¬ ((7 : Nat) : Int) < 7 by decide), cond_false]
theorem E_tables : aes_Encrypt.l1 .lim (0, ok, key, dn, mu, sm, z256, z256, List.replicate 16 z256, b, tw, ()) = some (ok, key, dn, mu, sm, sbT 256, bkS 256, rowsT 256, b, tw, ()) := by
 have e := loop_to (f := aes_Encrypt.l1 .lim) (fun k => ((k : Int), ok, key, dn, mu, sm, sbT k, bkS k, rowsT k, b, tw, ())) (n := 256) (fun k hk => by
  rw [aes_Encrypt.q1]
  have hi8 : B8 (k : Int) := ⟨by omega, by omega⟩
  have hs := sbx_B hi8
  have hm := fun sb bk => E_mul (ok := ok) (key := key) (dn := dn) (mu := mu) (sm := sm) (sb := sb) (bk := bk) (yb := rowsT k) (b := b) (tw := tw) (t := (k : Int))  k hk
  simp only [aes_Encrypt.b1, dec_t (show (k : Int) < 256 by omega), wrapu8_id hi8, asub_eq hi8, Option.bind_some, inB_t (show (0 : Int) ≤ k by omega) (show (k : Int) < 256 by omega), inB_t hs.1 hs.2, cond_true, show ((([1, 2, 3, 9, 11, 13, 14] : List Int).length : Nat) : Int) = 7 from rfl, smallI_t (show (7 : Int) < 9223372036854775808 by omega), hm, wk' k (by omega), rowsS_7]
  rw [show (sbT k).set ((k : Int)).toNat (sbx k) = sbT (k + 1) from tabP_set rfl]
  rfl)
 rw [show sbT 0 = z256 from tabP_zero, rowsT_zero, show bkS 0 = z256 from rfl, show ((0 : Nat) : Int) = 0 from rfl] at e
 refine e.trans ?_
 rw [aes_Encrypt.q1]
 simp only [aes_Encrypt.b1, dec_f (show ¬ ((256 : Nat) : Int) < 256 by decide), cond_false]
theorem E_split {q : Nat} (hk : kb.length = 4 * q) (hq : q ≤ 100) : aes_Encrypt.l2 .lim (0, nk, ok, 4, key, dn, mu, sm, sb, bk, yb, b, tw, kb, [], ()) = some (nk, ok, key, dn, mu, sm, sb, bk, yb, b, tw, (List.range q).map (word kb), ()) := by
 have e := loop_to (f := aes_Encrypt.l2 .lim) (fun k => (((4 * k : Nat) : Int), nk, ok, 4, key, dn, mu, sm, sb, bk, yb, b, tw, kb, (List.range k).map (word kb), ())) (n := q) (fun k hkq => by
  rw [aes_Encrypt.q2]
  have w1 : IntKind.i64.wrap (((4 * k : Nat) : Int) + 4) = ((4 * k + 4 : Nat) : Int) := by rw [wrap64 (by omega) (by omega)]; omega
  have w2 : mn 4 ((kb.length : Int) - ((4 * k : Nat) : Int)) = 4 := by rw [mn_eq]; omega
  have w3 : (cut kb ((4 * k : Nat) : Int) ((4 * k + 4 : Nat) : Int)).length = 4 := by rw [cutN, List.length_take, List.length_drop]; omega
  have w4 : (Nat.ble 1 4 && Nat.ble 4 (cut kb ((4 * k : Nat) : Int) ((4 * k + 4 : Nat) : Int)).length) = true := by rw [w3]; rfl
  simp only [aes_Encrypt.b2, smallI_t (show (kb.length : Int) < 9223372036854775808 by omega), dec_t (show ((4 * k : Nat) : Int) < (kb.length : Int) by omega), cutB_t (show (0 : Int) ≤ ((4 * k : Nat) : Int) by omega) (show ((4 * k : Nat) : Int) ≤ (kb.length : Int) by omega) (Int.le_refl _), smallI_t (show (kb.length : Int) - ((4 * k : Nat) : Int) < 9223372036854775808 by omega), w2, w1, cutB_t (show (0 : Int) ≤ ((4 * k : Nat) : Int) by omega) (show ((4 * k : Nat) : Int) ≤ ((4 * k + 4 : Nat) : Int) by omega) (Int.le_refl _), dec_t (show ((4 * k + 4 : Nat) : Int) ≤ (kb.length : Int) by omega), Bool.and_self, w4, cond_true]
  rw [cond_pos (by simp; omega), cut_word (by omega)]
  simp only [List.range_succ, List.map_append, List.map_cons, List.map_nil]
  rfl)
 refine e.trans ?_
 rw [aes_Encrypt.q2]
 simp only [aes_Encrypt.b2, smallI_t (show (kb.length : Int) < 9223372036854775808 by omega), dec_f (show ¬ ((4 * q : Nat) : Int) < (kb.length : Int) by omega), cond_true, cond_false]
theorem E_xor (hW : Words W) {i nk : Nat} (h1 : nk ≤ i) (h2 : i ≤ W.length) (h3 : 0 < nk) (h4 : i < 1000) (hT : T.length = 4) : aes_Encrypt.l3 .lim ((nk : Int), x, (i : Int), 0, ok, T, key, dn, mu, sm, sb, bk, yb, b, tw, W, ()) = some ((nk : Int), x, (i : Int), ok, xor4 T (rd z4 W ((i - nk : Nat) : Int)), key, dn, mu, sm, sb, bk, yb, b, tw, W, ()) := by
 have w : IntKind.i64.wrap ((i : Int) - (nk : Int)) = ((i - nk : Nat) : Int) := by rw [wrap64 (by omega) (by omega)]; omega
 have e := loop_upd (f := aes_Encrypt.l3 .lim) (fun k T => ((nk : Int), x, (i : Int), (k : Int), ok, T, key, dn, mu, sm, sb, bk, yb, b, tw, W, ())) (fun k v => ixor .u8 v (rd 0 (rd z4 W ((i - nk : Nat) : Int)) (k : Int))) T hT (fun k hk m' hm hj => by
  rw [aes_Encrypt.q3]
  simp only [aes_Encrypt.b3, dec_t (show (k : Int) < 4 by omega), inB_t (show (0 : Int) ≤ k by omega) (show (k : Int) < 4 by omega), w, inB_t (show (0 : Int) ≤ ((i - nk : Nat) : Int) by omega) (show ((i - nk : Nat) : Int) < (W.length : Int) by omega), cond_true, wk' k (by omega), hj k (Nat.le_refl _), Int.toNat_natCast])
 refine e.trans ?_
 rw [aes_Encrypt.q3]
 simp only [aes_Encrypt.b3, dec_f (show ¬ ((4 : Nat) : Int) < 4 by decide), cond_false]
 rfl
end
end Go.AM
end
section
namespace Go.AM
section
variable {ok : Bool} {n dn mu sm four x i t t1 t2 tp tq : Int} {key b tw ta out K was kb T sb bk : List Int} {yb W rn : List (List Int)} {last : Bool}
theorem E_set4 (a b c d : Int) : ((((List.replicate 4 (0 : Int)).set 0 a).set 1 b).set 2 c).set 3 d = [a, b, c, d] := rfl
theorem E_words {nk : Nat} (hn : nk = 4 ∨ nk = 8) (hk : 4 * nk ≤ kb.length) (hb : ∀ x ∈ kb, B8 x) :
  aes_Encrypt.l4 .lim ((nk : Int), 1, (nk : Int), ok, key, dn, mu, sm, sbT 256, bk, yb, b, tw, (List.range nk).map (word kb), ()) = some (ok, key, dn, mu, sm, sbT 256, bk, yb, b, tw, (sched nk kb (3 * nk + 28)).1, ()) := by
 have e := loop_to (f := aes_Encrypt.l4 .lim) (fun k => ((nk : Int), (sched nk kb k).2, ((nk + k : Nat) : Int), ok, key, dn, mu, sm, sbT 256, bk, yb, b, tw, (sched nk kb k).1, ())) (n := 3 * nk + 28) (fun k hkq => by
  rw [aes_Encrypt.q4]
  obtain ⟨hW, hx⟩ := sched_ok nk kb hk hb k
  have hl := sched_len nk kb k
  have hs : sched nk kb (k + 1) = stepW nk (sched nk kb k) := rfl
  rw [hs]
  unfold stepW
  generalize hq : sched nk kb k = q at hW hx hl
  obtain ⟨W, x⟩ := q
  simp only at hW hx hl ⊢
  have hi0 : nk + k < 1000 := by omega
  generalize hi : nk + k = i at hl hi0
  have hw := hW.at (show i - 1 < W.length by omega)
  have hb0 := hW.byte (show i - 1 < W.length by omega) (j := 0) (by omega) (by omega)
  have hb1 := hW.byte (show i - 1 < W.length by omega) (j := 1) (by omega) (by omega)
  have hb2 := hW.byte (show i - 1 < W.length by omega) (j := 2) (by omega) (by omega)
  have hb3 := hW.byte (show i - 1 < W.length by omega) (j := 3) (by omega) (by omega)
  have w1 : IntKind.i64.wrap (4 * IntKind.i64.wrap ((nk : Int) + 7)) = ((4 * nk + 28 : Nat) : Int) := by rw [wrap64 (n := (nk : Int) + 7) (by omega) (by omega), wrap64 (by omega) (by omega)]; omega
  have w2 : IntKind.i64.wrap ((i : Int) - 1) = ((i - 1 : Nat) : Int) := by rw [wrap64 (by omega) (by omega)]; omega
  have m1 : ((i : Int)).tmod (nk : Int) = ((i % nk : Nat) : Int) := by rw [Int.tmod_eq_emod_of_nonneg (Int.natCast_nonneg i)]; simp
  have m2 : ((i : Int)).tmod 8 = ((i % 8 : Nat) : Int) := by rw [Int.tmod_eq_emod_of_nonneg (Int.natCast_nonneg i)]; simp
  have hxor := fun x T hT => E_xor (ok := ok) (key := key) (dn := dn) (mu := mu) (sm := sm) (sb := sbT 256) (bk := bk) (yb := yb) (b := b) (tw := tw) (x := x) (T := T)  hW (i := i) (nk := nk) (by omega) (by omega) (by omega) (by omega) hT
  have cap : ∀ T : List Int, decide (W.length + ([T] : List (List Int)).length < 17592186044416) = true := fun T => dec_t (by simp; omega)
  simp only [aes_Encrypt.b4, w1, dec_t (show (i : Int) < ((4 * nk + 28 : Nat) : Int) by omega), w2, inB_t (show (0 : Int) ≤ ((i - 1 : Nat) : Int) by omega) (show ((i - 1 : Nat) : Int) < (W.length : Int) by omega), dec_f (show ¬ (nk : Int) = 0 by omega), m1, m2, cond_true, Bool.not_false, inB_t hb0.1 hb0.2, inB_t hb1.1 hb1.2, inB_t hb2.1 hb2.2, inB_t hb3.1 hb3.2, rd_sbT hb0, rd_sbT hb1, rd_sbT hb2, rd_sbT hb3, E_set4, Bool.or_true]
  rw [hl]
  unfold turnW
  by_cases c1 : i % nk = 0
  ·rw [dec_t (show ((i % nk : Nat) : Int) = 0 by omega), if_pos c1, if_pos c1]
   simp only [cond_true, atimes_eq hx (show B8 2 from ⟨by decide, by decide⟩), Option.bind_some]
   rw [hxor _ _ rfl]
   simp only [Option.bind_some]
   rw [cond_pos (by simp; omega), wk' i (by omega)]
   rw [show i + 1 = nk + (k + 1) by omega]
  ·rw [dec_f (show ¬ ((i % nk : Nat) : Int) = 0 by omega), if_neg c1, if_neg c1]
   simp only [cond_false]
   by_cases c2 : nk = 8 ∧ i % 8 = 4
   ·rw [dec_t (show (nk : Int) = 8 by omega), dec_t (show ((i % 8 : Nat) : Int) = 4 by omega), if_pos c2]
    simp only [Bool.and_self, cond_true]
    rw [hxor _ _ rfl]
    simp only [Option.bind_some]
    rw [cond_pos (by simp; omega), wk' i (by omega)]
    rw [show i + 1 = nk + (k + 1) by omega]
   ·have : (decide ((nk : Int) = 8) && decide (((i % 8 : Nat) : Int) = 4)) = false := by
     by_cases c3 : nk = 8
     ·rw [dec_f (show ¬ ((i % 8 : Nat) : Int) = 4 by omega), Bool.and_false]
     ·rw [dec_f (show ¬ (nk : Int) = 8 by omega), Bool.false_and]
    rw [this, if_neg c2]
    simp only [cond_false]
    rw [hxor _ _ hw.1]
    simp only [Option.bind_some]
    rw [cond_pos (by simp; omega), wk' i (by omega), ← list4 hw.1]
    rw [show i + 1 = nk + (k + 1) by omega])
 refine (show _ = _ from e).trans ?_
 rw [aes_Encrypt.q4]
 have w1 : IntKind.i64.wrap (4 * IntKind.i64.wrap ((nk : Int) + 7)) = ((4 * nk + 28 : Nat) : Int) := by rw [wrap64 (n := (nk : Int) + 7) (by omega) (by omega), wrap64 (by omega) (by omega)]; omega
 simp only [aes_Encrypt.b4, w1, dec_f (show ¬ ((nk + (3 * nk + 28) : Nat) : Int) < ((4 * nk + 28 : Nat) : Int) by omega), cond_false]
end
end Go.AM
end
section
namespace Go.AM
theorem take_flat {l : List (List Int)} {k : Nat} (h : k < l.length) : (l.take (k + 1)).flatten = (l.take k).flatten ++ rd [] l (k : Int) := by
 rw [take_rd (d := ([] : List Int)) h, List.flatten_append]; simp
theorem take_flat_le (l : List (List Int)) (k : Nat) : (l.take k).flatten.length ≤ l.flatten.length := by
 have : l.flatten = (l.take k).flatten ++ (l.drop k).flatten := by rw [← List.flatten_append, List.take_append_drop]
 rw [this, List.length_append]; omega
theorem concat_eq (l : List (List Int)) (h : l.flatten.length ≤ 1000000) (hl : l.length ≤ 1000000) : slices_Concat_byte_byte.run .lim (l, ()) = some l.flatten := by
 have e := loop_to (f := slices_Concat_byte_byte.l0 .lim) (fun k => (l, (((l.take k).flatten.length : Nat) : Int), l, (l.length : Int), (k : Int), ())) (n := l.length) (fun k hk => by
  rw [slices_Concat_byte_byte.q0]
  have h1 := take_flat hk
  have h2 := take_flat_le l (k + 1)
  rw [h1, List.length_append] at h2
  have w : IntKind.i64.wrap ((((l.take k).flatten.length : Nat) : Int) + ((rd ([] : List Int) l (k : Int)).length : Int)) = (((l.take (k + 1)).flatten.length : Nat) : Int) := by
   rw [wrap64 (by omega) (by omega), h1, List.length_append]; omega
  simp only [slices_Concat_byte_byte.b0, dec_t (show (k : Int) < (l.length : Int) by omega), inB_t (show (0 : Int) ≤ k by omega) (show (k : Int) < (l.length : Int) by omega), smallN (show (rd ([] : List Int) l (k : Int)).length < 9223372036854775808 by omega), w, dec_f (show ¬ ((((l.take (k + 1)).flatten.length : Nat) : Int) < 0) by omega), cond_true, cond_false, wk' k (by omega)])
 have e1 := fun N : Nat => fun hN : N = l.flatten.length => loop_to (f := slices_Concat_byte_byte.l1 .lim) (fun k => ((((l.take k).flatten.length : Nat) : Int), l, (l.length : Int), (k : Int), (l.take k).flatten ++ List.replicate (N - (l.take k).flatten.length) 0, ())) (n := l.length) (fun k hk => by
  rw [slices_Concat_byte_byte.q1]
  have h1 := take_flat hk
  have h2 := take_flat_le l (k + 1)
  rw [h1, List.length_append] at h2
  simp only [slices_Concat_byte_byte.b1, dec_t (show (k : Int) < (l.length : Int) by omega), inB_t (show (0 : Int) ≤ k by omega) (show (k : Int) < (l.length : Int) by omega), cond_true, wk' k (by omega), Int.toNat_natCast]
  have hc : (decide (((l.take k).flatten ++ List.replicate (N - (l.take k).flatten.length) (0 : Int)).length + (rd ([] : List Int) l (k : Int)).length < 70368744177664) && decide (0 ≤ (((l.take k).flatten.length : Nat) : Int))) = true := by
   rw [List.length_append, List.length_replicate, dec_t (by omega), dec_t (by omega)]; rfl
  rw [cond_pos hc, h1, List.length_append]
  have e3 : ((((l.take k).flatten.length : Nat) : Int) + ((rd ([] : List Int) l (k : Int)).length : Int)) = (((l.take k).flatten.length + (rd ([] : List Int) l (k : Int)).length : Nat) : Int) := by omega
  rw [e3, List.take_append_of_le_length (Nat.le_refl _), List.take_length, List.drop_append, List.drop_eq_nil_of_le (by omega), List.nil_append, List.drop_replicate, List.append_assoc]
  have e4 : N - (l.take k).flatten.length - ((l.take k).flatten.length + (rd ([] : List Int) l (k : Int)).length - (l.take k).flatten.length) = N - ((l.take k).flatten.length + (rd ([] : List Int) l (k : Int)).length) := by omega
  rw [e4])
 rw [List.take_length, List.take_zero, show ((([] : List (List Int)).flatten.length : Nat) : Int) = 0 from rfl, show ((0 : Nat) : Int) = 0 from rfl] at e
 have ee : slices_Concat_byte_byte.l0 .lim (l, ((l.flatten.length : Nat) : Int), l, (l.length : Int), (l.length : Int), ()) = some (l, ((l.flatten.length : Nat) : Int), ()) := by
  rw [slices_Concat_byte_byte.q0]
  simp only [slices_Concat_byte_byte.b0, dec_f (show ¬ (l.length : Int) < (l.length : Int) by omega), cond_false]
 have ee1 : ∀ m, slices_Concat_byte_byte.l1 .lim (((l.flatten.length : Nat) : Int), l, (l.length : Int), (l.length : Int), m, ()) = some (((l.flatten.length : Nat) : Int), m, ()) := fun m => by
  rw [slices_Concat_byte_byte.q1]
  simp only [slices_Concat_byte_byte.b1, dec_f (show ¬ (l.length : Int) < (l.length : Int) by omega), cond_false]
 have e2 : slices_Concat_byte_byte.l1 .lim (0, l, (l.length : Int), 0, List.replicate l.flatten.length 0, ()) = some (((l.flatten.length : Nat) : Int), l.flatten, ()) := by
  have := e1 _ rfl
  rw [List.take_length, List.take_zero, Nat.sub_self, List.replicate_zero, List.append_nil] at this
  exact this.trans (ee1 _)
 simp only [slices_Concat_byte_byte.run, smallN (show l.length < 9223372036854775808 by omega), cond_true, e, ee, Option.bind_some, Int.sub_zero, dec_f (show ¬ ((l.flatten.length : Nat) : Int) < 0 by omega), cond_false, wrap64 (show -9223372036854775808 ≤ ((l.flatten.length : Nat) : Int) by omega) (show ((l.flatten.length : Nat) : Int) < 9223372036854775808 by omega), Int.toNat_natCast]
 by_cases h0 : l.flatten.length = 0
 ·rw [dec_f (show ¬ ((l.flatten.length : Nat) : Int) > 0 by omega)]
  rw [h0, List.replicate_zero] at e2
  simp only [cond_false]
  rw [e2]
  simp [List.length_eq_zero_iff.1 h0]
 ·rw [dec_t (show ((l.flatten.length : Nat) : Int) > 0 by omega)]
  have hb : Nat.blt l.flatten.length 70368744177664 = true := by rw [Nat.blt_eq]; omega
  simp only [cond_true, dec_t (show (0 : Int) ≤ ((l.flatten.length : Nat) : Int) by omega), hb, Bool.and_self, e2, Option.bind_some, List.drop_zero, Int.toNat_natCast, List.take_length]
  rw [cond_pos (cutB_t (Int.le_refl 0) (Int.le_refl 0) (Int.natCast_nonneg _))]
end Go.AM
end
section
namespace Go.AM
section
variable {ok : Bool} {n dn mu sm four x i t t1 t2 tp tq : Int} {key b tw ta out K was kb T sb bk : List Int} {yb W rn : List (List Int)} {last : Bool}
theorem E_rounds {q : Nat} (hW : Words W) (hl : W.length = 4 * q) (hq : q ≤ 100) : aes_Encrypt.l5 .lim (0, ok, 4, key, dn, mu, sm, sb, bk, yb, b, tw, W, [], ()) = some (ok, key, dn, mu, sm, sb, bk, yb, b, tw, rnds W, ()) := by
 have e := loop_to (f := aes_Encrypt.l5 .lim) (fun k => (((4 * k : Nat) : Int), ok, 4, key, dn, mu, sm, sb, bk, yb, b, tw, W, (List.range k).map (rndK W), ())) (n := q) (fun k hkq => by
  rw [aes_Encrypt.q5]
  have w1 : IntKind.i64.wrap (((4 * k : Nat) : Int) + 4) = ((4 * k + 4 : Nat) : Int) := by rw [wrap64 (by omega) (by omega)]; omega
  have w2 : mn 4 ((W.length : Int) - ((4 * k : Nat) : Int)) = 4 := by rw [mn_eq]; omega
  have w3 : (cut W ((4 * k : Nat) : Int) ((4 * k + 4 : Nat) : Int)).length = 4 := by rw [cutN, List.length_take, List.length_drop]; omega
  have at_ : ∀ j : Nat, j < 4 → rd z4 (cut W ((4 * k : Nat) : Int) ((4 * k + 4 : Nat) : Int)) (j : Int) = rd z4 W ((4 * k + j : Nat) : Int) := fun j hj => by
   rw [cutN]
   unfold rd
   rw [Int.toNat_natCast, Int.toNat_natCast, List.getD_eq_getElem?_getD, List.getD_eq_getElem?_getD, List.getElem?_take_of_lt (by omega), List.getElem?_drop]
  have a0 : rd z4 (cut W ((4 * k : Nat) : Int) ((4 * k + 4 : Nat) : Int)) 0 = rd z4 W ((4 * k : Nat) : Int) := at_ 0 (by omega)
  have a1 : rd z4 (cut W ((4 * k : Nat) : Int) ((4 * k + 4 : Nat) : Int)) 1 = rd z4 W ((4 * k + 1 : Nat) : Int) := at_ 1 (by omega)
  have a2 : rd z4 (cut W ((4 * k : Nat) : Int) ((4 * k + 4 : Nat) : Int)) 2 = rd z4 W ((4 * k + 2 : Nat) : Int) := at_ 2 (by omega)
  have a3 : rd z4 (cut W ((4 * k : Nat) : Int) ((4 * k + 4 : Nat) : Int)) 3 = rd z4 W ((4 * k + 3 : Nat) : Int) := at_ 3 (by omega)
  have c4 : ∀ l : List Int, l.length = 4 → cut l 0 4 = l := fun l hl => by
   have := cutN l 0 4
   rw [show ((0 : Nat) : Int) = 0 from rfl, show ((4 : Nat) : Int) = 4 from rfl] at this
   rw [this, List.drop_zero, List.take_of_length_le (by omega)]
  have l0 := (hW.at (show 4 * k < W.length by omega)).1
  have l1 := (hW.at (show 4 * k + 1 < W.length by omega)).1
  have l2 := (hW.at (show 4 * k + 2 < W.length by omega)).1
  have l3 := (hW.at (show 4 * k + 3 < W.length by omega)).1
  have hfl : [rd z4 W ((4 * k : Nat) : Int), rd z4 W ((4 * k + 1 : Nat) : Int), rd z4 W ((4 * k + 2 : Nat) : Int), rd z4 W ((4 * k + 3 : Nat) : Int)].flatten = rndK W k := by simp [rndK]
  have hrl := rndK_len hW (j := k) (by omega)
  have hcat := concat_eq [rd z4 W ((4 * k : Nat) : Int), rd z4 W ((4 * k + 1 : Nat) : Int), rd z4 W ((4 * k + 2 : Nat) : Int), rd z4 W ((4 * k + 3 : Nat) : Int)] (by rw [hfl, hrl]; omega) (by simp)
  rw [hfl] at hcat
  simp only [aes_Encrypt.b5, smallI_t (show (W.length : Int) < 9223372036854775808 by omega), dec_t (show ((4 * k : Nat) : Int) < (W.length : Int) by omega), cutB_t (show (0 : Int) ≤ ((4 * k : Nat) : Int) by omega) (show ((4 * k : Nat) : Int) ≤ (W.length : Int) by omega) (Int.le_refl _), smallI_t (show (W.length : Int) - ((4 * k : Nat) : Int) < 9223372036854775808 by omega), w2, w1, cutB_t (show (0 : Int) ≤ ((4 * k : Nat) : Int) by omega) (show ((4 * k : Nat) : Int) ≤ ((4 * k + 4 : Nat) : Int) by omega) (Int.le_refl _), dec_t (show ((4 * k + 4 : Nat) : Int) ≤ (W.length : Int) by omega), Bool.and_self, w3, cond_true, inB_t (show (0 : Int) ≤ 0 by omega) (show (0 : Int) < ((4 : Nat) : Int) by decide), inB_t (show (0 : Int) ≤ 1 by omega) (show (1 : Int) < ((4 : Nat) : Int) by decide), inB_t (show (0 : Int) ≤ 2 by omega) (show (2 : Int) < ((4 : Nat) : Int) by decide), inB_t (show (0 : Int) ≤ 3 by omega) (show (3 : Int) < ((4 : Nat) : Int) by decide), a0, a1, a2, a3, c4 _ l0, c4 _ l1, c4 _ l2, c4 _ l3, hcat, Option.bind_some, hrl, List.take_of_length_le (Nat.le_of_eq hrl)]
  rw [show (Nat.ble 1 16 && Nat.ble 16 16) = true from rfl, cond_true, cond_pos (by simp; omega)]
  simp only [List.range_succ, List.map_append, List.map_cons, List.map_nil]
  rfl)
 refine (show _ = _ from e).trans ?_
 rw [aes_Encrypt.q5]
 simp only [aes_Encrypt.b5, smallI_t (show (W.length : Int) < 9223372036854775808 by omega), dec_f (show ¬ ((4 * q : Nat) : Int) < (W.length : Int) by omega), cond_true, cond_false]
 unfold rnds
 rw [hl, Nat.mul_div_cancel_left _ (by omega)]
theorem E_ready (hk : key.length = 16 ∨ key.length = 32) (hb : ∀ x ∈ key, B8 x) : aes_Encrypt.l6 .lim (key, 0, 0, sm, z256, z256, List.replicate 16 z256, b, tw, ()) = some (b, tw, key, 1, 0, sm, sbT 256, bkS 256, rowsT 256, rnds (allW key), ()) := by
 have h0 : aes_Encrypt.l6 .lim (key, 0, 0, sm, z256, z256, List.replicate 16 z256, b, tw, ()) = aes_Encrypt.b6 .lim (aes_Encrypt.l6 .lim) (key, 0, 0, sm, z256, z256, List.replicate 16 z256, b, tw, ()) := aes_Encrypt.q6 _
 rw [h0]
 have hd : (key.length : Int).tdiv 4 = ((key.length / 4 : Nat) : Int) := by rw [Int.tdiv_eq_ediv_of_nonneg (Int.natCast_nonneg _)]; simp
 have w1 : IntKind.i64.wrap ((key.length : Int).tdiv 4) = ((key.length / 4 : Nat) : Int) := by rw [hd, wrap64 (by omega) (by omega)]
 have t := E_tables (ok := true) (key := key) (dn := 0) (mu := 1) (sm := sm) (b := b) (tw := tw)
 have s := E_split (kb := key) (q := key.length / 4) (nk := ((key.length / 4 : Nat) : Int)) (ok := true) (key := key) (dn := 0) (mu := 1) (sm := sm) (sb := sbT 256) (bk := bkS 256) (yb := rowsT 256) (b := b) (tw := tw)  (by omega) (by omega)
 have w := E_words (kb := key) (nk := key.length / 4) (ok := true) (key := key) (dn := 0) (mu := 1) (sm := sm) (bk := bkS 256) (yb := rowsT 256) (b := b) (tw := tw)  (by omega) (by omega) hb
 have r := E_rounds (W := allW key) (q := key.length / 4 + 7) (ok := true) (key := key) (dn := 0) (mu := 1) (sm := sm) (sb := sbT 256) (bk := bkS 256) (yb := rowsT 256) (b := b) (tw := tw)  (allW_ok key hb) (by rw [allW_len]; omega) (by omega)
 have hs : sync_atomic_b32.run .lim (true, ()) = some 1 := rfl
 have hw : (sched (key.length / 4) key (3 * (key.length / 4) + 28)).1 = allW key := rfl
 simp only [aes_Encrypt.b6, decide_true, Bool.not_true, Bool.not_false, cond_true, t, Option.bind_some, smallI_t (show (key.length : Int) < 9223372036854775808 by omega), w1]
 rw [s]
 simp only [Option.bind_some]
 rw [w]
 simp only [Option.bind_some]
 rw [hw, r]
 simp only [Option.bind_some, hs, show IntKind.i32.wrap (1 + -1) = 0 from by decide, decide_true, Bool.not_true, cond_false]
end
end Go.AM
end
section
namespace Go.AM
section
variable {ok : Bool} {n dn mu sm four x i t t1 t2 tp tq : Int} {key b tw ta out K was kb T sb bk : List Int} {yb W rn : List (List Int)} {last : Bool}
theorem E_plus0 (hb : b.length = 16) : aes_Encrypt.l7 .lim (0, b, K, tw, key, dn, mu, sm, sb, bk, yb, rn, ()) = some (plusS b K, tw, key, dn, mu, sm, sb, bk, yb, rn, ()) := by
 have e := loop_upd (f := aes_Encrypt.l7 .lim) (fun k b => ((k : Int), b, K, tw, key, dn, mu, sm, sb, bk, yb, rn, ())) (fun k v => ixor .u8 v (rd 0 K (k : Int))) b hb (fun k hk m' hm hj => by
  rw [aes_Encrypt.q7]
  simp only [aes_Encrypt.b7, dec_t (show (k : Int) < 16 by omega), inB_t (show (0 : Int) ≤ k by omega) (show (k : Int) < 16 by omega), cond_true, wk' k (by omega), hj k (Nat.le_refl _), Int.toNat_natCast])
 refine (show _ = _ from e).trans ?_
 rw [aes_Encrypt.q7]
 simp only [aes_Encrypt.b7, dec_f (show ¬ ((16 : Nat) : Int) < 16 by decide), cond_false]
 rfl
theorem E_become (hb : Blk b) : aes_Encrypt.l8 .lim (0, last, tp, tq, t1, t2, b, key, dn, mu, sm, sbT 256, bk, yb, K, rn, tw, ()) = some (last, tp, tq, t1, t2, tab 16 fun i => sbx (rd 0 b (i : Int)), K, rn, tw, key, dn, mu, sm, sbT 256, bk, yb, ()) := by
 have e := loop_upd (f := aes_Encrypt.l8 .lim) (fun k b => ((k : Int), last, tp, tq, t1, t2, b, key, dn, mu, sm, sbT 256, bk, yb, K, rn, tw, ())) (fun k v => sbx v) b hb.1 (fun k hk m' hm hj => by
  rw [aes_Encrypt.q8]
  have h := hb.at hk
  simp only [aes_Encrypt.b8, dec_t (show (k : Int) < 16 by omega), inB_t (show (0 : Int) ≤ k by omega) (show (k : Int) < 16 by omega), cond_true, wk' k (by omega), hj k (Nat.le_refl _), inB_t h.1 h.2, rd_sbT h, Int.toNat_natCast])
 refine (show _ = _ from e).trans ?_
 rw [aes_Encrypt.q8]
 simp only [aes_Encrypt.b8, dec_f (show ¬ ((16 : Nat) : Int) < 16 by decide), cond_false]
theorem E_turn (hb : b.length = 16) : aes_Encrypt.l9 .lim (4, 0, last, tp, tq, t1, t2, b, was, K, rn, tw, key, dn, mu, sm, sb, bk, yb, ()) = some (last, tp, tq, t1, t2, tab 16 fun i => rd 0 was (((i + 4 * (i % 4)) % 16 : Nat) : Int), K, rn, tw, key, dn, mu, sm, sb, bk, yb, ()) := by
 have e := loop_upd (f := aes_Encrypt.l9 .lim) (fun k b => (4, (k : Int), last, tp, tq, t1, t2, b, was, K, rn, tw, key, dn, mu, sm, sb, bk, yb, ())) (fun k v => rd 0 was (((k + 4 * (k % 4)) % 16 : Nat) : Int)) b hb (fun k hk m' hm hj => by
  rw [aes_Encrypt.q9]
  have m1 : ((k : Int)).tmod 4 = ((k % 4 : Nat) : Int) := by rw [Int.tmod_eq_emod_of_nonneg (Int.natCast_nonneg k)]; simp
  have w1 : IntKind.i64.wrap (4 * (k : Int).tmod 4) = ((4 * (k % 4) : Nat) : Int) := by rw [m1, wrap64 (by omega) (by omega)]; omega
  have w2 : IntKind.i64.wrap ((k : Int) + ((4 * (k % 4) : Nat) : Int)) = ((k + 4 * (k % 4) : Nat) : Int) := by rw [wrap64 (by omega) (by omega)]; omega
  have w3 : IntKind.i64.wrap (((k + 4 * (k % 4) : Nat) : Int) + 64) = ((k + 4 * (k % 4) + 64 : Nat) : Int) := by rw [wrap64 (by omega) (by omega)]; omega
  have m2 : (((k + 4 * (k % 4) + 64 : Nat) : Int)).tmod 16 = (((k + 4 * (k % 4)) % 16 : Nat) : Int) := by rw [Int.tmod_eq_emod_of_nonneg (Int.natCast_nonneg _)]; omega
  simp only [aes_Encrypt.b9, dec_t (show (k : Int) < 16 by omega), inB_t (show (0 : Int) ≤ k by omega) (show (k : Int) < 16 by omega), cond_true, wk' k (by omega), w1, w2, w3, m2, inB_t (show (0 : Int) ≤ (((k + 4 * (k % 4)) % 16 : Nat) : Int) by omega) (show (((k + 4 * (k % 4)) % 16 : Nat) : Int) < 16 by omega), Int.toNat_natCast])
 refine (show _ = _ from e).trans ?_
 rw [aes_Encrypt.q9]
 simp only [aes_Encrypt.b9, dec_f (show ¬ ((16 : Nat) : Int) < 16 by decide), cond_false]
abbrev E_coef : List Int := [2, 3, 1, 1]
theorem E_mix1 (hw : Blk was) {i : Nat} (hi : i < 16) (hb : b.length = 16) (h0 : rd 0 b (i : Int) = 0) : aes_Encrypt.l10 .lim ((i : Int), t, E_coef, 0, tp, tq, t1, t2, key, dn, mu, sm, sb, bk, rowsT 256, b, E_coef, was, K, rn, tw, ()) = some (t, tp, tq, t1, t2, key, dn, mu, sm, sb, bk, rowsT 256, b.set i (rd 0 (mixS was) (i : Int)), E_coef, was, K, rn, tw, ()) := by
 have h4 : ∀ j : Nat, j < 4 → IntKind.i64.wrap (IntKind.i64.wrap (IntKind.i64.wrap ((i : Int).tdiv 4) * 4) + (IntKind.i64.wrap ((i : Int) + (j : Int))).tmod 4) = ((i / 4 * 4 + (i + j) % 4 : Nat) : Int) := by
  intro j hj
  have d1 : ((i : Int)).tdiv 4 = ((i / 4 : Nat) : Int) := by rw [Int.tdiv_eq_ediv_of_nonneg (Int.natCast_nonneg i)]; simp
  have d2 : IntKind.i64.wrap ((i : Int) + (j : Int)) = ((i + j : Nat) : Int) := by rw [wrap64 (by omega) (by omega)]; omega
  have d3 : (((i + j : Nat) : Int)).tmod 4 = (((i + j) % 4 : Nat) : Int) := by rw [Int.tmod_eq_emod_of_nonneg (Int.natCast_nonneg _)]; simp
  rw [d1, d2, d3, wrap64 (n := ((i / 4 : Nat) : Int)) (by omega) (by omega), wrap64 (n := ((i / 4 : Nat) : Int) * 4) (by omega) (by omega), wrap64 (by omega) (by omega)]; omega
 have hB : ∀ j : Nat, j < 4 → B8 (rd 0 was ((i / 4 * 4 + (i + j) % 4 : Nat) : Int)) := fun j hj => hw.at (by omega)
 have g0 := h4 0 (by omega); have g1 := h4 1 (by omega); have g2 := h4 2 (by omega); have g3 := h4 3 (by omega)
 have b0 := hB 0 (by omega); have b1 := hB 1 (by omega); have b2 := hB 2 (by omega); have b3 := hB 3 (by omega)
 rw [show ((0 : Nat) : Int) = 0 from rfl] at g0
 rw [show ((1 : Nat) : Int) = 1 from rfl] at g1
 rw [show ((2 : Nat) : Int) = 2 from rfl] at g2
 rw [show ((3 : Nat) : Int) = 3 from rfl] at g3
 have r0 := (rd_rows b0).2.1; have r1 := (rd_rows b1).2.2; have r2 := (rd_rows b2).1; have r3 := (rd_rows b3).1
 have step : ∀ (c : Int) (j j' : Int) (q : Nat) (v : Int) (bb : List Int), bb.length = 16 → 0 ≤ j → j < 4 → rd 0 E_coef j = c → 0 ≤ c → c < 16 → IntKind.i64.wrap (j + 1) = j' → IntKind.i64.wrap (IntKind.i64.wrap (IntKind.i64.wrap ((i : Int).tdiv 4) * 4) + (IntKind.i64.wrap ((i : Int) + j)).tmod 4) = (q : Int) → q < 16 → rd 0 (rd z256 (rowsT 256) c) (rd 0 was (q : Int)) = v → B8 (rd 0 was (q : Int)) →
   aes_Encrypt.l10 .lim ((i : Int), t, E_coef, j, tp, tq, t1, t2, key, dn, mu, sm, sb, bk, rowsT 256, bb, E_coef, was, K, rn, tw, ()) = aes_Encrypt.l10 .lim ((i : Int), t, E_coef, j', tp, tq, t1, t2, key, dn, mu, sm, sb, bk, rowsT 256, bb.set i (ixor .u8 (rd 0 bb (i : Int)) v), E_coef, was, K, rn, tw, ()) := by
  intro c j j' q v bb hbb h1 h2 h3 h4 h5 h6 h7 h8 h9 h10
  rw [aes_Encrypt.q10]
  simp only [aes_Encrypt.b10, dec_t h2, inB_t h1 h2, h3, inB_t h4 h5, h7, inB_t (show (0 : Int) ≤ i by omega) (show (i : Int) < 16 by omega), inB_t (show (0 : Int) ≤ (q : Int) by omega) (show (q : Int) < 16 by omega), inB_t h10.1 h10.2, h9, h6, cond_true, Int.toNat_natCast]
 rw [step 2 0 1 _ _ b hb (by omega) (by omega) rfl (by omega) (by omega) rfl g0 (by omega) r0 b0]
 rw [step 3 1 2 _ _ _ (by simp [hb]) (by omega) (by omega) rfl (by omega) (by omega) rfl g1 (by omega) r1 b1]
 rw [step 1 2 3 _ _ _ (by simp [hb]) (by omega) (by omega) rfl (by omega) (by omega) rfl g2 (by omega) r2 b2]
 rw [step 1 3 4 _ _ _ (by simp [hb]) (by omega) (by omega) rfl (by omega) (by omega) rfl g3 (by omega) r3 b3]
 rw [aes_Encrypt.q10]
 simp only [aes_Encrypt.b10, dec_f (show ¬ (4 : Int) < 4 by omega), cond_false]
 have hl : ∀ v, i < (b.set i v).length := fun v => by simp [hb]; omega
 simp only [rd_set (show i < b.length by omega), rd_set (hl _), List.set_set, h0]
 unfold mixS
 rw [rd_tab hi]
 simp only [Nat.add_zero]
theorem E_mix (hw : Blk was) (hb : b.length = 16) : aes_Encrypt.l11 .lim (0, tp, tq, t1, t2, key, dn, mu, sm, sb, bk, rowsT 256, b, E_coef, was, K, rn, tw, ()) = some (tp, tq, t1, t2, mixS was, K, rn, tw, key, dn, mu, sm, sb, bk, rowsT 256, ()) := by
 have e := loop_upd (f := aes_Encrypt.l11 .lim) (fun k b => ((k : Int), tp, tq, t1, t2, key, dn, mu, sm, sb, bk, rowsT 256, b, E_coef, was, K, rn, tw, ())) (fun k v => rd 0 (mixS was) (k : Int)) b hb (fun k hk m' hm hj => by
  rw [aes_Encrypt.q11]
  have hm := fun h0 => E_mix1 (tp := tp) (tq := tq) (t1 := t1) (t2 := t2) (key := key) (dn := dn) (mu := mu) (sm := sm) (sb := sb) (bk := bk) (K := K) (rn := rn) (tw := tw) (t := (k : Int))  hw (b := m'.set k 0) hk (by simp [hm]) h0
  simp only [aes_Encrypt.b11, dec_t (show (k : Int) < 16 by omega), inB_t (show (0 : Int) ≤ k by omega) (show (k : Int) < 16 by omega), cond_true, Int.toNat_natCast]
  rw [hm (rd_set (by omega))]
  simp only [Option.bind_some, wk' k (by omega), List.set_set])
 refine (show _ = _ from e).trans ?_
 rw [aes_Encrypt.q11]
 simp only [aes_Encrypt.b11, dec_f (show ¬ ((16 : Nat) : Int) < 16 by decide), cond_false]
 have : (tab 16 fun i => rd 0 (mixS was) (i : Int)) = mixS was := (tab_of tab_len).symm
 rw [this]
theorem E_plus (hb : b.length = 16) : aes_Encrypt.l12 .lim (0, tp, tq, t1, t2, b, K, rn, tw, key, dn, mu, sm, sb, bk, yb, ()) = some (tp, tq, t1, t2, rn, plusS b K, tw, key, dn, mu, sm, sb, bk, yb, ()) := by
 have e := loop_upd (f := aes_Encrypt.l12 .lim) (fun k b => ((k : Int), tp, tq, t1, t2, b, K, rn, tw, key, dn, mu, sm, sb, bk, yb, ())) (fun k v => ixor .u8 v (rd 0 K (k : Int))) b hb (fun k hk m' hm hj => by
  rw [aes_Encrypt.q12]
  simp only [aes_Encrypt.b12, dec_t (show (k : Int) < 16 by omega), inB_t (show (0 : Int) ≤ k by omega) (show (k : Int) < 16 by omega), cond_true, wk' k (by omega), hj k (Nat.le_refl _), Int.toNat_natCast])
 refine (show _ = _ from e).trans ?_
 rw [aes_Encrypt.q12]
 simp only [aes_Encrypt.b12, dec_f (show ¬ ((16 : Nat) : Int) < 16 by decide), cond_false]
 rfl
theorem E_shift (b : List Int) : (tab 16 fun i => rd 0 (tab 16 fun i => sbx (rd 0 b (i : Int))) (((i + 4 * (i % 4)) % 16 : Nat) : Int)) = shiftS b := tab_congr fun k hk => by rw [rd_tab (by omega)]
theorem E_shift_ok (hb : Blk b) : Blk (shiftS b) := ⟨tab_len, tab_B fun k hk => sbx_B (hb.at (by omega))⟩
theorem E_all {r : Nat} (hW : Words W) (hl : W.length = 4 * (r + 1)) (hr : r ≤ 100) (hr0 : 0 < r) (hb : b.length = 16) :
  aes_Encrypt.l13 .lim (1, ((r : Nat) : Int), ((r : Nat) : Int), 0, rnds W, encN W b 0, tw, key, dn, mu, sm, sbT 256, bk, rowsT 256, ()) = some (encN W b r, tw, key, dn, mu, sm, sbT 256, bk, rowsT 256, rnds W, ()) := by
 have hn : (rnds W).length = r + 1 := by unfold rnds; simp; omega
 have e := loop_to (f := aes_Encrypt.l13 .lim) (fun k => (1, (r : Int), (r : Int), (k : Int), rnds W, encN W b k, tw, key, dn, mu, sm, sbT 256, bk, rowsT 256, ())) (n := r) (fun k hk => by
  rw [aes_Encrypt.q13]
  have hB := encN_ok W b k
  have hK : rd z16 (rnds W) (1 + (k : Int)) = rndK W (k + 1) := by
   rw [show (1 + (k : Int)) = ((k + 1 : Nat) : Int) by omega, rd_ix (by omega)]
   unfold rnds; simp
  have w1 : IntKind.i64.wrap (((rnds W).length : Int) - 2) = (r : Int) - 1 := by rw [wrap64 (by omega) (by omega)]; omega
  have hlast : decide ((k : Int) = (r : Int) - 1) = decide (k + 2 = W.length / 4) := by
   by_cases h : k + 1 = r
   ·rw [dec_t (by omega), dec_t (by omega)]
   ·rw [dec_f (by omega), dec_f (by omega)]
  simp only [aes_Encrypt.b13, dec_t (show (k : Int) < (r : Int) by omega), inB_t (show (0 : Int) ≤ k by omega) (show (k : Int) < (r : Int) by omega), smallI_t (show ((rnds W).length : Int) < 9223372036854775808 by omega), cond_true, hK, w1, hlast, E_become hB, Option.bind_some]
  rw [E_turn tab_len]
  simp only [Option.bind_some, E_shift]
  have hs := E_shift_ok hB
  have hc : ((((List.replicate 4 (0 : Int)).set 0 2).set 1 3).set 2 1).set 3 1 = E_coef := rfl
  show _ = aes_Encrypt.l13 .lim (1, (r : Int), (r : Int), ((k + 1 : Nat) : Int), rnds W, rndS (decide (k + 2 = W.length / 4)) (encN W b k) (rndK W (k + 1)), tw, key, dn, mu, sm, sbT 256, bk, rowsT 256, ())
  unfold rndS
  cases decide (k + 2 = W.length / 4) with
  | true =>
   simp only [Bool.not_true, cond_false, cond_true]
   rw [E_plus hs.1]
   simp only [Option.bind_some, wk' k (by omega)]
  | false =>
   simp only [Bool.not_false, cond_false, cond_true, hc]
   rw [E_mix hs hs.1]
   simp only [Option.bind_some]
   have hml : (mixS (shiftS (encN W b k))).length = 16 := tab_len
   rw [E_plus hml]
   simp only [Option.bind_some, wk' k (by omega)])
 refine (show _ = _ from e).trans ?_
 rw [aes_Encrypt.q13]
 simp only [aes_Encrypt.b13, dec_f (show ¬ (r : Int) < (r : Int) by omega), cond_false]
end
end Go.AM
end
section
namespace Go.AM
section
variable {ok : Bool} {n dn mu sm four x i t t1 t2 tp tq : Int} {key b tw ta out K was kb T sb bk : List Int} {yb W rn : List (List Int)} {last : Bool}
theorem E_tail {r : Nat} (hW : Words W) (hl : W.length = 4 * (r + 1)) (hr : r ≤ 100) (hr0 : 0 < r) (hb : b.length = 16) {β : Type} {Q : _ → Option β} :
  (bif inB 0 ((rnds W).length : Int) then
   ((aes_Encrypt.l7 .lim (0, b, rd z16 (rnds W) 0, tw, key, dn, mu, sm, sbT 256, bk, rowsT 256, rnds W, ())).bind fun (b, tw, key, dn, mu, sm, sb, bk, yb, rn, ()) =>
    bif cutB 1 (rn.length : Int) (rn.length : Int) then bif smallI ((rn.length : Int) - 1) then (aes_Encrypt.l13 .lim (1, ((rn.length : Int) - 1), ((rn.length : Int) - 1), 0, rn, b, tw, key, dn, mu, sm, sb, bk, yb, ())).bind Q else none else none) else none) = Q (encN W b r, tw, key, dn, mu, sm, sbT 256, bk, rowsT 256, rnds W, ()) := by
 have hn : (rnds W).length = r + 1 := by unfold rnds; simp; omega
 have h0 : rd z16 (rnds W) 0 = rndK W 0 := by
  have := rd_ix (d := z16) (show 0 < (rnds W).length by omega)
  rw [show ((0 : Nat) : Int) = 0 from rfl] at this
  rw [this]; unfold rnds; simp
 rw [cond_pos (inB_t (by omega) (by omega)), h0, E_plus0 hb]
 simp only [Option.bind_some]
 rw [cond_pos (cutB_t (by omega) (by omega) (by omega)), cond_pos (smallI_t (by omega)), show ((rnds W).length : Int) - 1 = (r : Int) by omega]
 have := E_all (tw := tw) (key := key) (dn := dn) (mu := mu) (sm := sm) (bk := bk)  hW hl hr hr0 hb
 rw [show encN W b 0 = plusS b (rndK W 0) from rfl] at this
 rw [this]
 rfl
theorem E_first (hk : key.length = 16 ∨ key.length = 32) (hkb : ∀ x ∈ key, B8 x) (hb : b.length = 16) :
  aes_Encrypt.l14 .lim (b, key, 0, 0, sm, z256, z256, List.replicate 16 z256, ()) = some (encS key b, ()) := by
 have h0 : aes_Encrypt.l14 .lim (b, key, 0, 0, sm, z256, z256, List.replicate 16 z256, ()) = aes_Encrypt.b14 .lim (aes_Encrypt.l14 .lim) (b, key, 0, 0, sm, z256, z256, List.replicate 16 z256, ()) := aes_Encrypt.q14 _
 rw [h0]
 have hr := E_ready (sm := sm) (key := key) (b := b) (tw := z16)  hk hkb
 have hW := allW_ok key hkb
 have hl : (allW key).length = 4 * ((key.length / 4 + 6) + 1) := by rw [allW_len]; omega
 have hq : (allW key).length / 4 - 1 = key.length / 4 + 6 := by omega
 unfold aes_Encrypt.b14
 simp only [hr, Option.bind_some]
 refine (E_tail (Q := fun (b, tw, key, dn, mu, sm, sb, bk, yb, rn, ()) => some (b, ())) hW hl (by omega) (by omega) hb).trans ?_
 unfold encS
 rw [hq]
end
end Go.AM
end
section
namespace Go.AM
section
variable {ok : Bool} {n dn mu sm four nk x i t t1 t2 tp tq : Int} {key b tw ta out K was kb T sb bk : List Int} {yb W rn : List (List Int)} {last : Bool}
theorem S_mul (i : Nat) (hi : i < 256) : aes_Stream.l0 .lim ((i : Int), t, 7, 0, ok, n, key, dn, mu, sm, sb, bk, yb, kL, b, tw, ta, out, rn, ()) = some (t, ok, n, key, dn, mu, sm, sb, bk, rowsS i yb 7, b, tw, ta, out, rn, ()) := by
 have e := loop_to (f := aes_Stream.l0 .lim) (fun k => ((i : Int), t, 7, (k : Int), ok, n, key, dn, mu, sm, sb, bk, rowsS i yb k, kL, b, tw, ta, out, rn, ())) (n := 7) (fun k hk => by
  rw [aes_Stream.q0]
  obtain ⟨h1, h2⟩ := kL_ok k hk
  have hB : B8 (rd 0 kL (k : Int)) := ⟨h1, by omega⟩
  have hi8 : B8 (i : Int) := ⟨by omega, by omega⟩
  simp only [aes_Stream.b0, dec_t (show (k : Int) < 7 by omega), inB_t (show (0 : Int) ≤ k by omega) (show (k : Int) < (kL.length : Int) from show (k : Int) < 7 by omega), wrapu8_id hi8, atimes_eq hi8 hB, Option.bind_some, inB_t h1 (show rd 0 kL (k : Int) < 16 from h2), inB_t (show (0 : Int) ≤ i by omega) (show (i : Int) < 256 by omega), cond_true, wk' k (by omega), Int.toNat_natCast]
  rfl)
 refine e.trans ?_
 rw [aes_Stream.q0]
 simp only [aes_Stream.b0, dec_f (show ¬ ((7 : Nat) : Int) < 7 by decide), cond_false]
theorem S_tables : aes_Stream.l1 .lim (0, ok, n, key, dn, mu, sm, z256, z256, List.replicate 16 z256, b, tw, ta, out, rn, ()) = some (ok, n, key, dn, mu, sm, sbT 256, bkS 256, rowsT 256, b, tw, ta, out, rn, ()) := by
 have e := loop_to (f := aes_Stream.l1 .lim) (fun k => ((k : Int), ok, n, key, dn, mu, sm, sbT k, bkS k, rowsT k, b, tw, ta, out, rn, ())) (n := 256) (fun k hk => by
  rw [aes_Stream.q1]
  have hi8 : B8 (k : Int) := ⟨by omega, by omega⟩
  have hs := sbx_B hi8
  have hm := fun sb bk => S_mul (ok := ok) (key := key) (dn := dn) (mu := mu) (sm := sm) (sb := sb) (bk := bk) (yb := rowsT k) (b := b) (tw := tw) (t := (k : Int)) (n := n) (ta := ta) (out := out) (rn := rn) k hk
  simp only [aes_Stream.b1, dec_t (show (k : Int) < 256 by omega), wrapu8_id hi8, asub_eq hi8, Option.bind_some, inB_t (show (0 : Int) ≤ k by omega) (show (k : Int) < 256 by omega), inB_t hs.1 hs.2, cond_true, show ((([1, 2, 3, 9, 11, 13, 14] : List Int).length : Nat) : Int) = 7 from rfl, smallI_t (show (7 : Int) < 9223372036854775808 by omega), hm, wk' k (by omega), rowsS_7]
  rw [show (sbT k).set ((k : Int)).toNat (sbx k) = sbT (k + 1) from tabP_set rfl]
  rfl)
 rw [show sbT 0 = z256 from tabP_zero, rowsT_zero, show bkS 0 = z256 from rfl, show ((0 : Nat) : Int) = 0 from rfl] at e
 refine e.trans ?_
 rw [aes_Stream.q1]
 simp only [aes_Stream.b1, dec_f (show ¬ ((256 : Nat) : Int) < 256 by decide), cond_false]
theorem S_split {q : Nat} (hk : kb.length = 4 * q) (hq : q ≤ 100) : aes_Stream.l2 .lim (0, nk, ok, n, 4, key, dn, mu, sm, sb, bk, yb, b, tw, ta, out, kb, [], rn, ()) = some (nk, ok, n, key, dn, mu, sm, sb, bk, yb, b, tw, ta, out, (List.range q).map (word kb), rn, ()) := by
 have e := loop_to (f := aes_Stream.l2 .lim) (fun k => (((4 * k : Nat) : Int), nk, ok, n, 4, key, dn, mu, sm, sb, bk, yb, b, tw, ta, out, kb, (List.range k).map (word kb), rn, ())) (n := q) (fun k hkq => by
  rw [aes_Stream.q2]
  have w1 : IntKind.i64.wrap (((4 * k : Nat) : Int) + 4) = ((4 * k + 4 : Nat) : Int) := by rw [wrap64 (by omega) (by omega)]; omega
  have w2 : mn 4 ((kb.length : Int) - ((4 * k : Nat) : Int)) = 4 := by rw [mn_eq]; omega
  have w3 : (cut kb ((4 * k : Nat) : Int) ((4 * k + 4 : Nat) : Int)).length = 4 := by rw [cutN, List.length_take, List.length_drop]; omega
  have w4 : (Nat.ble 1 4 && Nat.ble 4 (cut kb ((4 * k : Nat) : Int) ((4 * k + 4 : Nat) : Int)).length) = true := by rw [w3]; rfl
  simp only [aes_Stream.b2, smallI_t (show (kb.length : Int) < 9223372036854775808 by omega), dec_t (show ((4 * k : Nat) : Int) < (kb.length : Int) by omega), cutB_t (show (0 : Int) ≤ ((4 * k : Nat) : Int) by omega) (show ((4 * k : Nat) : Int) ≤ (kb.length : Int) by omega) (Int.le_refl _), smallI_t (show (kb.length : Int) - ((4 * k : Nat) : Int) < 9223372036854775808 by omega), w2, w1, cutB_t (show (0 : Int) ≤ ((4 * k : Nat) : Int) by omega) (show ((4 * k : Nat) : Int) ≤ ((4 * k + 4 : Nat) : Int) by omega) (Int.le_refl _), dec_t (show ((4 * k + 4 : Nat) : Int) ≤ (kb.length : Int) by omega), Bool.and_self, w4, cond_true]
  rw [cond_pos (by simp; omega), cut_word (by omega)]
  simp only [List.range_succ, List.map_append, List.map_cons, List.map_nil]
  rfl)
 refine e.trans ?_
 rw [aes_Stream.q2]
 simp only [aes_Stream.b2, smallI_t (show (kb.length : Int) < 9223372036854775808 by omega), dec_f (show ¬ ((4 * q : Nat) : Int) < (kb.length : Int) by omega), cond_true, cond_false]
theorem S_xor (hW : Words W) {i nk : Nat} (h1 : nk ≤ i) (h2 : i ≤ W.length) (h3 : 0 < nk) (h4 : i < 1000) (hT : T.length = 4) : aes_Stream.l3 .lim ((nk : Int), x, (i : Int), 0, ok, n, T, key, dn, mu, sm, sb, bk, yb, b, tw, ta, out, W, rn, ()) = some ((nk : Int), x, (i : Int), ok, n, xor4 T (rd z4 W ((i - nk : Nat) : Int)), key, dn, mu, sm, sb, bk, yb, b, tw, ta, out, W, rn, ()) := by
 have w : IntKind.i64.wrap ((i : Int) - (nk : Int)) = ((i - nk : Nat) : Int) := by rw [wrap64 (by omega) (by omega)]; omega
 have e := loop_upd (f := aes_Stream.l3 .lim) (fun k T => ((nk : Int), x, (i : Int), (k : Int), ok, n, T, key, dn, mu, sm, sb, bk, yb, b, tw, ta, out, W, rn, ())) (fun k v => ixor .u8 v (rd 0 (rd z4 W ((i - nk : Nat) : Int)) (k : Int))) T hT (fun k hk m' hm hj => by
  rw [aes_Stream.q3]
  simp only [aes_Stream.b3, dec_t (show (k : Int) < 4 by omega), inB_t (show (0 : Int) ≤ k by omega) (show (k : Int) < 4 by omega), w, inB_t (show (0 : Int) ≤ ((i - nk : Nat) : Int) by omega) (show ((i - nk : Nat) : Int) < (W.length : Int) by omega), cond_true, wk' k (by omega), hj k (Nat.le_refl _), Int.toNat_natCast])
 refine e.trans ?_
 rw [aes_Stream.q3]
 simp only [aes_Stream.b3, dec_f (show ¬ ((4 : Nat) : Int) < 4 by decide), cond_false]
 rfl
end
end Go.AM
end
section
namespace Go.AM
section
variable {ok : Bool} {n dn mu sm four x i t t1 t2 tp tq : Int} {key b tw ta out K was kb T sb bk : List Int} {yb W rn : List (List Int)} {last : Bool}
theorem S_set4 (a b c d : Int) : ((((List.replicate 4 (0 : Int)).set 0 a).set 1 b).set 2 c).set 3 d = [a, b, c, d] := rfl
theorem S_words {nk : Nat} (hn : nk = 4 ∨ nk = 8) (hk : 4 * nk ≤ kb.length) (hb : ∀ x ∈ kb, B8 x) :
  aes_Stream.l4 .lim ((nk : Int), 1, (nk : Int), ok, n, key, dn, mu, sm, sbT 256, bk, yb, b, tw, ta, out, (List.range nk).map (word kb), rn, ()) = some (ok, n, key, dn, mu, sm, sbT 256, bk, yb, b, tw, ta, out, (sched nk kb (3 * nk + 28)).1, rn, ()) := by
 have e := loop_to (f := aes_Stream.l4 .lim) (fun k => ((nk : Int), (sched nk kb k).2, ((nk + k : Nat) : Int), ok, n, key, dn, mu, sm, sbT 256, bk, yb, b, tw, ta, out, (sched nk kb k).1, rn, ())) (n := 3 * nk + 28) (fun k hkq => by
  rw [aes_Stream.q4]
  obtain ⟨hW, hx⟩ := sched_ok nk kb hk hb k
  have hl := sched_len nk kb k
  have hs : sched nk kb (k + 1) = stepW nk (sched nk kb k) := rfl
  rw [hs]
  unfold stepW
  generalize hq : sched nk kb k = q at hW hx hl
  obtain ⟨W, x⟩ := q
  simp only at hW hx hl ⊢
  have hi0 : nk + k < 1000 := by omega
  generalize hi : nk + k = i at hl hi0
  have hw := hW.at (show i - 1 < W.length by omega)
  have hb0 := hW.byte (show i - 1 < W.length by omega) (j := 0) (by omega) (by omega)
  have hb1 := hW.byte (show i - 1 < W.length by omega) (j := 1) (by omega) (by omega)
  have hb2 := hW.byte (show i - 1 < W.length by omega) (j := 2) (by omega) (by omega)
  have hb3 := hW.byte (show i - 1 < W.length by omega) (j := 3) (by omega) (by omega)
  have w1 : IntKind.i64.wrap (4 * IntKind.i64.wrap ((nk : Int) + 7)) = ((4 * nk + 28 : Nat) : Int) := by rw [wrap64 (n := (nk : Int) + 7) (by omega) (by omega), wrap64 (by omega) (by omega)]; omega
  have w2 : IntKind.i64.wrap ((i : Int) - 1) = ((i - 1 : Nat) : Int) := by rw [wrap64 (by omega) (by omega)]; omega
  have m1 : ((i : Int)).tmod (nk : Int) = ((i % nk : Nat) : Int) := by rw [Int.tmod_eq_emod_of_nonneg (Int.natCast_nonneg i)]; simp
  have m2 : ((i : Int)).tmod 8 = ((i % 8 : Nat) : Int) := by rw [Int.tmod_eq_emod_of_nonneg (Int.natCast_nonneg i)]; simp
  have hxor := fun x T hT => S_xor (ok := ok) (key := key) (dn := dn) (mu := mu) (sm := sm) (sb := sbT 256) (bk := bk) (yb := yb) (b := b) (tw := tw) (x := x) (T := T) (n := n) (ta := ta) (out := out) (rn := rn) hW (i := i) (nk := nk) (by omega) (by omega) (by omega) (by omega) hT
  have cap : ∀ T : List Int, decide (W.length + ([T] : List (List Int)).length < 17592186044416) = true := fun T => dec_t (by simp; omega)
  simp only [aes_Stream.b4, w1, dec_t (show (i : Int) < ((4 * nk + 28 : Nat) : Int) by omega), w2, inB_t (show (0 : Int) ≤ ((i - 1 : Nat) : Int) by omega) (show ((i - 1 : Nat) : Int) < (W.length : Int) by omega), dec_f (show ¬ (nk : Int) = 0 by omega), m1, m2, cond_true, Bool.not_false, inB_t hb0.1 hb0.2, inB_t hb1.1 hb1.2, inB_t hb2.1 hb2.2, inB_t hb3.1 hb3.2, rd_sbT hb0, rd_sbT hb1, rd_sbT hb2, rd_sbT hb3, S_set4, Bool.or_true]
  rw [hl]
  unfold turnW
  by_cases c1 : i % nk = 0
  ·rw [dec_t (show ((i % nk : Nat) : Int) = 0 by omega), if_pos c1, if_pos c1]
   simp only [cond_true, atimes_eq hx (show B8 2 from ⟨by decide, by decide⟩), Option.bind_some]
   rw [hxor _ _ rfl]
   simp only [Option.bind_some]
   rw [cond_pos (by simp; omega), wk' i (by omega)]
   rw [show i + 1 = nk + (k + 1) by omega]
  ·rw [dec_f (show ¬ ((i % nk : Nat) : Int) = 0 by omega), if_neg c1, if_neg c1]
   simp only [cond_false]
   by_cases c2 : nk = 8 ∧ i % 8 = 4
   ·rw [dec_t (show (nk : Int) = 8 by omega), dec_t (show ((i % 8 : Nat) : Int) = 4 by omega), if_pos c2]
    simp only [Bool.and_self, cond_true]
    rw [hxor _ _ rfl]
    simp only [Option.bind_some]
    rw [cond_pos (by simp; omega), wk' i (by omega)]
    rw [show i + 1 = nk + (k + 1) by omega]
   ·have : (decide ((nk : Int) = 8) && decide (((i % 8 : Nat) : Int) = 4)) = false := by
     by_cases c3 : nk = 8
     ·rw [dec_f (show ¬ ((i % 8 : Nat) : Int) = 4 by omega), Bool.and_false]
     ·rw [dec_f (show ¬ (nk : Int) = 8 by omega), Bool.false_and]
    rw [this, if_neg c2]
    simp only [cond_false]
    rw [hxor _ _ hw.1]
    simp only [Option.bind_some]
    rw [cond_pos (by simp; omega), wk' i (by omega), ← list4 hw.1]
    rw [show i + 1 = nk + (k + 1) by omega])
 refine (show _ = _ from e).trans ?_
 rw [aes_Stream.q4]
 have w1 : IntKind.i64.wrap (4 * IntKind.i64.wrap ((nk : Int) + 7)) = ((4 * nk + 28 : Nat) : Int) := by rw [wrap64 (n := (nk : Int) + 7) (by omega) (by omega), wrap64 (by omega) (by omega)]; omega
 simp only [aes_Stream.b4, w1, dec_f (show ¬ ((nk + (3 * nk + 28) : Nat) : Int) < ((4 * nk + 28 : Nat) : Int) by omega), cond_false]
end
end Go.AM
end
section
namespace Go.AM
section
variable {ok : Bool} {n dn mu sm four x i t t1 t2 tp tq : Int} {key b tw ta out K was kb T sb bk : List Int} {yb W rn : List (List Int)} {last : Bool}
theorem S_rounds {q : Nat} (hW : Words W) (hl : W.length = 4 * q) (hq : q ≤ 100) : aes_Stream.l5 .lim (0, ok, n, 4, key, dn, mu, sm, sb, bk, yb, b, tw, ta, out, W, [], ()) = some (ok, n, key, dn, mu, sm, sb, bk, yb, b, tw, ta, out, rnds W, ()) := by
 have e := loop_to (f := aes_Stream.l5 .lim) (fun k => (((4 * k : Nat) : Int), ok, n, 4, key, dn, mu, sm, sb, bk, yb, b, tw, ta, out, W, (List.range k).map (rndK W), ())) (n := q) (fun k hkq => by
  rw [aes_Stream.q5]
  have w1 : IntKind.i64.wrap (((4 * k : Nat) : Int) + 4) = ((4 * k + 4 : Nat) : Int) := by rw [wrap64 (by omega) (by omega)]; omega
  have w2 : mn 4 ((W.length : Int) - ((4 * k : Nat) : Int)) = 4 := by rw [mn_eq]; omega
  have w3 : (cut W ((4 * k : Nat) : Int) ((4 * k + 4 : Nat) : Int)).length = 4 := by rw [cutN, List.length_take, List.length_drop]; omega
  have at_ : ∀ j : Nat, j < 4 → rd z4 (cut W ((4 * k : Nat) : Int) ((4 * k + 4 : Nat) : Int)) (j : Int) = rd z4 W ((4 * k + j : Nat) : Int) := fun j hj => by
   rw [cutN]
   unfold rd
   rw [Int.toNat_natCast, Int.toNat_natCast, List.getD_eq_getElem?_getD, List.getD_eq_getElem?_getD, List.getElem?_take_of_lt (by omega), List.getElem?_drop]
  have a0 : rd z4 (cut W ((4 * k : Nat) : Int) ((4 * k + 4 : Nat) : Int)) 0 = rd z4 W ((4 * k : Nat) : Int) := at_ 0 (by omega)
  have a1 : rd z4 (cut W ((4 * k : Nat) : Int) ((4 * k + 4 : Nat) : Int)) 1 = rd z4 W ((4 * k + 1 : Nat) : Int) := at_ 1 (by omega)
  have a2 : rd z4 (cut W ((4 * k : Nat) : Int) ((4 * k + 4 : Nat) : Int)) 2 = rd z4 W ((4 * k + 2 : Nat) : Int) := at_ 2 (by omega)
  have a3 : rd z4 (cut W ((4 * k : Nat) : Int) ((4 * k + 4 : Nat) : Int)) 3 = rd z4 W ((4 * k + 3 : Nat) : Int) := at_ 3 (by omega)
  have c4 : ∀ l : List Int, l.length = 4 → cut l 0 4 = l := fun l hl => by
   have := cutN l 0 4
   rw [show ((0 : Nat) : Int) = 0 from rfl, show ((4 : Nat) : Int) = 4 from rfl] at this
   rw [this, List.drop_zero, List.take_of_length_le (by omega)]
  have l0 := (hW.at (show 4 * k < W.length by omega)).1
  have l1 := (hW.at (show 4 * k + 1 < W.length by omega)).1
  have l2 := (hW.at (show 4 * k + 2 < W.length by omega)).1
  have l3 := (hW.at (show 4 * k + 3 < W.length by omega)).1
  have hfl : [rd z4 W ((4 * k : Nat) : Int), rd z4 W ((4 * k + 1 : Nat) : Int), rd z4 W ((4 * k + 2 : Nat) : Int), rd z4 W ((4 * k + 3 : Nat) : Int)].flatten = rndK W k := by simp [rndK]
  have hrl := rndK_len hW (j := k) (by omega)
  have hcat := concat_eq [rd z4 W ((4 * k : Nat) : Int), rd z4 W ((4 * k + 1 : Nat) : Int), rd z4 W ((4 * k + 2 : Nat) : Int), rd z4 W ((4 * k + 3 : Nat) : Int)] (by rw [hfl, hrl]; omega) (by simp)
  rw [hfl] at hcat
  simp only [aes_Stream.b5, smallI_t (show (W.length : Int) < 9223372036854775808 by omega), dec_t (show ((4 * k : Nat) : Int) < (W.length : Int) by omega), cutB_t (show (0 : Int) ≤ ((4 * k : Nat) : Int) by omega) (show ((4 * k : Nat) : Int) ≤ (W.length : Int) by omega) (Int.le_refl _), smallI_t (show (W.length : Int) - ((4 * k : Nat) : Int) < 9223372036854775808 by omega), w2, w1, cutB_t (show (0 : Int) ≤ ((4 * k : Nat) : Int) by omega) (show ((4 * k : Nat) : Int) ≤ ((4 * k + 4 : Nat) : Int) by omega) (Int.le_refl _), dec_t (show ((4 * k + 4 : Nat) : Int) ≤ (W.length : Int) by omega), Bool.and_self, w3, cond_true, inB_t (show (0 : Int) ≤ 0 by omega) (show (0 : Int) < ((4 : Nat) : Int) by decide), inB_t (show (0 : Int) ≤ 1 by omega) (show (1 : Int) < ((4 : Nat) : Int) by decide), inB_t (show (0 : Int) ≤ 2 by omega) (show (2 : Int) < ((4 : Nat) : Int) by decide), inB_t (show (0 : Int) ≤ 3 by omega) (show (3 : Int) < ((4 : Nat) : Int) by decide), a0, a1, a2, a3, c4 _ l0, c4 _ l1, c4 _ l2, c4 _ l3, hcat, Option.bind_some, hrl, List.take_of_length_le (Nat.le_of_eq hrl)]
  rw [show (Nat.ble 1 16 && Nat.ble 16 16) = true from rfl, cond_true, cond_pos (by simp; omega)]
  simp only [List.range_succ, List.map_append, List.map_cons, List.map_nil]
  rfl)
 refine (show _ = _ from e).trans ?_
 rw [aes_Stream.q5]
 simp only [aes_Stream.b5, smallI_t (show (W.length : Int) < 9223372036854775808 by omega), dec_f (show ¬ ((4 * q : Nat) : Int) < (W.length : Int) by omega), cond_true, cond_false]
 unfold rnds
 rw [hl, Nat.mul_div_cancel_left _ (by omega)]
theorem S_ready (hk : key.length = 16 ∨ key.length = 32) (hb : ∀ x ∈ key, B8 x) : aes_Stream.l6 .lim (n, key, 0, 0, sm, z256, z256, List.replicate 16 z256, b, tw, ta, out, [], ()) = some (n, b, tw, key, 1, 0, sm, sbT 256, bkS 256, rowsT 256, ta, out, rnds (allW key), ()) := by
 have h0 : aes_Stream.l6 .lim (n, key, 0, 0, sm, z256, z256, List.replicate 16 z256, b, tw, ta, out, [], ()) = aes_Stream.b6 .lim (aes_Stream.l6 .lim) (n, key, 0, 0, sm, z256, z256, List.replicate 16 z256, b, tw, ta, out, [], ()) := aes_Stream.q6 _
 rw [h0]
 have hd : (key.length : Int).tdiv 4 = ((key.length / 4 : Nat) : Int) := by rw [Int.tdiv_eq_ediv_of_nonneg (Int.natCast_nonneg _)]; simp
 have w1 : IntKind.i64.wrap ((key.length : Int).tdiv 4) = ((key.length / 4 : Nat) : Int) := by rw [hd, wrap64 (by omega) (by omega)]
 have t := S_tables (ok := true) (key := key) (dn := 0) (mu := 1) (sm := sm) (b := b) (tw := tw) (n := n) (ta := ta) (out := out) (rn := [])
 have s := S_split (kb := key) (q := key.length / 4) (nk := ((key.length / 4 : Nat) : Int)) (ok := true) (key := key) (dn := 0) (mu := 1) (sm := sm) (sb := sbT 256) (bk := bkS 256) (yb := rowsT 256) (b := b) (tw := tw) (n := n) (ta := ta) (out := out) (rn := []) (by omega) (by omega)
 have w := S_words (kb := key) (nk := key.length / 4) (ok := true) (key := key) (dn := 0) (mu := 1) (sm := sm) (bk := bkS 256) (yb := rowsT 256) (b := b) (tw := tw) (n := n) (ta := ta) (out := out) (rn := []) (by omega) (by omega) hb
 have r := S_rounds (W := allW key) (q := key.length / 4 + 7) (ok := true) (key := key) (dn := 0) (mu := 1) (sm := sm) (sb := sbT 256) (bk := bkS 256) (yb := rowsT 256) (b := b) (tw := tw) (n := n) (ta := ta) (out := out) (allW_ok key hb) (by rw [allW_len]; omega) (by omega)
 have hs : sync_atomic_b32.run .lim (true, ()) = some 1 := rfl
 have hw : (sched (key.length / 4) key (3 * (key.length / 4) + 28)).1 = allW key := rfl
 simp only [aes_Stream.b6, decide_true, Bool.not_true, Bool.not_false, cond_true, t, Option.bind_some, smallI_t (show (key.length : Int) < 9223372036854775808 by omega), w1]
 rw [s]
 simp only [Option.bind_some]
 rw [w]
 simp only [Option.bind_some]
 rw [hw, r]
 simp only [Option.bind_some, hs, show IntKind.i32.wrap (1 + -1) = 0 from by decide, decide_true, Bool.not_true, cond_false]
end
end Go.AM
end
section
namespace Go.AM
section
variable {ok : Bool} {n dn mu sm four x i t t1 t2 tp tq : Int} {key b tw ta out K was kb T sb bk : List Int} {yb W rn : List (List Int)} {last : Bool}
theorem S_plus0 (hb : b.length = 16) : aes_Stream.l7 .lim (0, n, b, K, tw, key, dn, mu, sm, sb, bk, yb, ta, out, rn, ()) = some (n, plusS b K, tw, key, dn, mu, sm, sb, bk, yb, ta, out, rn, ()) := by
 have e := loop_upd (f := aes_Stream.l7 .lim) (fun k b => ((k : Int), n, b, K, tw, key, dn, mu, sm, sb, bk, yb, ta, out, rn, ())) (fun k v => ixor .u8 v (rd 0 K (k : Int))) b hb (fun k hk m' hm hj => by
  rw [aes_Stream.q7]
  simp only [aes_Stream.b7, dec_t (show (k : Int) < 16 by omega), inB_t (show (0 : Int) ≤ k by omega) (show (k : Int) < 16 by omega), cond_true, wk' k (by omega), hj k (Nat.le_refl _), Int.toNat_natCast])
 refine (show _ = _ from e).trans ?_
 rw [aes_Stream.q7]
 simp only [aes_Stream.b7, dec_f (show ¬ ((16 : Nat) : Int) < 16 by decide), cond_false]
 rfl
theorem S_become (hb : Blk b) : aes_Stream.l8 .lim (0, last, tp, tq, t1, t2, n, b, key, dn, mu, sm, sbT 256, bk, yb, K, rn, tw, ta, out, ()) = some (last, tp, tq, t1, t2, n, tab 16 fun i => sbx (rd 0 b (i : Int)), K, rn, tw, key, dn, mu, sm, sbT 256, bk, yb, ta, out, ()) := by
 have e := loop_upd (f := aes_Stream.l8 .lim) (fun k b => ((k : Int), last, tp, tq, t1, t2, n, b, key, dn, mu, sm, sbT 256, bk, yb, K, rn, tw, ta, out, ())) (fun k v => sbx v) b hb.1 (fun k hk m' hm hj => by
  rw [aes_Stream.q8]
  have h := hb.at hk
  simp only [aes_Stream.b8, dec_t (show (k : Int) < 16 by omega), inB_t (show (0 : Int) ≤ k by omega) (show (k : Int) < 16 by omega), cond_true, wk' k (by omega), hj k (Nat.le_refl _), inB_t h.1 h.2, rd_sbT h, Int.toNat_natCast])
 refine (show _ = _ from e).trans ?_
 rw [aes_Stream.q8]
 simp only [aes_Stream.b8, dec_f (show ¬ ((16 : Nat) : Int) < 16 by decide), cond_false]
theorem S_turn (hb : b.length = 16) : aes_Stream.l9 .lim (4, 0, last, tp, tq, t1, t2, n, b, was, K, rn, tw, key, dn, mu, sm, sb, bk, yb, ta, out, ()) = some (last, tp, tq, t1, t2, n, tab 16 fun i => rd 0 was (((i + 4 * (i % 4)) % 16 : Nat) : Int), K, rn, tw, key, dn, mu, sm, sb, bk, yb, ta, out, ()) := by
 have e := loop_upd (f := aes_Stream.l9 .lim) (fun k b => (4, (k : Int), last, tp, tq, t1, t2, n, b, was, K, rn, tw, key, dn, mu, sm, sb, bk, yb, ta, out, ())) (fun k v => rd 0 was (((k + 4 * (k % 4)) % 16 : Nat) : Int)) b hb (fun k hk m' hm hj => by
  rw [aes_Stream.q9]
  have m1 : ((k : Int)).tmod 4 = ((k % 4 : Nat) : Int) := by rw [Int.tmod_eq_emod_of_nonneg (Int.natCast_nonneg k)]; simp
  have w1 : IntKind.i64.wrap (4 * (k : Int).tmod 4) = ((4 * (k % 4) : Nat) : Int) := by rw [m1, wrap64 (by omega) (by omega)]; omega
  have w2 : IntKind.i64.wrap ((k : Int) + ((4 * (k % 4) : Nat) : Int)) = ((k + 4 * (k % 4) : Nat) : Int) := by rw [wrap64 (by omega) (by omega)]; omega
  have w3 : IntKind.i64.wrap (((k + 4 * (k % 4) : Nat) : Int) + 64) = ((k + 4 * (k % 4) + 64 : Nat) : Int) := by rw [wrap64 (by omega) (by omega)]; omega
  have m2 : (((k + 4 * (k % 4) + 64 : Nat) : Int)).tmod 16 = (((k + 4 * (k % 4)) % 16 : Nat) : Int) := by rw [Int.tmod_eq_emod_of_nonneg (Int.natCast_nonneg _)]; omega
  simp only [aes_Stream.b9, dec_t (show (k : Int) < 16 by omega), inB_t (show (0 : Int) ≤ k by omega) (show (k : Int) < 16 by omega), cond_true, wk' k (by omega), w1, w2, w3, m2, inB_t (show (0 : Int) ≤ (((k + 4 * (k % 4)) % 16 : Nat) : Int) by omega) (show (((k + 4 * (k % 4)) % 16 : Nat) : Int) < 16 by omega), Int.toNat_natCast])
 refine (show _ = _ from e).trans ?_
 rw [aes_Stream.q9]
 simp only [aes_Stream.b9, dec_f (show ¬ ((16 : Nat) : Int) < 16 by decide), cond_false]
abbrev S_coef : List Int := [2, 3, 1, 1]
theorem S_mix1 (hw : Blk was) {i : Nat} (hi : i < 16) (hb : b.length = 16) (h0 : rd 0 b (i : Int) = 0) : aes_Stream.l10 .lim ((i : Int), t, S_coef, 0, tp, tq, t1, t2, n, key, dn, mu, sm, sb, bk, rowsT 256, b, S_coef, was, K, rn, tw, ta, out, ()) = some (t, tp, tq, t1, t2, n, key, dn, mu, sm, sb, bk, rowsT 256, b.set i (rd 0 (mixS was) (i : Int)), S_coef, was, K, rn, tw, ta, out, ()) := by
 have h4 : ∀ j : Nat, j < 4 → IntKind.i64.wrap (IntKind.i64.wrap (IntKind.i64.wrap ((i : Int).tdiv 4) * 4) + (IntKind.i64.wrap ((i : Int) + (j : Int))).tmod 4) = ((i / 4 * 4 + (i + j) % 4 : Nat) : Int) := by
  intro j hj
  have d1 : ((i : Int)).tdiv 4 = ((i / 4 : Nat) : Int) := by rw [Int.tdiv_eq_ediv_of_nonneg (Int.natCast_nonneg i)]; simp
  have d2 : IntKind.i64.wrap ((i : Int) + (j : Int)) = ((i + j : Nat) : Int) := by rw [wrap64 (by omega) (by omega)]; omega
  have d3 : (((i + j : Nat) : Int)).tmod 4 = (((i + j) % 4 : Nat) : Int) := by rw [Int.tmod_eq_emod_of_nonneg (Int.natCast_nonneg _)]; simp
  rw [d1, d2, d3, wrap64 (n := ((i / 4 : Nat) : Int)) (by omega) (by omega), wrap64 (n := ((i / 4 : Nat) : Int) * 4) (by omega) (by omega), wrap64 (by omega) (by omega)]; omega
 have hB : ∀ j : Nat, j < 4 → B8 (rd 0 was ((i / 4 * 4 + (i + j) % 4 : Nat) : Int)) := fun j hj => hw.at (by omega)
 have g0 := h4 0 (by omega); have g1 := h4 1 (by omega); have g2 := h4 2 (by omega); have g3 := h4 3 (by omega)
 have b0 := hB 0 (by omega); have b1 := hB 1 (by omega); have b2 := hB 2 (by omega); have b3 := hB 3 (by omega)
 rw [show ((0 : Nat) : Int) = 0 from rfl] at g0
 rw [show ((1 : Nat) : Int) = 1 from rfl] at g1
 rw [show ((2 : Nat) : Int) = 2 from rfl] at g2
 rw [show ((3 : Nat) : Int) = 3 from rfl] at g3
 have r0 := (rd_rows b0).2.1; have r1 := (rd_rows b1).2.2; have r2 := (rd_rows b2).1; have r3 := (rd_rows b3).1
 have step : ∀ (c : Int) (j j' : Int) (q : Nat) (v : Int) (bb : List Int), bb.length = 16 → 0 ≤ j → j < 4 → rd 0 S_coef j = c → 0 ≤ c → c < 16 → IntKind.i64.wrap (j + 1) = j' → IntKind.i64.wrap (IntKind.i64.wrap (IntKind.i64.wrap ((i : Int).tdiv 4) * 4) + (IntKind.i64.wrap ((i : Int) + j)).tmod 4) = (q : Int) → q < 16 → rd 0 (rd z256 (rowsT 256) c) (rd 0 was (q : Int)) = v → B8 (rd 0 was (q : Int)) →
   aes_Stream.l10 .lim ((i : Int), t, S_coef, j, tp, tq, t1, t2, n, key, dn, mu, sm, sb, bk, rowsT 256, bb, S_coef, was, K, rn, tw, ta, out, ()) = aes_Stream.l10 .lim ((i : Int), t, S_coef, j', tp, tq, t1, t2, n, key, dn, mu, sm, sb, bk, rowsT 256, bb.set i (ixor .u8 (rd 0 bb (i : Int)) v), S_coef, was, K, rn, tw, ta, out, ()) := by
  intro c j j' q v bb hbb h1 h2 h3 h4 h5 h6 h7 h8 h9 h10
  rw [aes_Stream.q10]
  simp only [aes_Stream.b10, dec_t h2, inB_t h1 h2, h3, inB_t h4 h5, h7, inB_t (show (0 : Int) ≤ i by omega) (show (i : Int) < 16 by omega), inB_t (show (0 : Int) ≤ (q : Int) by omega) (show (q : Int) < 16 by omega), inB_t h10.1 h10.2, h9, h6, cond_true, Int.toNat_natCast]
 rw [step 2 0 1 _ _ b hb (by omega) (by omega) rfl (by omega) (by omega) rfl g0 (by omega) r0 b0]
 rw [step 3 1 2 _ _ _ (by simp [hb]) (by omega) (by omega) rfl (by omega) (by omega) rfl g1 (by omega) r1 b1]
 rw [step 1 2 3 _ _ _ (by simp [hb]) (by omega) (by omega) rfl (by omega) (by omega) rfl g2 (by omega) r2 b2]
 rw [step 1 3 4 _ _ _ (by simp [hb]) (by omega) (by omega) rfl (by omega) (by omega) rfl g3 (by omega) r3 b3]
 rw [aes_Stream.q10]
 simp only [aes_Stream.b10, dec_f (show ¬ (4 : Int) < 4 by omega), cond_false]
 have hl : ∀ v, i < (b.set i v).length := fun v => by simp [hb]; omega
 simp only [rd_set (show i < b.length by omega), rd_set (hl _), List.set_set, h0]
 unfold mixS
 rw [rd_tab hi]
 simp only [Nat.add_zero]
theorem S_mix (hw : Blk was) (hb : b.length = 16) : aes_Stream.l11 .lim (0, tp, tq, t1, t2, n, key, dn, mu, sm, sb, bk, rowsT 256, b, S_coef, was, K, rn, tw, ta, out, ()) = some (tp, tq, t1, t2, n, mixS was, K, rn, tw, key, dn, mu, sm, sb, bk, rowsT 256, ta, out, ()) := by
 have e := loop_upd (f := aes_Stream.l11 .lim) (fun k b => ((k : Int), tp, tq, t1, t2, n, key, dn, mu, sm, sb, bk, rowsT 256, b, S_coef, was, K, rn, tw, ta, out, ())) (fun k v => rd 0 (mixS was) (k : Int)) b hb (fun k hk m' hm hj => by
  rw [aes_Stream.q11]
  have hm := fun h0 => S_mix1 (tp := tp) (tq := tq) (t1 := t1) (t2 := t2) (key := key) (dn := dn) (mu := mu) (sm := sm) (sb := sb) (bk := bk) (K := K) (rn := rn) (tw := tw) (t := (k : Int)) (n := n) (ta := ta) (out := out) hw (b := m'.set k 0) hk (by simp [hm]) h0
  simp only [aes_Stream.b11, dec_t (show (k : Int) < 16 by omega), inB_t (show (0 : Int) ≤ k by omega) (show (k : Int) < 16 by omega), cond_true, Int.toNat_natCast]
  rw [hm (rd_set (by omega))]
  simp only [Option.bind_some, wk' k (by omega), List.set_set])
 refine (show _ = _ from e).trans ?_
 rw [aes_Stream.q11]
 simp only [aes_Stream.b11, dec_f (show ¬ ((16 : Nat) : Int) < 16 by decide), cond_false]
 have : (tab 16 fun i => rd 0 (mixS was) (i : Int)) = mixS was := (tab_of tab_len).symm
 rw [this]
theorem S_plus (hb : b.length = 16) : aes_Stream.l12 .lim (0, tp, tq, t1, t2, n, b, K, rn, tw, key, dn, mu, sm, sb, bk, yb, ta, out, ()) = some (tp, tq, t1, t2, n, rn, plusS b K, tw, key, dn, mu, sm, sb, bk, yb, ta, out, ()) := by
 have e := loop_upd (f := aes_Stream.l12 .lim) (fun k b => ((k : Int), tp, tq, t1, t2, n, b, K, rn, tw, key, dn, mu, sm, sb, bk, yb, ta, out, ())) (fun k v => ixor .u8 v (rd 0 K (k : Int))) b hb (fun k hk m' hm hj => by
  rw [aes_Stream.q12]
  simp only [aes_Stream.b12, dec_t (show (k : Int) < 16 by omega), inB_t (show (0 : Int) ≤ k by omega) (show (k : Int) < 16 by omega), cond_true, wk' k (by omega), hj k (Nat.le_refl _), Int.toNat_natCast])
 refine (show _ = _ from e).trans ?_
 rw [aes_Stream.q12]
 simp only [aes_Stream.b12, dec_f (show ¬ ((16 : Nat) : Int) < 16 by decide), cond_false]
 rfl
theorem S_shift (b : List Int) : (tab 16 fun i => rd 0 (tab 16 fun i => sbx (rd 0 b (i : Int))) (((i + 4 * (i % 4)) % 16 : Nat) : Int)) = shiftS b := tab_congr fun k hk => by rw [rd_tab (by omega)]
theorem S_shift_ok (hb : Blk b) : Blk (shiftS b) := ⟨tab_len, tab_B fun k hk => sbx_B (hb.at (by omega))⟩
theorem S_all {r : Nat} (hW : Words W) (hl : W.length = 4 * (r + 1)) (hr : r ≤ 100) (hr0 : 0 < r) (hb : b.length = 16) :
  aes_Stream.l13 .lim (1, ((r : Nat) : Int), ((r : Nat) : Int), 0, n, rnds W, encN W b 0, tw, key, dn, mu, sm, sbT 256, bk, rowsT 256, ta, out, ()) = some (n, encN W b r, tw, key, dn, mu, sm, sbT 256, bk, rowsT 256, ta, out, rnds W, ()) := by
 have hn : (rnds W).length = r + 1 := by unfold rnds; simp; omega
 have e := loop_to (f := aes_Stream.l13 .lim) (fun k => (1, (r : Int), (r : Int), (k : Int), n, rnds W, encN W b k, tw, key, dn, mu, sm, sbT 256, bk, rowsT 256, ta, out, ())) (n := r) (fun k hk => by
  rw [aes_Stream.q13]
  have hB := encN_ok W b k
  have hK : rd z16 (rnds W) (1 + (k : Int)) = rndK W (k + 1) := by
   rw [show (1 + (k : Int)) = ((k + 1 : Nat) : Int) by omega, rd_ix (by omega)]
   unfold rnds; simp
  have w1 : IntKind.i64.wrap (((rnds W).length : Int) - 2) = (r : Int) - 1 := by rw [wrap64 (by omega) (by omega)]; omega
  have hlast : decide ((k : Int) = (r : Int) - 1) = decide (k + 2 = W.length / 4) := by
   by_cases h : k + 1 = r
   ·rw [dec_t (by omega), dec_t (by omega)]
   ·rw [dec_f (by omega), dec_f (by omega)]
  simp only [aes_Stream.b13, dec_t (show (k : Int) < (r : Int) by omega), inB_t (show (0 : Int) ≤ k by omega) (show (k : Int) < (r : Int) by omega), smallI_t (show ((rnds W).length : Int) < 9223372036854775808 by omega), cond_true, hK, w1, hlast, S_become hB, Option.bind_some]
  rw [S_turn tab_len]
  simp only [Option.bind_some, S_shift]
  have hs := S_shift_ok hB
  have hc : ((((List.replicate 4 (0 : Int)).set 0 2).set 1 3).set 2 1).set 3 1 = S_coef := rfl
  show _ = aes_Stream.l13 .lim (1, (r : Int), (r : Int), ((k + 1 : Nat) : Int), n, rnds W, rndS (decide (k + 2 = W.length / 4)) (encN W b k) (rndK W (k + 1)), tw, key, dn, mu, sm, sbT 256, bk, rowsT 256, ta, out, ())
  unfold rndS
  cases decide (k + 2 = W.length / 4) with
  | true =>
   simp only [Bool.not_true, cond_false, cond_true]
   rw [S_plus hs.1]
   simp only [Option.bind_some, wk' k (by omega)]
  | false =>
   simp only [Bool.not_false, cond_false, cond_true, hc]
   rw [S_mix hs hs.1]
   simp only [Option.bind_some]
   have hml : (mixS (shiftS (encN W b k))).length = 16 := tab_len
   rw [S_plus hml]
   simp only [Option.bind_some, wk' k (by omega)])
 refine (show _ = _ from e).trans ?_
 rw [aes_Stream.q13]
 simp only [aes_Stream.b13, dec_f (show ¬ (r : Int) < (r : Int) by omega), cond_false]
end
end Go.AM
end
section
namespace Go.AM
section
variable {ok : Bool} {n dn mu sm four x i t t1 t2 tp tq : Int} {key b tw ta out K was kb T sb bk : List Int} {yb W rn : List (List Int)} {last : Bool}
theorem S_tail {r : Nat} (hW : Words W) (hl : W.length = 4 * (r + 1)) (hr : r ≤ 100) (hr0 : 0 < r) (hb : b.length = 16) {β : Type} {Q : _ → Option β} :
  (bif inB 0 ((rnds W).length : Int) then
   ((aes_Stream.l7 .lim (0, n, b, rd z16 (rnds W) 0, tw, key, dn, mu, sm, sbT 256, bk, rowsT 256, ta, out, rnds W, ())).bind fun (n, b, tw, key, dn, mu, sm, sb, bk, yb, ta, out, rn, ()) =>
    bif cutB 1 (rn.length : Int) (rn.length : Int) then bif smallI ((rn.length : Int) - 1) then (aes_Stream.l13 .lim (1, ((rn.length : Int) - 1), ((rn.length : Int) - 1), 0, n, rn, b, tw, key, dn, mu, sm, sb, bk, yb, ta, out, ())).bind Q else none else none) else none) = Q (n, encN W b r, tw, key, dn, mu, sm, sbT 256, bk, rowsT 256, ta, out, rnds W, ()) := by
 have hn : (rnds W).length = r + 1 := by unfold rnds; simp; omega
 have h0 : rd z16 (rnds W) 0 = rndK W 0 := by
  have := rd_ix (d := z16) (show 0 < (rnds W).length by omega)
  rw [show ((0 : Nat) : Int) = 0 from rfl] at this
  rw [this]; unfold rnds; simp
 rw [cond_pos (inB_t (by omega) (by omega)), h0, S_plus0 hb]
 simp only [Option.bind_some]
 rw [cond_pos (cutB_t (by omega) (by omega) (by omega)), cond_pos (smallI_t (by omega)), show ((rnds W).length : Int) - 1 = (r : Int) by omega]
 have := S_all (tw := tw) (key := key) (dn := dn) (mu := mu) (sm := sm) (bk := bk) (n := n) (ta := ta) (out := out) hW hl hr hr0 hb
 rw [show encN W b 0 = plusS b (rndK W 0) from rfl] at this
 rw [this]
 rfl
theorem S_first (hk : key.length = 16 ∨ key.length = 32) (hkb : ∀ x ∈ key, B8 x) (hb : b.length = 16) :
  aes_Stream.l14 .lim (b, n, key, 0, 0, sm, z256, z256, List.replicate 16 z256, ta, out, [], ()) = some (n, encS key b, key, 1, 0, sm, sbT 256, bkS 256, rowsT 256, ta, out, rnds (allW key), ()) := by
 have h0 : aes_Stream.l14 .lim (b, n, key, 0, 0, sm, z256, z256, List.replicate 16 z256, ta, out, [], ()) = aes_Stream.b14 .lim (aes_Stream.l14 .lim) (b, n, key, 0, 0, sm, z256, z256, List.replicate 16 z256, ta, out, [], ()) := aes_Stream.q14 _
 rw [h0]
 have hr := S_ready (sm := sm) (key := key) (b := b) (tw := z16) (n := n) (ta := ta) (out := out) hk hkb
 have hW := allW_ok key hkb
 have hl : (allW key).length = 4 * ((key.length / 4 + 6) + 1) := by rw [allW_len]; omega
 have hq : (allW key).length / 4 - 1 = key.length / 4 + 6 := by omega
 unfold aes_Stream.b14
 simp only [hr, Option.bind_some]
 refine (S_tail (Q := fun (n, b, tw, key, dn, mu, sm, sb, bk, yb, ta, out, rn, ()) => some (n, b, key, dn, mu, sm, sb, bk, yb, ta, out, rn, ())) hW hl (by omega) (by omega) hb).trans ?_
 unfold encS
 rw [hq]
theorem S_again (hk : key.length = 16 ∨ key.length = 32) (hkb : ∀ x ∈ key, B8 x) (hb : b.length = 16) :
  aes_Stream.l14 .lim (b, n, key, 1, 0, sm, sbT 256, bkS 256, rowsT 256, ta, out, rnds (allW key), ()) = some (n, encS key b, key, 1, 0, sm, sbT 256, bkS 256, rowsT 256, ta, out, rnds (allW key), ()) := by
 have h0 : aes_Stream.l14 .lim (b, n, key, 1, 0, sm, sbT 256, bkS 256, rowsT 256, ta, out, rnds (allW key), ()) = aes_Stream.b14 .lim (aes_Stream.l14 .lim) (b, n, key, 1, 0, sm, sbT 256, bkS 256, rowsT 256, ta, out, rnds (allW key), ()) := aes_Stream.q14 _
 rw [h0]
 have hr : aes_Stream.l6 .lim (n, key, 1, 0, sm, sbT 256, bkS 256, rowsT 256, b, z16, ta, out, rnds (allW key), ()) = some (n, b, z16, key, 1, 0, sm, sbT 256, bkS 256, rowsT 256, ta, out, rnds (allW key), ()) := by
  rw [aes_Stream.q6]
  simp only [aes_Stream.b6, dec_f (show ¬ (1 : Int) = 0 by omega), Bool.not_false, Bool.not_true, cond_false]
 have hW := allW_ok key hkb
 have hl : (allW key).length = 4 * ((key.length / 4 + 6) + 1) := by rw [allW_len]; omega
 have hq : (allW key).length / 4 - 1 = key.length / 4 + 6 := by omega
 unfold aes_Stream.b14
 simp only [hr, Option.bind_some]
 refine (S_tail (Q := fun (n, b, tw, key, dn, mu, sm, sb, bk, yb, ta, out, rn, ()) => some (n, b, key, dn, mu, sm, sb, bk, yb, ta, out, rn, ())) hW hl (by omega) (by omega) hb).trans ?_
 unfold encS
 rw [hq]
end
end Go.AM
end
section
namespace Go.AM
abbrev Bs (s : List Int) : Prop := ∀ x ∈ s, B8 x
abbrev lim63 : Nat := 9223372036854775808
noncomputable def encR (key b : List Int) : List Int × Int := if key.length = 16 ∨ key.length = 32 then (if b.length = 16 then (encS key b, 0) else ([], 10)) else ([], 13)
theorem take16 {b : List Int} (h : b.length = 16) : (b.drop 0).take 16 = b := by rw [List.drop_zero, List.take_of_length_le (by omega)]
theorem aencrypt_eq {key b : List Int} (hk : key.length < lim63) (hb : b.length < lim63) (hkb : Bs key) : aes_Encrypt.run .lim (key, b, ()) = some ((encR key b).1, (encR key b).2, ()) := by
 unfold encR
 simp only [aes_Encrypt.run, smallN hk, smallN hb, cond_true, Bool.or_true]
 by_cases h1 : key.length = 16 ∨ key.length = 32
 ·have : (!decide ((key.length : Int) = 16) && !decide ((key.length : Int) = 32)) = false := by
   rcases h1 with h | h
   ·rw [dec_t (show (key.length : Int) = 16 by omega)]; rfl
   ·rw [dec_t (show (key.length : Int) = 32 by omega), Bool.not_true, Bool.and_false]
  rw [this, if_pos h1]
  simp only [cond_false]
  by_cases h2 : b.length = 16
  ·rw [dec_t (show (b.length : Int) = 16 by omega), if_pos h2]
   simp only [Bool.not_true, cond_false, h2]
   rw [show (Nat.ble 1 16 && Nat.ble 16 16) = true from rfl, cond_true, List.take_of_length_le (by omega), E_first h1 hkb h2]
   simp only [Option.bind_some]
   rw [take16 (encS_ok _ _).1]
  ·rw [dec_f (show ¬ (b.length : Int) = 16 by omega), if_neg h2]
   rfl
 ·rw [dec_f (show ¬ (key.length : Int) = 16 by omega), dec_f (show ¬ (key.length : Int) = 32 by omega), if_neg h1]
  rfl
def incS : Nat → List Int → List Int
 | 0, m => m
 | i + 1, m => bif !decide (rd 0 (m.set i (IntKind.u8.wrap (rd 0 m (i : Int) + 1))) (i : Int) = 0) then m.set i (IntKind.u8.wrap (rd 0 m (i : Int) + 1)) else incS i (m.set i (IntKind.u8.wrap (rd 0 m (i : Int) + 1)))
theorem incS_len : ∀ i m, (incS i m).length = m.length
 | 0, _ => rfl
 | i + 1, m => by
  rw [incS]
  cases decide (rd 0 (m.set i (IntKind.u8.wrap (rd 0 m (i : Int) + 1))) (i : Int) = 0)
  ·simp
  ·simp [incS_len i]
noncomputable def ctrS (key at_ : List Int) : Nat → List Int × List Int
 | 0 => ([], at_)
 | k + 1 => ((ctrS key at_ k).1 ++ encS key (ctrS key at_ k).2, incS 16 (ctrS key at_ k).2)
theorem ctrS_len (key at_ : List Int) : ∀ k, (ctrS key at_ k).1.length = 16 * k ∧ (ctrS key at_ k).2.length = at_.length
 | 0 => ⟨rfl, rfl⟩
 | k + 1 => by
  obtain ⟨h1, h2⟩ := ctrS_len key at_ k
  exact ⟨by rw [ctrS, List.length_append, h1, (encS_ok _ _).1]; omega, by rw [ctrS, incS_len, h2]⟩
noncomputable def strS (key at_ : List Int) (n : Nat) : List Int := (ctrS key at_ ((n + 15) / 16)).1.take n
theorem strS_len (key at_ : List Int) (n : Nat) : (strS key at_ n).length = n := by
 unfold strS; rw [List.length_take, (ctrS_len _ _ _).1]; omega
section
variable {n dn mu sm : Int} {key ta out sb bk w : List Int} {yb rn : List (List Int)}
theorem S_inc : ∀ (i : Nat), i ≤ 16 → ∀ (ta : List Int), ta.length = 16 → aes_Stream.l15 .lim (n, (i : Int) - 1, key, dn, mu, sm, sb, bk, yb, ta, out, rn, ()) = some (n, key, dn, mu, sm, sb, bk, yb, incS i ta, out, rn, ())
 | 0, _, ta, ht => by
  rw [aes_Stream.q15]
  simp only [aes_Stream.b15, dec_f (show ¬ (((0 : Nat) : Int) - 1 ≥ 0) by omega), cond_false]
  rfl
 | i + 1, hi, ta, ht => by
  have w1 : IntKind.i64.wrap ((i : Int) - 1) = (i : Int) - 1 := wrap64 (by omega) (by omega)
  have ih := S_inc i (by omega) (ta.set i (IntKind.u8.wrap (rd 0 ta (i : Int) + 1))) (by simpa using ht)
  rw [show ((i + 1 : Nat) : Int) - 1 = (i : Int) by omega, aes_Stream.q15, incS]
  simp only [aes_Stream.b15, dec_t (show (i : Int) ≥ 0 by omega), inB_t (show (0 : Int) ≤ i by omega) (show (i : Int) < 16 by omega), cond_true, Int.toNat_natCast, w1, ih]
  cases decide (rd 0 (ta.set i (IntKind.u8.wrap (rd 0 ta (i : Int) + 1))) (i : Int) = 0) <;> rfl
end
def strE (key at_ : List Int) (n : Int) : Int := if n < 0 ∨ n > 65536 then 13 else if key.length = 16 ∨ key.length = 32 then (if at_.length = 16 then 0 else 10) else 13
noncomputable def strR (key at_ : List Int) (n : Int) : List Int := if strE key at_ n = 0 then strS key at_ n.toNat else []
theorem S_loop {key at_ : List Int} {q : Nat} (hk : key.length = 16 ∨ key.length = 32) (hkb : Bs key) (ha : at_.length = 16) (hq : q ≤ 65536) :
  aes_Stream.l16 .lim ((q : Int), key, 0, 0, 0, z256, z256, List.replicate 16 z256, at_, [], [], ()) = some ((q : Int), (ctrS key at_ ((q + 15) / 16)).1, ()) := by
 have step : ∀ (k : Nat) (dn mu : Int) (sb bk : List Int) (yb rn : List (List Int)), k < (q + 15) / 16 → aes_Stream.l14 .lim ((ctrS key at_ k).2, (q : Int), key, dn, mu, 0, sb, bk, yb, (ctrS key at_ k).2, (ctrS key at_ k).1, rn, ()) = some ((q : Int), encS key (ctrS key at_ k).2, key, 1, 0, 0, sbT 256, bkS 256, rowsT 256, (ctrS key at_ k).2, (ctrS key at_ k).1, rnds (allW key), ()) →
   aes_Stream.l16 .lim ((q : Int), key, dn, mu, 0, sb, bk, yb, (ctrS key at_ k).2, (ctrS key at_ k).1, rn, ()) = aes_Stream.l16 .lim ((q : Int), key, 1, 0, 0, sbT 256, bkS 256, rowsT 256, (ctrS key at_ (k + 1)).2, (ctrS key at_ (k + 1)).1, rnds (allW key), ()) := by
  intro k dn mu sb bk yb rn hk e
  obtain ⟨h1, h2⟩ := ctrS_len key at_ k
  have hi := S_inc (n := (q : Int)) (dn := 1) (mu := 0) (sm := 0) (key := key) (sb := sbT 256) (bk := bkS 256) (yb := rowsT 256) (rn := rnds (allW key)) (out := (ctrS key at_ k).1 ++ encS key (ctrS key at_ k).2) 16 (by omega) (ctrS key at_ k).2 (by omega)
  rw [show ((16 : Nat) : Int) - 1 = 15 from rfl] at hi
  rw [aes_Stream.q16]
  simp only [aes_Stream.b16, smallN (show (ctrS key at_ k).1.length < 9223372036854775808 by omega), dec_t (show (((ctrS key at_ k).1.length : Nat) : Int) < (q : Int) by omega), cond_true, e, Option.bind_some, take16 (encS_ok key (ctrS key at_ k).2).1, (encS_ok key (ctrS key at_ k).2).1, hi]
  rw [cond_pos (dec_t (by omega))]
  rfl
 have fin : ∀ dn mu sb bk yb rn, aes_Stream.l16 .lim ((q : Int), key, dn, mu, 0, sb, bk, yb, (ctrS key at_ ((q + 15) / 16)).2, (ctrS key at_ ((q + 15) / 16)).1, rn, ()) = some ((q : Int), (ctrS key at_ ((q + 15) / 16)).1, ()) := by
  intro dn mu sb bk yb rn
  obtain ⟨h1, h2⟩ := ctrS_len key at_ ((q + 15) / 16)
  rw [aes_Stream.q16]
  simp only [aes_Stream.b16, smallN (show (ctrS key at_ ((q + 15) / 16)).1.length < 9223372036854775808 by omega), dec_f (show ¬ (((ctrS key at_ ((q + 15) / 16)).1.length : Nat) : Int) < (q : Int) by omega), cond_true, cond_false]
 by_cases h0 : q = 0
 ·subst h0
  exact fin 0 0 z256 z256 (List.replicate 16 z256) []
 ·obtain ⟨p, hp⟩ : ∃ p, (q + 15) / 16 = p + 1 := ⟨(q + 15) / 16 - 1, by omega⟩
  have e0 := step 0 0 0 z256 z256 (List.replicate 16 z256) [] (by omega) (S_first (n := (q : Int)) (sm := 0) (ta := at_) (out := []) hk hkb ha)
  have e1 := loop_to (f := aes_Stream.l16 .lim) (fun k => ((q : Int), key, 1, 0, 0, sbT 256, bkS 256, rowsT 256, (ctrS key at_ (k + 1)).2, (ctrS key at_ (k + 1)).1, rnds (allW key), ())) (n := p) (fun k hkp => step (k + 1) 1 0 (sbT 256) (bkS 256) (rowsT 256) (rnds (allW key)) (by omega) (S_again (n := (q : Int)) (sm := 0) (ta := (ctrS key at_ (k + 1)).2) (out := (ctrS key at_ (k + 1)).1) hk hkb (by rw [(ctrS_len _ _ _).2]; exact ha)))
  refine e0.trans (e1.trans ?_)
  rw [← hp]
  exact fin _ _ _ _ _ _
theorem astream_eq {key at_ : List Int} {n : Int} (hk : key.length < lim63) (ha : at_.length < lim63) (hkb : Bs key) : aes_Stream.run .lim (key, at_, n, ()) = some (strR key at_ n, strE key at_ n, ()) := by
 unfold strR strE
 simp only [aes_Stream.run, smallN hk, smallN ha, cond_true, Bool.or_true, dec_or]
 by_cases h0 : n < 0 ∨ n > 65536
 ·rw [dec_t h0, if_pos h0, if_neg (by decide)]; rfl
 ·rw [dec_f h0, if_neg h0]
  simp only [cond_false]
  by_cases h1 : key.length = 16 ∨ key.length = 32
  ·have : (!decide ((key.length : Int) = 16) && !decide ((key.length : Int) = 32)) = false := by
    rcases h1 with h | h
    ·rw [dec_t (show (key.length : Int) = 16 by omega)]; rfl
    ·rw [dec_t (show (key.length : Int) = 32 by omega), Bool.not_true, Bool.and_false]
   rw [this, if_pos h1]
   simp only [cond_false]
   by_cases h2 : at_.length = 16
   ·rw [dec_t (show (at_.length : Int) = 16 by omega), if_pos h2, if_pos rfl]
    simp only [Bool.not_true, cond_false, h2]
    have hn : n = ((n.toNat : Nat) : Int) := by omega
    have hl := S_loop (q := n.toNat) h1 hkb h2 (by omega)
    rw [← hn] at hl
    rw [show (Nat.ble 1 16 && Nat.ble 16 16) = true from rfl, cond_true, List.take_of_length_le (by omega), hl]
    simp only [Option.bind_some]
    have := (ctrS_len key at_ ((n.toNat + 15) / 16)).1
    rw [cond_pos (cutB_t (by omega) (by omega) (by omega)), List.drop_zero, Int.sub_zero]
    rfl
   ·rw [dec_f (show ¬ (at_.length : Int) = 16 by omega), if_neg h2, if_neg (by decide)]
    rfl
  ·rw [dec_f (show ¬ (key.length : Int) = 16 by omega), dec_f (show ¬ (key.length : Int) = 32 by omega), if_neg h1, if_neg (by decide)]
   rfl
end Go.AM
end
section
namespace Go.AM
theorem lim_of {n : Nat} (h : n < 9223372036854775808) : n < lim63 := h
def xorL (a b : List Int) : List Int := tab a.length fun i => ixor .u8 (rd 0 a (i : Int)) (rd 0 b (i : Int))
@[simp] theorem xorL_len (a b : List Int) : (xorL a b).length = a.length := tab_len
theorem xorL_B (a b : List Int) : Bs (xorL a b) := tab_B fun _ _ => xor_B _ _
theorem rd_xorL {a b : List Int} {k : Nat} (h : k < a.length) : rd 0 (xorL a b) (k : Int) = ixor .u8 (rd 0 a (k : Int)) (rd 0 b (k : Int)) := rd_tab h
theorem xorL_back {a b : List Int} (h : a.length ≤ b.length) (ha : Bs a) : xorL (xorL a b) b = a := by
 refine rd_ext (d := 0) (by simp) fun k hk => ?_
 rw [xorL_len, xorL_len] at hk
 rw [rd_xorL (by simpa using hk), rd_xorL hk, xor_assoc, xor_self, xor_zero (ha _ (rd_mem (by omega) (by omega)))]
theorem sxor_eq {a b : List Int} (h : a.length ≤ b.length) (hb : b.length < 1000000000000) : siv_xor.run .lim (a, b, ()) = some (xorL a b) := by
 have e := loop_upd (f := siv_xor.l0 .lim) (fun k m => (b, (a.length : Int), (k : Int), m, ())) (fun k v => ixor .u8 v (rd 0 b (k : Int))) a rfl (fun k hk m' hm hj => by
  rw [siv_xor.q0]
  simp only [siv_xor.b0, dec_t (show (k : Int) < (a.length : Int) by omega), hm, inB_t (show (0 : Int) ≤ k by omega) (show (k : Int) < (a.length : Int) by omega), inB_t (show (0 : Int) ≤ k by omega) (show (k : Int) < (b.length : Int) by omega), cond_true, wk' k (by omega), hj k (Nat.le_refl _), Int.toNat_natCast])
 simp only [siv_xor.run, smallN (show a.length < 9223372036854775808 by omega), cond_true]
 rw [show (0 : Int) = ((0 : Nat) : Int) from rfl, e, siv_xor.q0]
 simp only [siv_xor.b0, dec_f (show ¬ (a.length : Int) < (a.length : Int) by omega), cond_false, Option.bind_some]
 rfl
theorem rep0' : ∀ n : Nat, repL [0] n = List.replicate n 0
 | 0 => rfl
 | n + 1 => by rw [repL, rep0' n]; rfl
theorem zeros_eq {n : Nat} (h : n ≤ 1000000) : siv_zeros.run .lim ((n : Int), ()) = some (List.replicate n 0) := by
 have : strings_Repeat.run .lim ([0], (n : Int), ()) = some (List.replicate n 0) := by
  show repF _ = _
  unfold repF
  rw [cond_pos (by simp; omega), Int.toNat_natCast, rep0']
 simp only [siv_zeros.run, this, Option.bind_some]
def twG (b : List Int) (i : Nat) : Int := if i = 15 then ishl .u8 (rd 0 b 15) 1 else ior .u8 (ishl .u8 (rd 0 b (i : Int)) 1) (ishr .u8 (rd 0 b ((i + 1 : Nat) : Int)) 7)
def twS (b : List Int) : List Int := if rd 0 b 0 ≥ 128 then (tab 16 (twG b)).set 15 (ixor .u8 (ishl .u8 (rd 0 b 15) 1) 135) else tab 16 (twG b)
theorem twG_B (b : List Int) (i : Nat) : B8 (twG b i) := by unfold twG; split <;> first | exact shl_B _ _ | exact or_B _ _
theorem twS_ok (b : List Int) : Blk (twS b) := by
 unfold twS
 split
 ·refine ⟨by simp, fun x hx => ?_⟩
  rcases List.mem_or_eq_of_mem_set hx with h | rfl
  ·exact tab_B (fun k _ => twG_B b k) x h
  ·exact xor_B _ _
 ·exact ⟨tab_len, tab_B fun k _ => twG_B b k⟩
theorem or_zero {a : Int} (h : B8 a) : ior .u8 a 0 = a := by
 show IntKind.u8.wrap (BitVec.ofInt 8 a ||| BitVec.ofInt 8 0).toNat = a
 rw [show BitVec.ofInt 8 0 = 0#8 from rfl, BitVec.or_zero, BitVec.toNat_ofInt, wrapu8]
 unfold B8 at h
 omega
def twP (b : List Int) (k : Nat) : List Int := tab 16 fun i => if k ≤ i then twG b i else rd 0 b (i : Int)
theorem twP_set {b : List Int} {k : Nat} (hk : k < 16) : (twP b (k + 1)).set k (twG b k) = twP b k := by
 unfold twP
 rw [tab_set]
 refine tab_congr fun i _ => ?_
 by_cases h1 : i = k
 ·subst h1; rw [if_pos rfl, if_pos (Nat.le_refl _)]
 ·rw [if_neg h1]
  by_cases h2 : k ≤ i
  ·rw [if_pos h2, if_pos (by omega)]
  ·rw [if_neg h2, if_neg (by omega)]
theorem rd_twP {b : List Int} {k : Nat} (hk : k < 16) : rd 0 (twP b (k + 1)) (k : Int) = rd 0 b (k : Int) := by
 unfold twP; rw [rd_tab hk, if_neg (by omega)]
theorem hi_bit {x : Int} (h : B8 x) : IntKind.u8.wrap (ishr .u8 x 7 * 135) = if x ≥ 128 then 135 else 0 :=
 byte_cases (p := fun x => IntKind.u8.wrap (ishr .u8 x 7 * 135) = if x ≥ 128 then 135 else 0) (by decide +kernel) h
theorem stwice_eq {b : List Int} (hb : Blk b) : siv_Twice.run .lim (b, ()) = some (twS b, 0, ()) := by
 obtain ⟨hl, hB⟩ := hb
 have h0 : ∀ (b : List Int), tab 16 (fun i => if 16 ≤ i then twG b i else rd 0 b (i : Int)) = tab 16 fun i => rd 0 b (i : Int) := fun b => tab_congr fun i hi => by rw [if_neg (by omega)]
 have e := loop_to (f := siv_Twice.l0 .lim) (fun k => ((15 : Int) - (k : Int), (if k = 0 then 0 else ishr .u8 (rd 0 b ((16 - k : Nat) : Int)) 7 : Int), twP b (16 - k), ())) (n := 16) (fun k hk => by
  rw [siv_Twice.q0]
  have ei : (15 : Int) - (k : Int) = ((15 - k : Nat) : Int) := by omega
  have w1 : IntKind.i64.wrap (((15 - k : Nat) : Int) - 1) = (15 : Int) - ((k + 1 : Nat) : Int) := by rw [wrap64 (by omega) (by omega)]; omega
  have hr := rd_twP (b := b) (k := 15 - k) (by omega)
  have hs := twP_set (b := b) (k := 15 - k) (by omega)
  rw [show 15 - k + 1 = 16 - k by omega] at hr hs
  have hx : B8 (rd 0 b ((15 - k : Nat) : Int)) := hB _ (rd_mem (by omega) (by omega))
  have hg : ior .u8 (ishl .u8 (rd 0 b ((15 - k : Nat) : Int)) 1) (if k = 0 then 0 else ishr .u8 (rd 0 b ((16 - k : Nat) : Int)) 7) = twG b (15 - k) := by
   unfold twG
   by_cases hk0 : k = 0
   ·subst hk0; rw [if_pos rfl, if_pos (by omega), or_zero (shl_B _ _)]; rfl
   ·rw [if_neg hk0, if_neg (by omega), show 15 - k + 1 = 16 - k by omega]
  have hl2 : (twP b (16 - k)).length = 16 := tab_len
  rw [ei]
  simp only [siv_Twice.b0, dec_t (show ((15 - k : Nat) : Int) ≥ 0 by omega), hl2, inB_t (show (0 : Int) ≤ ((15 - k : Nat) : Int) by omega) (show ((15 - k : Nat) : Int) < ((16 : Nat) : Int) by omega), cond_true, hr, w1, Int.toNat_natCast, hg, hs]
  rw [if_neg (by omega), show 16 - (k + 1) = 15 - k by omega])
 have hst : twP b 16 = b := by unfold twP; rw [h0, ← tab_of hl]
 have w0 : IntKind.i64.wrap ((b.length : Int) - 1) = 15 := by rw [wrap64 (by omega) (by omega)]; omega
 rw [Nat.sub_zero, hst, if_pos rfl, show (15 : Int) - ((0 : Nat) : Int) = 15 from rfl, if_neg (by omega), Nat.sub_self] at e
 have e0 : twP b 0 = tab 16 (twG b) := tab_congr fun i _ => by rw [if_pos (Nat.zero_le _)]
 simp only [siv_Twice.run, smallN (show b.length < 9223372036854775808 by omega), cond_true, dec_t (show (b.length : Int) = 16 by omega), Bool.not_true, cond_false, w0, e, e0]
 rw [siv_Twice.q0]
 have hx0 : B8 (rd 0 b ((0 : Nat) : Int)) := hB _ (rd_mem (by omega) (by omega))
 simp only [siv_Twice.b0, dec_f (show ¬ ((15 : Int) - ((16 : Nat) : Int) ≥ 0) by omega), cond_false, Option.bind_some, tab_len, inB_t (show (0 : Int) ≤ 15 by omega) (show (15 : Int) < ((16 : Nat) : Int) by omega), cond_true, hi_bit hx0]
 have h15 : rd 0 (tab 16 (twG b)) 15 = ishl .u8 (rd 0 b 15) 1 := by
  have := rd_tab (n := 16) (g := twG b) (k := 15) (by omega)
  rw [show ((15 : Nat) : Int) = 15 from rfl] at this
  rw [this]; rfl
 rw [h15]
 unfold twS
 rw [show ((0 : Nat) : Int) = 0 from rfl]
 by_cases hc : rd 0 b 0 ≥ 128
 ·rw [if_pos hc, if_pos hc]
 ·rw [if_neg hc, if_neg hc, xor_zero (shl_B _ _), tab_set]
  congr 2
theorem stwice_run {b : List Int} (hb : Blk b) : siv_twice.run .lim (b, ()) = some (twS b) := by
 simp only [siv_twice.run, stwice_eq hb, Option.bind_some]
def padS (s : List Int) : List Int := s ++ (128 :: List.replicate (15 - s.length) 0)
theorem padS_len {s : List Int} (h : s.length < 16) : (padS s).length = 16 := by simp [padS]; omega
noncomputable def cmN (key s : List Int) : Nat → List Int
 | 0 => z16
 | k + 1 => encS key (xorL (cmN key s k) ((s.drop (16 * k)).take 16))
theorem cmN_ok (key s : List Int) : ∀ k, Blk (cmN key s k)
 | 0 => ⟨rfl, fun x hx => by rw [(List.mem_replicate.1 hx).2]; exact ⟨by decide, by decide⟩⟩
 | _ + 1 => encS_ok _ _
noncomputable def k1S (key : List Int) : List Int := twS (encS key z16)
noncomputable def lastS (key s : List Int) : List Int := if s.length = 16 then xorL s (k1S key) else xorL (padS s) (twS (k1S key))
noncomputable def cmS (key s : List Int) : List Int := encS key (xorL (cmN key s ((s.length - 1) / 16)) (lastS key (s.drop (16 * ((s.length - 1) / 16)))))
theorem cmS_ok (key s : List Int) : Blk (cmS key s) := encS_ok _ _
theorem encR_ok {key b : List Int} (hk : key.length = 16 ∨ key.length = 32) (hb : b.length = 16) : encR key b = (encS key b, 0) := by
 unfold encR; rw [if_pos hk, if_pos hb]
theorem lastS_len {key s : List Int} (h : s.length ≤ 16) : (lastS key s).length = 16 := by
 unfold lastS
 split
 ·simpa
 ·rw [xorL_len, padS_len (by omega)]
section
variable {key s : List Int}
theorem stag_eq (hk : key.length = 16 ∨ key.length = 32) (hkb : Bs key) (hs : s.length < lim63) : siv_maker_tag.run .lim ((key, k1S key, twS (k1S key)), s, ()) = some (cmS key s) := by
 have z := zeros_eq (n := 16) (by omega)
 have hloop := loop_to (f := siv_maker_tag.l0 .lim) (fun k => (s.drop (16 * k), key, k1S key, twS (k1S key), cmN key s k, key, k1S key, twS (k1S key), ())) (n := (s.length - 1) / 16) (fun k hk' => by
  rw [siv_maker_tag.q0]
  have hl : (s.drop (16 * k)).length = s.length - 16 * k := List.length_drop
  have hc := cmN_ok key s k
  have h1 : cut (s.drop (16 * k)) 0 16 = (s.drop (16 * k)).take 16 := by have := cutN (s.drop (16 * k)) 0 16; simpa using this
  have h2 : cut (s.drop (16 * k)) 16 ((s.drop (16 * k)).length : Int) = s.drop (16 * (k + 1)) := by
   have := cutN (s.drop (16 * k)) 16 (s.drop (16 * k)).length
   rw [show ((16 : Nat) : Int) = 16 from rfl] at this
   rw [this, List.drop_drop, List.take_of_length_le (by rw [List.length_drop]; omega)]
   congr 1
  have hx := sxor_eq (a := cmN key s k) (b := (s.drop (16 * k)).take 16) (by rw [hc.1, List.length_take]; omega) (by rw [List.length_take]; omega)
  have he := aencrypt_eq (key := key) (b := xorL (cmN key s k) ((s.drop (16 * k)).take 16)) (lim_of (by omega)) (by rw [xorL_len, hc.1]; decide) hkb
  rw [encR_ok hk (by rw [xorL_len, hc.1])] at he
  have hlim : s.length < 9223372036854775808 := hs
  simp only [siv_maker_tag.b0, smallN (show (s.drop (16 * k)).length < 9223372036854775808 by omega), dec_t (show ((s.drop (16 * k)).length : Int) > 16 by omega), cutB_t (show (0 : Int) ≤ 0 by omega) (show (0 : Int) ≤ 16 by omega) (show (16 : Int) ≤ ((s.drop (16 * k)).length : Int) by omega), cutB_t (show (0 : Int) ≤ 16 by omega) (show (16 : Int) ≤ ((s.drop (16 * k)).length : Int) by omega) (Int.le_refl _), cond_true, h1, h2, hx, he, Option.bind_some]
  rfl)
 simp only [siv_maker_tag.run]
 rw [show (16 : Int) = ((16 : Nat) : Int) from rfl, z]
 simp only [Option.bind_some]
 rw [Nat.mul_zero, List.drop_zero, show cmN key s 0 = z16 from rfl] at hloop
 rw [hloop]
 generalize hq : (s.length - 1) / 16 = q
 have hl : (s.drop (16 * q)).length = s.length - 16 * q := List.length_drop
 have hlim : s.length < 9223372036854775808 := hs
 rw [siv_maker_tag.q0]
 have hc := cmN_ok key s q
 have h16 : (s.drop (16 * q)).length ≤ 16 := by omega
 simp only [siv_maker_tag.b0, smallN (show (s.drop (16 * q)).length < 9223372036854775808 by omega), dec_f (show ¬ ((s.drop (16 * q)).length : Int) > 16 by omega), cond_true, cond_false, Option.bind_some]
 have he := aencrypt_eq (key := key) (b := xorL (cmN key s q) (lastS key (s.drop (16 * q)))) (lim_of (by omega)) (by rw [xorL_len, hc.1]; decide) hkb
 rw [encR_ok hk (by rw [xorL_len, hc.1])] at he
 have hll := lastS_len (key := key) h16
 have hx2 := sxor_eq (a := cmN key s q) (b := lastS key (s.drop (16 * q))) (by rw [hc.1, hll]; omega) (by omega)
 have hcm : cmS key s = encS key (xorL (cmN key s q) (lastS key (s.drop (16 * q)))) := by unfold cmS; rw [hq]
 rw [hcm]
 generalize hm : s.drop (16 * q) = m at *
 by_cases h3 : m.length = 16
 ·rw [dec_t (show (m.length : Int) = ((16 : Nat) : Int) by omega)]
  have hx1 := sxor_eq (a := m) (b := k1S key) (by rw [h3, show (k1S key).length = 16 from (twS_ok _).1]; omega) (by rw [show (k1S key).length = 16 from (twS_ok _).1]; omega)
  have hls : lastS key m = xorL m (k1S key) := by unfold lastS; rw [if_pos h3]
  rw [hls] at hx2 he ⊢
  simp only [cond_true, hx1, Option.bind_some, hx2, he]
 ·rw [dec_f (show ¬ (m.length : Int) = ((16 : Nat) : Int) by omega)]
  have hls : lastS key m = xorL (padS m) (twS (k1S key)) := by unfold lastS; rw [if_neg h3]
  have w15 : IntKind.i64.wrap (15 - (m.length : Int)) = ((15 - m.length : Nat) : Int) := by rw [wrap64 (by omega) (by omega)]; omega
  have hz := zeros_eq (n := 15 - m.length) (by omega)
  have hpad : (m ++ [128]) ++ List.replicate (15 - m.length) (0 : Int) = padS m := by unfold padS; simp
  have hx1 := sxor_eq (a := padS m) (b := twS (k1S key)) (by rw [padS_len (by omega), (twS_ok _).1]; omega) (by rw [(twS_ok _).1]; omega)
  rw [hls] at hx2 he ⊢
  simp only [cond_false]
  rw [cond_pos (dec_t (by unfold maxStr; simp; omega)), w15, hz]
  simp only [Option.bind_some]
  rw [cond_pos (dec_t (by unfold maxStr; simp; omega)), hpad, hx1]
  simp only [Option.bind_some, hx2, he]
end
end Go.AM
end
section
namespace Go.AM
noncomputable def s2N (key : List Int) (l : List (List Int)) : Nat → List Int
 | 0 => cmS key z16
 | k + 1 => xorL (twS (s2N key l k)) (cmS key (rd [] l (k : Int)))
noncomputable def s2E (key d s : List Int) : List Int :=
 if s.length < 16 then cmS key (xorL (padS s) (twS d)) else cmS key (s.take (s.length - 16) ++ xorL (s.drop (s.length - 16)) d)
noncomputable def s2S (key : List Int) (l : List (List Int)) : List Int :=
 if l.length = 0 then cmS key (List.replicate 15 0 ++ [1]) else s2E key (s2N key l (l.length - 1)) (rd [] l ((l.length - 1 : Nat) : Int))
theorem s2N_ok (key : List Int) (l : List (List Int)) : ∀ k, Blk (s2N key l k)
 | 0 => cmS_ok _ _
 | k + 1 => ⟨by rw [s2N, xorL_len, (twS_ok _).1], xorL_B _ _⟩
theorem s2S_ok (key : List Int) (l : List (List Int)) : Blk (s2S key l) := by
 unfold s2S s2E
 split
 ·exact cmS_ok _ _
 ·split <;> exact cmS_ok _ _
theorem k1_blk (key : List Int) : Blk (k1S key) := twS_ok _
theorem sbegin_eq {key : List Int} (hk : key.length = 16 ∨ key.length = 32) (hkb : Bs key) : siv_begin.run .lim (key, ()) = some ((key, (k1S key, twS (k1S key))), 0, ()) := by
 have z := zeros_eq (n := 16) (by omega)
 have hz16 : (List.replicate 16 (0 : Int)).length = 16 := rfl
 have he := aencrypt_eq (key := key) (b := z16) (lim_of (by omega)) (by rw [hz16]; decide) hkb
 rw [encR_ok hk hz16] at he
 simp only [siv_begin.run]
 rw [show (16 : Int) = ((16 : Nat) : Int) from rfl, z]
 simp only [Option.bind_some, he, decide_true, Bool.not_true, cond_false, stwice_run (encS_ok key z16)]
 rw [show twS (encS key z16) = k1S key from rfl, stwice_run (k1_blk key)]
 rfl
section
variable {key : List Int}
theorem srow_eq {l : List (List Int)} (hk : key.length = 16 ∨ key.length = 32) (hkb : Bs key) (hl : l.length < lim63) (hs : ∀ s ∈ l, s.length < lim63) :
  siv_maker_row.run .lim ((key, (k1S key, twS (k1S key))), l, ()) = some (s2S key l) := by
 have hlim : l.length < 9223372036854775808 := hl
 simp only [siv_maker_row.run, smallN hlim, cond_true]
 unfold s2S
 by_cases h0 : l.length = 0
 ·rw [dec_t (show (l.length : Int) = 0 by omega), if_pos h0]
  have z := zeros_eq (n := 15) (by omega)
  simp only [cond_true]
  rw [show (15 : Int) = ((15 : Nat) : Int) from rfl, z]
  simp only [Option.bind_some]
  rw [cond_pos (by decide), stag_eq hk hkb (by decide)]
  rfl
 ·rw [dec_f (show ¬ (l.length : Int) = 0 by omega), if_neg h0]
  have z := zeros_eq (n := 16) (by omega)
  have w1 : IntKind.i64.wrap ((l.length : Int) - 1) = ((l.length - 1 : Nat) : Int) := by rw [wrap64 (by omega) (by omega)]; omega
  have hc : cut l 0 ((l.length - 1 : Nat) : Int) = l.take (l.length - 1) := by
   have := cutN l 0 (l.length - 1)
   rw [show ((0 : Nat) : Int) = 0 from rfl] at this
   rw [this, List.drop_zero, Nat.sub_zero]
  have htl : (l.take (l.length - 1)).length = l.length - 1 := by rw [List.length_take]; omega
  generalize hs1 : rd ([] : List Int) l ((l.length - 1 : Nat) : Int) = s
  have hsl : s.length < 9223372036854775808 := by rw [← hs1]; exact hs _ (rd_mem (by omega) (by omega))
  have hloop := loop_to (f := siv_maker_row.l0 .lim) (fun k => (s2N key l k, s, l.take (l.length - 1), ((l.length - 1 : Nat) : Int), (k : Int), key, k1S key, twS (k1S key), ())) (n := l.length - 1) (fun k hk' => by
   rw [siv_maker_row.q0]
   have hok := s2N_ok key l k
   have ht := stag_eq (key := key) (s := rd [] l (k : Int)) hk hkb (hs _ (rd_mem (by omega) (by omega)))
   have hx := sxor_eq (a := twS (s2N key l k)) (b := cmS key (rd [] l (k : Int))) (by rw [(twS_ok _).1, (cmS_ok _ _).1]; omega) (by rw [(cmS_ok _ _).1]; omega)
   simp only [siv_maker_row.b0, dec_t (show (k : Int) < ((l.length - 1 : Nat) : Int) by omega), htl, inB_t (show (0 : Int) ≤ k by omega) (show (k : Int) < ((l.length - 1 : Nat) : Int) by omega), rd_take (d := ([] : List Int)) (xs := l) hk', cond_true, stwice_run hok, Option.bind_some, ht, hx, wk k (by omega)]
   rfl)
  rw [show s2N key l 0 = cmS key z16 from rfl, show ((0 : Nat) : Int) = 0 from rfl] at hloop
  simp only [cond_false]
  rw [show (16 : Int) = ((16 : Nat) : Int) from rfl, z]
  simp only [Option.bind_some, stag_eq hk hkb (show (List.replicate 16 (0 : Int)).length < lim63 by decide), w1, inB_t (show (0 : Int) ≤ ((l.length - 1 : Nat) : Int) by omega) (show ((l.length - 1 : Nat) : Int) < (l.length : Int) by omega), cutB_t (Int.le_refl 0) (show (0 : Int) ≤ ((l.length - 1 : Nat) : Int) by omega) (show ((l.length - 1 : Nat) : Int) ≤ (l.length : Int) by omega), cond_true, hc, htl, smallN (show l.length - 1 < 9223372036854775808 by omega), hs1]
  rw [hloop, siv_maker_row.q0]
  simp only [siv_maker_row.b0, dec_f (show ¬ ((l.length - 1 : Nat) : Int) < ((l.length - 1 : Nat) : Int) by omega), cond_false, Option.bind_some, smallN hsl, cond_true]
  have w2 : IntKind.i64.wrap ((s.length : Int) - ((16 : Nat) : Int)) = (s.length : Int) - 16 := by rw [wrap64 (by omega) (by omega)]; omega
  rw [w2]
  have hd := s2N_ok key l (l.length - 1)
  unfold s2E
  by_cases h3 : s.length < 16
  ·rw [dec_f (show ¬ ((s.length : Int) - 16 ≥ 0) by omega), if_pos h3]
   have w15 : IntKind.i64.wrap (15 - (s.length : Int)) = ((15 - s.length : Nat) : Int) := by rw [wrap64 (by omega) (by omega)]; omega
   have hz := zeros_eq (n := 15 - s.length) (by omega)
   have hpad : (s ++ [128]) ++ List.replicate (15 - s.length) (0 : Int) = padS s := by unfold padS; simp
   have hx := sxor_eq (a := padS s) (b := twS (s2N key l (l.length - 1))) (by rw [padS_len h3, (twS_ok _).1]; omega) (by rw [(twS_ok _).1]; omega)
   simp only [cond_false]
   rw [cond_pos (dec_t (by unfold maxStr; simp; omega)), w15, hz]
   simp only [Option.bind_some]
   rw [cond_pos (dec_t (by unfold maxStr; simp; omega)), hpad]
   simp only [stwice_run hd, Option.bind_some, hx]
   rw [stag_eq hk hkb (by rw [xorL_len, padS_len h3]; decide)]
   rfl
  ·rw [dec_t (show (s.length : Int) - 16 ≥ 0 by omega), if_neg h3]
   have e16 : (s.length : Int) - 16 = ((s.length - 16 : Nat) : Int) := by omega
   have hc1 : cut s ((s.length - 16 : Nat) : Int) (s.length : Int) = s.drop (s.length - 16) := by
    rw [cutN, List.take_of_length_le (by rw [List.length_drop]; omega)]
   have hc2 : cut s 0 ((s.length - 16 : Nat) : Int) = s.take (s.length - 16) := by
    have := cutN s 0 (s.length - 16)
    rw [show ((0 : Nat) : Int) = 0 from rfl] at this
    rw [this, List.drop_zero, Nat.sub_zero]
   have hx := sxor_eq (a := s.drop (s.length - 16)) (b := s2N key l (l.length - 1)) (by rw [List.length_drop, hd.1]; omega) (by rw [hd.1]; omega)
   have htl2 : (s.take (s.length - 16) ++ xorL (s.drop (s.length - 16)) (s2N key l (l.length - 1))).length = s.length := by rw [List.length_append, xorL_len, List.length_take, List.length_drop]; omega
   simp only [e16, cond_true, cutB_t (Int.le_refl 0) (show (0 : Int) ≤ ((s.length - 16 : Nat) : Int) by omega) (show ((s.length - 16 : Nat) : Int) ≤ (s.length : Int) by omega), cutB_t (show (0 : Int) ≤ ((s.length - 16 : Nat) : Int) by omega) (show ((s.length - 16 : Nat) : Int) ≤ (s.length : Int) by omega) (Int.le_refl _), hc1, hc2, hx, Option.bind_some]
   rw [cond_pos (dec_t (by rw [xorL_len, List.length_take, List.length_drop]; unfold maxStr; omega)), stag_eq hk hkb (by rw [htl2]; exact hsl)]
   rfl
def maskV (v : List Int) : List Int := (v.set 8 (iand .u8 (rd 0 v 8) 127)).set 12 (iand .u8 (rd 0 (v.set 8 (iand .u8 (rd 0 v 8) 127)) 12) 127)
theorem maskV_len (v : List Int) : (maskV v).length = v.length := by simp [maskV]
noncomputable def strmS (key v s : List Int) : List Int := xorL s (strS key (maskV v) s.length)
theorem strmS_len (key v s : List Int) : (strmS key v s).length = s.length := xorL_len _ _
theorem strmS_B (key v s : List Int) : Bs (strmS key v s) := xorL_B _ _
theorem strmS_back (key v : List Int) {s : List Int} (h : Bs s) : strmS key v (strmS key v s) = s := by
 unfold strmS
 rw [xorL_len, xorL_back (by rw [strS_len]; omega) h]
theorem strR_ok {key v : List Int} {n : Nat} (hk : key.length = 16 ∨ key.length = 32) (hv : v.length = 16) (hn : n ≤ 65536) : strR key v (n : Int) = strS key v n := by
 unfold strR strE
 rw [if_neg (show ¬ ((n : Int) < 0 ∨ (n : Int) > 65536) by omega), if_pos hk, if_pos hv, if_pos rfl, Int.toNat_natCast]
theorem sstream_eq {v s : List Int} (hk : key.length = 16 ∨ key.length = 32) (hkb : Bs key) (hv : v.length = 16) (hs : s.length ≤ 65536) : siv_stream.run .lim (key, v, s, ()) = some (strmS key v s) := by
 have ha := astream_eq (key := key) (at_ := maskV v) (n := (s.length : Int)) (lim_of (by omega)) (by rw [maskV_len, hv]; decide) hkb
 rw [strR_ok hk (by rw [maskV_len, hv]) hs] at ha
 have hx := sxor_eq (a := s) (b := strS key (maskV v) s.length) (by rw [strS_len]; omega) (by rw [strS_len]; omega)
 unfold maskV at ha hx
 simp only [siv_stream.run, List.length_set, hv, inB_t (show (0 : Int) ≤ 8 by omega) (show (8 : Int) < ((16 : Nat) : Int) by omega), inB_t (show (0 : Int) ≤ 12 by omega) (show (12 : Int) < ((16 : Nat) : Int) by omega), smallN (show s.length < 9223372036854775808 by omega), cond_true, ha, Option.bind_some, hx]
 rfl
abbrev half1 (key : List Int) : List Int := key.take (key.length / 2)
abbrev half2 (key : List Int) : List Int := key.drop (key.length / 2)
def sivE (key : List Int) (ad : List (List Int)) : Int := if key.length = 32 ∨ key.length = 64 then (if ad.length ≥ 127 then 18 else 0) else 13
noncomputable def sealS (key : List Int) (ad : List (List Int)) (plain : List Int) : List Int :=
 s2S (half1 key) (ad ++ [plain]) ++ strmS (half2 key) (s2S (half1 key) (ad ++ [plain])) plain
noncomputable def sealR (key : List Int) (ad : List (List Int)) (plain : List Int) : List Int × Int :=
 if sivE key ad = 0 then (if plain.length > 65536 then ([], 12) else (sealS key ad plain, 0)) else ([], sivE key ad)
noncomputable def openS (key sealed : List Int) : List Int := strmS (half2 key) (sealed.take 16) (sealed.drop 16)
noncomputable def openR (key : List Int) (ad : List (List Int)) (sealed : List Int) : List Int × Int :=
 if sivE key ad = 0 then (if sealed.length < 16 then ([], 11) else if sealed.length > 65552 then ([], 12) else
  if s2S (half1 key) (ad ++ [openS key sealed]) = sealed.take 16 then (openS key sealed, 0) else ([], 17)) else ([], sivE key ad)
theorem bs_take {s : List Int} (h : Bs s) (n : Nat) : Bs (s.take n) := fun x hx => h x (List.mem_of_mem_take hx)
theorem bs_drop {s : List Int} (h : Bs s) (n : Nat) : Bs (s.drop n) := fun x hx => h x (List.mem_of_mem_drop hx)
theorem halves_len {key : List Int} (h : key.length = 32 ∨ key.length = 64) : ((half1 key).length = 16 ∨ (half1 key).length = 32) ∧ ((half2 key).length = 16 ∨ (half2 key).length = 32) := by
 unfold half1 half2
 rw [List.length_take, List.length_drop]; omega
theorem shalves_eq {ad : List (List Int)} (hk : key.length < lim63) (hkb : Bs key) (ha : ad.length < lim63) :
  ∃ r r1, siv_halves.run .lim (key, ad, ()) = some (r, r1, sivE key ad, ()) ∧ (sivE key ad = 0 → r = (half1 key, (k1S (half1 key), twS (k1S (half1 key)))) ∧ r1 = half2 key) := by
 have hk63 : key.length < 9223372036854775808 := hk
 have ha63 : ad.length < 9223372036854775808 := ha
 have hd : (key.length : Int).tdiv 2 = ((key.length / 2 : Nat) : Int) := by rw [Int.tdiv_eq_ediv_of_nonneg (Int.natCast_nonneg _)]; simp
 have w1 : IntKind.i64.wrap ((key.length : Int).tdiv 2) = ((key.length / 2 : Nat) : Int) := by rw [hd, wrap64 (by omega) (by omega)]
 unfold sivE
 simp only [siv_halves.run, smallN hk63, smallN ha63, cond_true, Bool.or_true, w1]
 by_cases h1 : key.length = 32 ∨ key.length = 64
 ·have : (!decide ((key.length : Int) = 32) && !decide ((key.length : Int) = 64)) = false := by
   rcases h1 with h | h
   ·rw [dec_t (show (key.length : Int) = 32 by omega)]; rfl
   ·rw [dec_t (show (key.length : Int) = 64 by omega), Bool.not_true, Bool.and_false]
  rw [this, if_pos h1]
  simp only [cond_false]
  by_cases h2 : ad.length ≥ 127
  ·rw [dec_t (show (ad.length : Int) ≥ 127 by omega), if_pos h2]
   exact ⟨_, _, rfl, fun h => absurd h (by decide)⟩
  ·rw [dec_f (show ¬ (ad.length : Int) ≥ 127 by omega), if_neg h2]
   have hc1 : cut key 0 ((key.length / 2 : Nat) : Int) = half1 key := by
    have := cutN key 0 (key.length / 2)
    rw [show ((0 : Nat) : Int) = 0 from rfl] at this
    rw [this, List.drop_zero, Nat.sub_zero]
   have hc2 : cut key ((key.length / 2 : Nat) : Int) (key.length : Int) = half2 key := by
    rw [cutN, List.take_of_length_le (by rw [List.length_drop]; omega)]
   simp only [cond_false, cutB_t (Int.le_refl 0) (show (0 : Int) ≤ ((key.length / 2 : Nat) : Int) by omega) (show ((key.length / 2 : Nat) : Int) ≤ (key.length : Int) by omega), cutB_t (show (0 : Int) ≤ ((key.length / 2 : Nat) : Int) by omega) (show ((key.length / 2 : Nat) : Int) ≤ (key.length : Int) by omega) (Int.le_refl _), cond_true, hc1, hc2, sbegin_eq (halves_len h1).1 (bs_take hkb _), Option.bind_some]
   exact ⟨_, _, rfl, fun _ => ⟨rfl, rfl⟩⟩
 ·rw [dec_f (show ¬ (key.length : Int) = 32 by omega), dec_f (show ¬ (key.length : Int) = 64 by omega), if_neg h1]
  exact ⟨_, _, rfl, fun h => absurd h (by decide)⟩
theorem sivE_zero {ad : List (List Int)} (h : sivE key ad = 0) : (key.length = 32 ∨ key.length = 64) ∧ ad.length < 127 := by
 unfold sivE at h
 split at h
 ·split at h
  ·exact absurd h (by decide)
  ·exact ⟨by assumption, by omega⟩
 ·exact absurd h (by decide)
theorem clone_eq {ad : List (List Int)} (h : ad.length < 4398046511104) : slices_Clone_string_string.run .lim (ad, ()) = some ad := by
 simp only [slices_Clone_string_string.run]
 rw [cond_pos (dec_t (by simpa using h)), List.nil_append]
theorem sseal_eq {ad : List (List Int)} {plain : List Int} (hk : key.length < lim63) (hkb : Bs key) (ha : ad.length < lim63) (had : ∀ s ∈ ad, s.length < lim63) (hp : plain.length < lim63) :
  siv_Seal.run .lim (key, ad, plain, ()) = some ((sealR key ad plain).1, (sealR key ad plain).2, ()) := by
 obtain ⟨r, r1, e, hz⟩ := shalves_eq hk hkb ha
 have hp63 : plain.length < 9223372036854775808 := hp
 unfold sealR
 simp only [siv_Seal.run, e, Option.bind_some, smallN hp63, cond_true]
 by_cases h0 : sivE key ad = 0
 ·obtain ⟨rfl, rfl⟩ := hz h0
  obtain ⟨h1, h2⟩ := sivE_zero h0
  obtain ⟨g1, g2⟩ := halves_len h1
  rw [dec_t h0, if_pos h0]
  simp only [Bool.not_true, cond_false]
  by_cases h3 : plain.length > 65536
  ·rw [dec_t (show (plain.length : Int) > 65536 by omega), if_pos h3]; rfl
  ·rw [dec_f (show ¬ (plain.length : Int) > 65536 by omega), if_neg h3]
   have hall : ∀ s ∈ ad ++ [plain], s.length < lim63 := fun s hs => by
    rcases List.mem_append.1 hs with hs | hs
    ·exact had s hs
    ·rw [List.mem_singleton.1 hs]; exact hp
   have hv := (s2S_ok (half1 key) (ad ++ [plain])).1
   simp only [cond_false, clone_eq (show ad.length < 4398046511104 by omega), Option.bind_some]
   rw [cond_pos (dec_t (by simp; omega)), srow_eq g1 (bs_take hkb _) (lim_of (by simp; omega)) hall]
   simp only [Option.bind_some, sstream_eq g2 (bs_drop hkb _) hv (show plain.length ≤ 65536 by omega)]
   rw [cond_pos (dec_t (by rw [hv, strmS_len]; unfold maxStr; omega))]
   rfl
 ·rw [dec_f h0, if_neg h0]
  rfl
theorem xorL_zero {a b : List Int} (h : a.length = b.length) (ha : Bs a) (hb : Bs b) : xorL a b = List.replicate a.length 0 ↔ b = a := by
 constructor
 ·intro e
  refine (rd_ext (d := 0) h.symm fun k hk => ?_)
  have h1 : rd 0 (xorL a b) (k : Int) = 0 := by
   rw [e, rd_ix (by simp; omega)]; simp
  rw [rd_xorL (by omega)] at h1
  have := xor_assoc (rd 0 a (k : Int)) (rd 0 b (k : Int)) (rd 0 b (k : Int))
  rw [h1, xor_self, zero_xor (hb _ (rd_mem (by omega) (by omega))), xor_zero (ha _ (rd_mem (by omega) (by omega)))] at this
  exact this
 ·rintro rfl
  refine rd_ext (d := 0) (by simp) fun k hk => ?_
  rw [xorL_len] at hk
  rw [rd_xorL hk, xor_self, rd_ix (by simpa using hk)]; simp
theorem sopen_eq {ad : List (List Int)} {sealed : List Int} (hk : key.length < lim63) (hkb : Bs key) (ha : ad.length < lim63) (had : ∀ s ∈ ad, s.length < lim63) (hp : sealed.length < lim63) (hpb : Bs sealed) :
  siv_Open.run .lim (key, ad, sealed, ()) = some ((openR key ad sealed).1, (openR key ad sealed).2, ()) := by
 obtain ⟨r, r1, e, hz⟩ := shalves_eq hk hkb ha
 have hp63 : sealed.length < 9223372036854775808 := hp
 unfold openR
 simp only [siv_Open.run, e, Option.bind_some, smallN hp63, cond_true]
 by_cases h0 : sivE key ad = 0
 ·obtain ⟨rfl, rfl⟩ := hz h0
  obtain ⟨h1, h2⟩ := sivE_zero h0
  obtain ⟨g1, g2⟩ := halves_len h1
  rw [dec_t h0, if_pos h0]
  simp only [Bool.not_true, cond_false]
  by_cases h3 : sealed.length < 16
  ·rw [dec_t (show (sealed.length : Int) < 16 by omega), if_pos h3]; rfl
  ·rw [dec_f (show ¬ (sealed.length : Int) < 16 by omega), if_neg h3]
   simp only [cond_false]
   by_cases h4 : sealed.length > 65552
   ·rw [dec_t (show (sealed.length : Int) > 65552 by omega), if_pos h4]; rfl
   ·rw [dec_f (show ¬ (sealed.length : Int) > 65552 by omega), if_neg h4]
    have hc1 : cut sealed 0 16 = sealed.take 16 := by
     have := cutN sealed 0 16
     simpa using this
    have hc2 : cut sealed 16 (sealed.length : Int) = sealed.drop 16 := by
     have := cutN sealed 16 sealed.length
     rw [show ((16 : Nat) : Int) = 16 from rfl] at this
     rw [this, List.take_of_length_le (by rw [List.length_drop]; omega)]
    have ht : (sealed.take 16).length = 16 := by rw [List.length_take]; omega
    have hdl : (sealed.drop 16).length = sealed.length - 16 := List.length_drop
    have hol : (openS key sealed).length = sealed.length - 16 := by unfold openS; rw [strmS_len, hdl]
    have hall : ∀ s ∈ ad ++ [openS key sealed], s.length < lim63 := fun s hs => by
     rcases List.mem_append.1 hs with hs | hs
     ·exact had s hs
     ·rw [List.mem_singleton.1 hs, hol]; exact lim_of (by omega)
    have hv := s2S_ok (half1 key) (ad ++ [openS key sealed])
    have z := zeros_eq (n := 16) (by omega)
    have hx := sxor_eq (a := sealed.take 16) (b := s2S (half1 key) (ad ++ [openS key sealed])) (by rw [ht, hv.1]; omega) (by rw [hv.1]; omega)
    have hst := sstream_eq (v := sealed.take 16) (s := sealed.drop 16) g2 (bs_drop hkb _) ht (by omega)
    rw [show strmS (half2 key) (sealed.take 16) (sealed.drop 16) = openS key sealed from rfl] at hst
    simp only [cond_false, cutB_t (Int.le_refl 0) (show (0 : Int) ≤ 16 by omega) (show (16 : Int) ≤ (sealed.length : Int) by omega), cutB_t (show (0 : Int) ≤ 16 by omega) (show (16 : Int) ≤ (sealed.length : Int) by omega) (Int.le_refl _), cond_true, hc1, hc2, hst, Option.bind_some, clone_eq (show ad.length < 4398046511104 by omega)]
    rw [cond_pos (dec_t (by simp; omega)), srow_eq g1 (bs_take hkb _) (lim_of (by simp; omega)) hall]
    simp only [Option.bind_some, hx]
    rw [show (16 : Int) = ((16 : Nat) : Int) from rfl, z]
    simp only [Option.bind_some]
    have hiff := xorL_zero (a := sealed.take 16) (b := s2S (half1 key) (ad ++ [openS key sealed])) (by rw [ht, hv.1]) (bs_take hpb _) hv.2
    rw [ht] at hiff
    by_cases h5 : s2S (half1 key) (ad ++ [openS key sealed]) = sealed.take 16
    ·rw [dec_t (hiff.2 h5), if_pos h5]; rfl
    ·rw [dec_f (fun q => h5 (hiff.1 q)), if_neg h5]; rfl
 ·rw [dec_f h0, if_neg h0]
  rfl
end
theorem open_seal {key : List Int} {ad : List (List Int)} {plain : List Int} (h0 : sivE key ad = 0) (hp : plain.length ≤ 65536) (hpb : Bs plain) : openR key ad (sealS key ad plain) = (plain, 0) := by
 have hv := s2S_ok (half1 key) (ad ++ [plain])
 have ht : (sealS key ad plain).take 16 = s2S (half1 key) (ad ++ [plain]) := by
  unfold sealS; rw [List.take_append_of_le_length (by rw [hv.1]; omega), List.take_of_length_le (by rw [hv.1]; omega)]
 have hd : (sealS key ad plain).drop 16 = strmS (half2 key) (s2S (half1 key) (ad ++ [plain])) plain := by
  unfold sealS; rw [List.drop_append_of_le_length (by rw [hv.1]; omega), List.drop_of_length_le (by rw [hv.1]; omega), List.nil_append]
 have hl : (sealS key ad plain).length = plain.length + 16 := by unfold sealS; rw [List.length_append, hv.1, strmS_len]; omega
 have ho : openS key (sealS key ad plain) = plain := by unfold openS; rw [ht, hd, strmS_back _ _ hpb]
 unfold openR
 rw [if_pos h0, if_neg (by omega), if_neg (by omega), ho, ht, if_pos rfl]
theorem sealS_len (key : List Int) (ad : List (List Int)) (plain : List Int) : (sealS key ad plain).length = plain.length + 16 := by
 unfold sealS; rw [List.length_append, (s2S_ok _ _).1, strmS_len]; omega
theorem sealS_B (key : List Int) (ad : List (List Int)) (plain : List Int) : Bs (sealS key ad plain) := fun x h => by
 unfold sealS at h
 rcases List.mem_append.1 h with h | h
 ·exact (s2S_ok _ _).2 x h
 ·exact strmS_B _ _ _ x h
end Go.AM
end
section
namespace Go.AM
def sealE (key : List Int) (ad : List (List Int)) (n : Nat) : Int := if refE (key, ad, [], []) = 0 then (if n > 65536 then 12 else 0) else refE (key, ad, [], [])
theorem refE_eq (key : List Int) (ad : List (List Int)) (p t : List Int) : refE (key, ad, p, t) = refE (key, ad, [], []) := rfl
noncomputable def sealI (xs : List KK) (key : List Int) (ad : List (List Int)) (plain : List Int) : List KK × List Int × Int :=
 if sealE key ad plain.length = 0 then
  match (List.range xs.length).find? (fun j : Nat => alk (rd k0 xs (j : Int)) (key, ad, plain, [])) with
  | some k => (xs, (rd k0 xs (k : Int)).2.2.2, 0)
  | none => if xs.length ≥ 2048 then (xs, [], 18) else (xs ++ [(key, ad, plain, txt (xs.length + 1) plain)], txt (xs.length + 1) plain, 0)
 else (xs, [], sealE key ad plain.length)
noncomputable def openI (xs : List KK) (key : List Int) (ad : List (List Int)) (t : List Int) : List Int × Int :=
 if refE (key, ad, [], []) = 0 then (if t.length < 16 then ([], 11) else if t.length > 65552 then ([], 12) else
  match (List.range xs.length).find? (fun j : Nat => hit key ad t (rd k0 xs (j : Int))) with
  | some k => ((rd k0 xs (k : Int)).2.2.1, 0)
  | none => ([], 17)) else ([], refE (key, ad, [], []))
noncomputable def sealV (v : VV) (key : List Int) (ad : List (List Int)) (plain : List Int) : VV × List Int × Int :=
 bif v.1 then ((true, (sealI v.2 key ad plain).1), (sealI v.2 key ad plain).2) else (v, sealR key ad plain)
noncomputable def openV' (v : VV) (key : List Int) (ad : List (List Int)) (t : List Int) : List Int × Int := bif v.1 then openI v.2 key ad t else openR key ad t
structure Txts (key : List Int) (ad : List (List Int)) (s : List Int) : Prop where
 k : key.length < lim63
 kb : Bs key
 a : ad.length < lim63
 al : ∀ t ∈ ad, t.length < lim63
 s : s.length < lim63
theorem refE_siv (key : List Int) (ad : List (List Int)) : sivE key ad = refE (key, ad, [], []) := by
 show _ = if key.length ≠ 32 ∧ key.length ≠ 64 then 13 else if ad.length > 126 then 18 else 0
 unfold sivE
 by_cases h : key.length = 32 ∨ key.length = 64
 ·rw [if_pos h, if_neg (show ¬ (key.length ≠ 32 ∧ key.length ≠ 64) by omega)]
  by_cases h2 : ad.length ≥ 127
  ·rw [if_pos h2, if_pos (show ad.length > 126 by omega)]
  ·rw [if_neg h2, if_neg (show ¬ ad.length > 126 by omega)]
 ·rw [if_neg h, if_pos (show key.length ≠ 32 ∧ key.length ≠ 64 by omega)]
theorem cloneK_eq {xs : List KK} (h : xs.length < 2048) : slices_Clone_api_Kept_api_Kept.run .lim (xs, ()) = some xs := by
 simp only [slices_Clone_api_Kept_api_Kept.run]
 rw [cond_pos (dec_t (by simp; omega)), List.nil_append]
theorem seal_find (xs : List KK) (key : List Int) (ad : List (List Int)) (plain : List Int) (b : Bool) (hx : xs.length < lim63) (hok : ∀ k ∈ xs, okK k) (ha : ad.length < lim63) :
  ideal_Seal.l0 .lim (xs, (xs.length : Int), 0, key, ad, plain, [], xs, b, xs, false, ()) = match (List.range xs.length).find? (fun j : Nat => alk (rd k0 xs (j : Int)) (key, ad, plain, [])) with
   | some k => some (.inl ((k : Int), xs, key, ad, plain, [], b, xs, false, ()))
   | none => some (.inr (xs, key, ad, plain, [], b, xs, false, ())) := by
 have hx63 : xs.length < 9223372036854775808 := hx
 have e := loop_first (f := ideal_Seal.l0 .lim) (fun k => (xs, (xs.length : Int), (k : Int), key, ad, plain, [], xs, b, xs, false, ())) xs.length (fun j : Nat => alk (rd k0 xs (j : Int)) (key, ad, plain, [])) (fun k => some (.inl ((k : Int), xs, key, ad, plain, [], b, xs, false, ()))) (fun k hk => by
  rw [ideal_Seal.q0]
  have hm : okK (rd k0 xs k) := hok _ (rd_mem (by omega) (by omega))
  simp only [ideal_Seal.b0, alike_eq (rd k0 xs k) (key, ad, plain, []) hm.2.1 ha, wk k (by omega), dec_t (show (k : Int) < (xs.length : Int) by omega), inB_t (show (0 : Int) ≤ k by omega) (show (k : Int) < (xs.length : Int) by omega), cond_true, Option.bind_some])
 rw [show ((0 : Nat) : Int) = 0 from rfl] at e
 rw [e]
 cases (List.range xs.length).find? (fun j : Nat => alk (rd k0 xs (j : Int)) (key, ad, plain, [])) with
 | some k => rfl
 | none =>
  simp only
  rw [ideal_Seal.q0]
  simp only [ideal_Seal.b0, dec_f (show ¬ (xs.length : Int) < (xs.length : Int) by omega), cond_false]
theorem seal_eq {v : VV} (hv : okV v) (hf : fitV v = true) {key : List Int} {ad : List (List Int)} {plain : List Int} (T : Txts key ad plain) :
  ideal_Seal.run .lim (v, key, ad, plain, ()) = some ((sealV v key ad plain).1, (sealV v key ad plain).2.1, (sealV v key ad plain).2.2, ()) := by
 obtain ⟨b, xs⟩ := v
 have hx : xs.length < lim63 := hv.1
 have hp63 : plain.length < 9223372036854775808 := T.s
 have hx63 : xs.length < 9223372036854775808 := hx
 unfold sealV
 cases b with
 | false =>
  have hn : xs = [] := by
   unfold fitV at hf
   simpa using hf
  subst hn
  have hs := sseal_eq T.k T.kb T.a T.al T.s
  simp only [ideal_Seal.run, ideal_truth_seal.run, hs, Option.bind_some, cond_false]
  unfold sealR
  by_cases h0 : sivE key ad = 0
  ·rw [if_pos h0]
   by_cases h1 : plain.length > 65536
   ·rw [if_pos h1]; rfl
   ·rw [if_neg h1]; rfl
  ·rw [if_neg h0, dec_f h0]; rfl
 | true =>
  have hr := refused_eq (key, ad, plain, []) T.k T.a
  rw [refE_eq] at hr
  have hf' := seal_find xs key ad plain true hx hv.2 T.a
  simp only [ideal_Seal.run, hr, Option.bind_some, smallN hp63, smallN hx63, cond_true, hf']
  unfold sealI sealE
  by_cases h0 : refE (key, ad, [], []) = 0
  ·rw [dec_t h0, if_pos h0]
   simp only [Bool.not_true, cond_false]
   by_cases h1 : plain.length > 65536
   ·rw [dec_t (show (plain.length : Int) > 65536 by omega), if_pos h1, if_neg (by decide)]; rfl
   ·rw [dec_f (show ¬ (plain.length : Int) > 65536 by omega), if_neg h1, if_pos rfl]
    simp only [cond_false]
    cases hq : (List.range xs.length).find? (fun j : Nat => alk (rd k0 xs (j : Int)) (key, ad, plain, [])) with
    | some k =>
     have hk : k < xs.length := List.mem_range.1 (List.mem_of_find?_eq_some hq)
     simp only [Option.bind_some]
     rw [cond_pos (dec_t (by omega)), cond_pos (inB_t (by omega) (by omega))]
    | none =>
     simp only [Option.bind_some, smallN hx63, cond_true]
     by_cases h2 : xs.length ≥ 2048
     ·rw [dec_t (show (xs.length : Int) ≥ 2048 by omega), if_pos h2]; rfl
     ·rw [dec_f (show ¬ (xs.length : Int) ≥ 2048 by omega), if_neg h2]
      have ha126 : ad.length ≤ 126 := by
       have := sivE_zero (key := key) (ad := ad) (by rw [refE_siv]; exact h0)
       omega
      have w1 : IntKind.i64.wrap ((xs.length : Int) + 1) = (xs.length : Int) + 1 := wrap64 (by omega) (by omega)
      simp only [cond_false, clone_eq (show ad.length < 4398046511104 by omega), Option.bind_some, w1, number_eq ((xs.length : Int) + 1) plain (by omega) (by omega) (by omega), cloneK_eq (show xs.length < 2048 by omega)]
      rw [cond_pos (dec_t (by simp; omega))]
  ·rw [dec_f h0, if_neg h0, if_neg h0]; rfl
theorem open_find' (xs : List KK) (key : List Int) (ad : List (List Int)) (t : List Int) (hx : xs.length < lim63) (hok : ∀ k ∈ xs, okK k) (ha : ad.length < lim63) :
  ideal_Open.l0 .lim (xs, (xs.length : Int), 0, key, ad, [], t, xs, ()) = match (List.range xs.length).find? (fun j : Nat => hit key ad t (rd k0 xs (j : Int))) with
   | some k => some (.inl ((k : Int), xs, ()))
   | none => some (.inr (xs, ())) := by
 have hx63 : xs.length < 9223372036854775808 := hx
 have e := loop_first (f := ideal_Open.l0 .lim) (fun k => (xs, (xs.length : Int), (k : Int), key, ad, [], t, xs, ())) xs.length (fun j : Nat => hit key ad t (rd k0 xs (j : Int))) (fun k => some (.inl ((k : Int), xs, ()))) (fun k hk => by
  rw [ideal_Open.q0]
  have hm : okK (rd k0 xs k) := hok _ (rd_mem (by omega) (by omega))
  simp only [ideal_Open.b0, equal_eq _ _ hm.2.1 ha, wk k (by omega), dec_t (show (k : Int) < (xs.length : Int) by omega), inB_t (show (0 : Int) ≤ k by omega) (show (k : Int) < xs.length by omega)]
  unfold hit
  cases decide ((rd k0 xs k).2.2.2 = t) && decide ((rd k0 xs k).1 = key) <;> simp only [cond_true, cond_false, Option.bind_some, Option.bind_none, Bool.or_true, Bool.true_or, Bool.and_true, Bool.true_and, Bool.and_false, Bool.false_and, Bool.or_false, Bool.false_or, Bool.not_true, Bool.not_false, Bool.or_self, Bool.and_self, Bool.not_not])
 rw [show ((0 : Nat) : Int) = 0 from rfl] at e
 rw [e]
 cases (List.range xs.length).find? (fun j : Nat => hit key ad t (rd k0 xs (j : Int))) with
 | some k => rfl
 | none =>
  simp only
  rw [ideal_Open.q0]
  simp only [ideal_Open.b0, dec_f (show ¬ (xs.length : Int) < (xs.length : Int) by omega), cond_false]
theorem openv_eq {v : VV} (hv : okV v) {key : List Int} {ad : List (List Int)} {t : List Int} (T : Txts key ad t) (htb : Bs t) :
  ideal_Open.run .lim (v, key, ad, t, ()) = some ((openV' v key ad t).1, (openV' v key ad t).2, ()) := by
 obtain ⟨b, xs⟩ := v
 have hx : xs.length < lim63 := hv.1
 have hp63 : t.length < 9223372036854775808 := T.s
 have hx63 : xs.length < 9223372036854775808 := hx
 unfold openV'
 cases b with
 | false =>
  have hs := sopen_eq T.k T.kb T.a T.al T.s htb
  simp only [ideal_Open.run, ideal_truth_open.run, hs, Option.bind_some, cond_false]
 | true =>
  have hr := refused_eq (key, ad, [], t) T.k T.a
  rw [refE_eq] at hr
  have hf' := open_find' xs key ad t hx hv.2 T.a
  simp only [ideal_Open.run, hr, Option.bind_some, smallN hp63, smallN hx63, cond_true, hf']
  unfold openI
  by_cases h0 : refE (key, ad, [], []) = 0
  ·rw [dec_t h0, if_pos h0]
   simp only [Bool.not_true, cond_false]
   by_cases h1 : t.length < 16
   ·rw [dec_t (show (t.length : Int) < 16 by omega), if_pos h1]; rfl
   ·rw [dec_f (show ¬ (t.length : Int) < 16 by omega), if_neg h1]
    by_cases h2 : t.length > 65552
    ·rw [dec_t (show (t.length : Int) > 65552 by omega), if_pos h2]; rfl
    ·rw [dec_f (show ¬ (t.length : Int) > 65552 by omega), if_neg h2]
     simp only [cond_false]
     cases hq : (List.range xs.length).find? (fun j : Nat => hit key ad t (rd k0 xs (j : Int))) with
     | some k =>
      have hk : k < xs.length := List.mem_range.1 (List.mem_of_find?_eq_some hq)
      simp only [Option.bind_some]
      rw [cond_neg (dec_f (by omega)), cond_pos (inB_t (by omega) (by omega))]
     | none => rfl
  ·rw [dec_f h0, if_neg h0]; rfl
end Go.AM
end
section
namespace Go.AM
theorem okK_new {key : List Int} {ad : List (List Int)} {plain : List Int} (T : Txts key ad plain) (hp : plain.length ≤ 65536) (n : Int) : okK (key, ad, plain, txt n plain) :=
 ⟨T.k, T.a, T.al, T.s, by simp only [txt, num16, List.length_append, List.length_map, List.length_range, List.length_replicate]; omega⟩
theorem sealE_zero {key : List Int} {ad : List (List Int)} {n : Nat} (h0 : sealE key ad n = 0) : refE (key, ad, [], []) = 0 ∧ n ≤ 65536 := by
 unfold sealE at h0
 split at h0
 ·split at h0
  ·exact absurd h0 (by decide)
  ·exact ⟨by assumption, by omega⟩
 ·exact absurd h0 (by assumption)
theorem sealI_cases (xs : List KK) (key : List Int) (ad : List (List Int)) (plain : List Int) :
  ((sealI xs key ad plain).2.2 ≠ 0 ∧ (sealI xs key ad plain).1 = xs ∧ (sealI xs key ad plain).2.1 = []) ∨
  (sealE key ad plain.length = 0 ∧ (∃ k, k < xs.length ∧ alk (rd k0 xs (k : Int)) (key, ad, plain, []) = true ∧ sealI xs key ad plain = (xs, (rd k0 xs (k : Int)).2.2.2, 0))) ∨
  (sealE key ad plain.length = 0 ∧ xs.length < 2048 ∧ (∀ k, k < xs.length → alk (rd k0 xs (k : Int)) (key, ad, plain, []) = false) ∧ sealI xs key ad plain = (xs ++ [(key, ad, plain, txt (xs.length + 1) plain)], txt (xs.length + 1) plain, 0)) := by
 unfold sealI
 by_cases h0 : sealE key ad plain.length = 0
 ·rw [if_pos h0]
  cases hq : (List.range xs.length).find? (fun j : Nat => alk (rd k0 xs (j : Int)) (key, ad, plain, [])) with
  | some k => exact .inr (.inl ⟨h0, k, List.mem_range.1 (List.mem_of_find?_eq_some hq), by simpa using List.find?_some hq, rfl⟩)
  | none =>
   simp only
   by_cases h2 : xs.length ≥ 2048
   ·rw [if_pos h2]; exact .inl ⟨show (18 : Int) ≠ 0 by decide, rfl, rfl⟩
   ·rw [if_neg h2]
    refine .inr (.inr ⟨h0, by omega, fun k hk => ?_, rfl⟩)
    have := List.find?_eq_none.1 hq k (List.mem_range.2 hk)
    simpa using this
 ·rw [if_neg h0]; exact .inl ⟨h0, rfl, rfl⟩
theorem okV_seal {v : VV} (hv : okV v) {key : List Int} {ad : List (List Int)} {plain : List Int} (T : Txts key ad plain) : okV (sealV v key ad plain).1 := by
 obtain ⟨b, xs⟩ := v
 unfold sealV
 cases b with
 | false => exact hv
 | true =>
  simp only [cond_true]
  rcases sealI_cases xs key ad plain with ⟨_, h, _⟩ | ⟨_, k, _, _, h⟩ | ⟨h0, h1, _, h⟩
  ·rw [h]; exact hv
  ·rw [h]; exact hv
  ·rw [h]
   refine ⟨by simp; omega, fun q hq => ?_⟩
   rcases List.mem_append.1 hq with hq | hq
   ·exact hv.2 q hq
   ·rw [List.mem_singleton.1 hq]; exact okK_new T (sealE_zero h0).2 _
theorem fit_bad {xs : List KK} (h : fitV (true, xs) = true) : xs.length ≤ 2048 ∧ ∀ i, i < xs.length → badK xs i = false := by
 unfold fitV at h
 simp only [cond_true, Bool.and_eq_true, decide_eq_true_eq, Bool.not_eq_true', List.any_eq_false, List.mem_range] at h
 exact ⟨h.1, fun i hi => by simpa using h.2 i hi⟩
theorem badK_app {xs : List KK} {q : KK} {i : Nat} (hi : i < xs.length) : badK (xs ++ [q]) i = badK xs i := by
 unfold badK
 rw [rd_app hi, any_congr (d := fun j => alk (rd k0 xs (j : Int)) (rd k0 xs (i : Int))) fun j hj => by rw [rd_app (by omega)]]
theorem rd_last {α : Type} {d : α} {xs : List α} {q : α} : rd d (xs ++ [q]) (xs.length : Int) = q := by
 rw [rd_ix (by simp)]; simp
theorem fit_seal {v : VV} (hf : fitV v = true) (key : List Int) (ad : List (List Int)) (plain : List Int) : fitV (sealV v key ad plain).1 = true := by
 obtain ⟨b, xs⟩ := v
 unfold sealV
 cases b with
 | false => exact hf
 | true =>
  simp only [cond_true]
  obtain ⟨f1, f2⟩ := fit_bad hf
  rcases sealI_cases xs key ad plain with ⟨_, h, _⟩ | ⟨_, k, _, _, h⟩ | ⟨h0, h1, h2, h⟩
  ·rw [h]; exact hf
  ·rw [h]; exact hf
  ·rw [h]
   obtain ⟨g1, g2⟩ := sealE_zero h0
   unfold fitV
   simp only [cond_true, Bool.and_eq_true, decide_eq_true_eq, Bool.not_eq_true', List.any_eq_false, List.mem_range, List.length_append, List.length_singleton]
   refine ⟨by omega, fun i hi => ?_⟩
   by_cases hl : i < xs.length
   ·rw [badK_app hl, f2 i hl]; simp
   ·obtain rfl : i = xs.length := by omega
    unfold badK
    rw [rd_last]
    rw [any_congr (d := fun _ => false) fun j hj => by
     rw [rd_app hj]
     have := h2 j hj
     unfold alk at this ⊢
     exact this]
    rw [refE_eq, g1, dec_t rfl, dec_f (show ¬ plain.length > 65536 by omega), dec_t rfl]
    simp
theorem byteOf_lt (n : Int) (k : Nat) : 0 ≤ byteOf n k ∧ byteOf n k < 256 := by unfold byteOf; omega
theorem txt_inj {a b : Nat} (ha : a < 65536) (hb : b < 65536) {p q : List Int} (h : txt (a : Int) p = txt (b : Int) q) : a = b ∧ p.length = q.length := by
 have h1 : num16 (a : Int) = num16 (b : Int) ∧ p.length = q.length := by
  unfold txt at h
  have hl := congrArg List.length h
  simp only [List.length_append, List.length_replicate, num16, List.length_map, List.length_range] at hl
  exact ⟨(List.append_inj h (by simp [num16])).1, by omega⟩
 refine ⟨?_, h1.2⟩
 have e := h1.1
 unfold num16 at e
 have e1 := (List.map_inj_left.1 e) 15 (by simp)
 have e2 := (List.map_inj_left.1 e) 14 (by simp)
 unfold byteOf at e1 e2
 simp only [Nat.sub_self, Int.pow_zero, Int.ediv_one] at e1
 simp only [show 15 - 14 = 1 from rfl, Int.pow_one] at e2
 omega
theorem fit_at {xs : List KK} (h : fitV (true, xs) = true) {i : Nat} (hi : i < xs.length) : (rd k0 xs (i : Int)).2.2.2 = txt ((i + 1 : Nat) : Int) (rd k0 xs (i : Int)).2.2.1 ∧ (rd k0 xs (i : Int)).2.2.1.length ≤ 65536 := by
 have := (fit_bad h).2 i hi
 unfold badK at this
 simp only [Bool.or_eq_false_iff, Bool.not_eq_false', decide_eq_true_eq, decide_eq_false_iff_not] at this
 exact ⟨by rw [this.1.2]; congr 1, by omega⟩
theorem txt_len (n : Int) (p : List Int) : (txt n p).length = p.length + 16 := by simp [txt, num16]; omega
theorem txt_B (n : Int) (p : List Int) : Bs (txt n p) := fun x hx => by
 unfold txt at hx
 rcases List.mem_append.1 hx with h | h
 ·obtain ⟨i, _, rfl⟩ := List.mem_map.1 h
  exact byteOf_lt _ _
 ·rw [(List.mem_replicate.1 h).2]; exact ⟨by decide, by decide⟩
theorem find_hit {xs : List KK} (h : fitV (true, xs) = true) {key : List Int} {ad : List (List Int)} {plain : List Int} {k : Nat} (hk : k < xs.length) (ha : alk (rd k0 xs (k : Int)) (key, ad, plain, []) = true) :
  (List.range xs.length).find? (fun j : Nat => hit key ad (rd k0 xs (k : Int)).2.2.2 (rd k0 xs (j : Int))) = some k := by
 have hl := (fit_bad h).1
 rw [List.find?_range_eq_some]
 unfold alk at ha
 simp only [Bool.and_eq_true, decide_eq_true_eq] at ha
 refine ⟨?_, List.mem_range.2 hk, fun j hj => ?_⟩
 ·unfold hit
  rw [dec_t rfl, dec_t ha.1.1, dec_t ha.2]; rfl
 ·unfold hit
  rw [dec_f]
  ·simp
  ·intro q
   rw [(fit_at h (show j < xs.length by omega)).1, (fit_at h hk).1] at q
   have := (txt_inj (by omega) (by omega) q).1
   omega
theorem openI_of {xs : List KK} (h : fitV (true, xs) = true) {key : List Int} {ad : List (List Int)} {plain : List Int} {k : Nat} (hk : k < xs.length) (ha : alk (rd k0 xs (k : Int)) (key, ad, plain, []) = true) (h0 : refE (key, ad, [], []) = 0) (hp : plain.length ≤ 65536) :
  openI xs key ad (rd k0 xs (k : Int)).2.2.2 = (plain, 0) := by
 have hf := find_hit h hk ha
 have ht := (fit_at h hk).1
 have hpl : (rd k0 xs (k : Int)).2.2.1 = plain := by
  unfold alk at ha
  simp only [Bool.and_eq_true, decide_eq_true_eq] at ha
  exact ha.1.2
 have hl : (rd k0 xs (k : Int)).2.2.2.length = plain.length + 16 := by rw [ht, txt_len, hpl]
 unfold openI
 rw [if_pos h0, if_neg (by omega), if_neg (by omega), hf]
 simp only [hpl]
end Go.AM
end
section
namespace Go.AM
def vB (v : VV) : Prop := ∀ k ∈ v.2, Bs k.2.2.1
def Ext (v w : VV) : Prop := v.1 = w.1 ∧ ∃ l, w.2 = v.2 ++ l
theorem Ext.rfl' (v : VV) : Ext v v := ⟨rfl, [], by simp⟩
theorem Ext.trans {u v w : VV} (a : Ext u v) (b : Ext v w) : Ext u w := by
 obtain ⟨l, hl⟩ := a.2; obtain ⟨m, hm⟩ := b.2
 exact ⟨a.1.trans b.1, l ++ m, by rw [hm, hl, List.append_assoc]⟩
theorem seal_no {v : VV} {key : List Int} {ad : List (List Int)} {s : List Int} (he : (sealV v key ad s).2.2 ≠ 0) : (sealV v key ad s).1 = v ∧ (sealV v key ad s).2.1 = [] := by
 obtain ⟨b, xs⟩ := v
 cases b with
 | false =>
  refine ⟨rfl, ?_⟩
  simp only [sealV, cond_false] at he ⊢
  unfold sealR at he ⊢
  by_cases h : sivE key ad = 0
  ·rw [if_pos h] at he ⊢
   by_cases h' : s.length > 65536
   ·rw [if_pos h']
   ·rw [if_neg h'] at he; exact absurd rfl he
  ·rw [if_neg h]
 | true =>
  simp only [sealV, cond_true] at he ⊢
  rcases sealI_cases xs key ad s with ⟨_, h, h'⟩ | ⟨_, _, _, _, h⟩ | ⟨_, _, _, h⟩
  ·rw [h, h']; exact ⟨rfl, rfl⟩
  ·rw [h] at he; exact absurd rfl he
  ·rw [h] at he; exact absurd rfl he
theorem seal_entry {xs : List KK} {key : List Int} {ad : List (List Int)} {s : List Int} (hf : fitV (true, xs) = true) (he : (sealI xs key ad s).2.2 = 0) :
  sealE key ad s.length = 0 ∧ ∃ k, k < (sealI xs key ad s).1.length ∧ rd k0 (sealI xs key ad s).1 (k : Int) = (key, ad, s, (sealI xs key ad s).2.1) := by
 rcases sealI_cases xs key ad s with ⟨h, _, _⟩ | ⟨h0, k, hk, ha, h⟩ | ⟨h0, h1, h2, h⟩
 ·exact absurd he h
 ·rw [h]
  refine ⟨h0, k, hk, ?_⟩
  unfold alk at ha
  simp only [Bool.and_eq_true, decide_eq_true_eq] at ha
  obtain ⟨⟨a1, a2⟩, a3⟩ := ha
  rw [← a1, ← a2, ← a3]
 ·rw [h]
  exact ⟨h0, xs.length, by simp, rd_last⟩
theorem alk_self (key : List Int) (ad : List (List Int)) (s t : List Int) : alk (key, ad, s, t) (key, ad, s, []) = true := by unfold alk; simp
theorem seal_yes {v : VV} {key : List Int} {ad : List (List Int)} {s : List Int} (hf : fitV v = true) (he : (sealV v key ad s).2.2 = 0) :
  refE (key, ad, [], []) = 0 ∧ s.length ≤ 65536 ∧ (sealV v key ad s).2.1.length = s.length + 16 ∧ Bs (sealV v key ad s).2.1 := by
 have hfw := fit_seal hf key ad s
 obtain ⟨b, xs⟩ := v
 cases b with
 | false =>
  simp only [sealV, cond_false] at he ⊢
  have h0 : sivE key ad = 0 ∧ s.length ≤ 65536 := by
   unfold sealR at he
   by_cases h : sivE key ad = 0
   ·rw [if_pos h] at he
    by_cases h' : s.length > 65536
    ·rw [if_pos h'] at he; exact absurd he (by decide)
    ·exact ⟨h, by omega⟩
   ·rw [if_neg h] at he; exact absurd he h
  have hr : sealR key ad s = (sealS key ad s, 0) := by unfold sealR; rw [if_pos h0.1, if_neg (by omega)]
  rw [hr]
  exact ⟨by rw [← refE_siv]; exact h0.1, h0.2, sealS_len _ _ _, sealS_B _ _ _⟩
 | true =>
  simp only [sealV, cond_true] at he hfw ⊢
  obtain ⟨h0, k, hk, e⟩ := seal_entry hf he
  obtain ⟨g1, g2⟩ := sealE_zero h0
  have ht := (fit_at hfw hk).1
  rw [e] at ht
  simp only at ht
  refine ⟨g1, g2, by rw [ht, txt_len], by rw [ht]; exact txt_B _ _⟩
theorem seal_open {v w : VV} {key : List Int} {ad : List (List Int)} {s : List Int} (hf : fitV v = true) (he : (sealV v key ad s).2.2 = 0) (hsb : Bs s) (x : Ext (sealV v key ad s).1 w) (hw : fitV w = true) :
  openV' w key ad (sealV v key ad s).2.1 = (s, 0) := by
 obtain ⟨g1, g2, _, _⟩ := seal_yes hf he
 obtain ⟨b, xs⟩ := v
 obtain ⟨b', ys⟩ := w
 obtain ⟨x1, l, x2⟩ := x
 cases b with
 | false =>
  simp only [sealV, cond_false] at he x1 x2 ⊢
  subst x1
  have h0 : sivE key ad = 0 := by rw [refE_siv]; exact g1
  have hr : sealR key ad s = (sealS key ad s, 0) := by unfold sealR; rw [if_pos h0, if_neg (by omega)]
  rw [hr]
  exact open_seal h0 g2 hsb
 | true =>
  simp only [sealV, cond_true] at he x1 x2 ⊢
  subst x1
  subst x2
  obtain ⟨h0, k, hk, e⟩ := seal_entry hf he
  have e' : rd k0 ((sealI xs key ad s).1 ++ l) (k : Int) = (key, ad, s, (sealI xs key ad s).2.1) := by rw [← e]; exact rd_app hk
  have := openI_of hw (k := k) (key := key) (ad := ad) (plain := s) (by simp; omega) (by rw [e']; exact alk_self _ _ _ _) g1 g2
  rw [e'] at this
  exact this
theorem open_entry {xs : List KK} {key : List Int} {ad : List (List Int)} {t : List Int} (h : (openI xs key ad t).2 = 0) :
  ∃ k, k < xs.length ∧ rd k0 xs (k : Int) = (key, ad, (openI xs key ad t).1, t) := by
 unfold openI at h ⊢
 by_cases h0 : refE (key, ad, [], []) = 0
 ·rw [if_pos h0] at h ⊢
  by_cases h1 : t.length < 16
  ·rw [if_pos h1] at h; exact absurd h (by decide)
  ·rw [if_neg h1] at h ⊢
   by_cases h2 : t.length > 65552
   ·rw [if_pos h2] at h; exact absurd h (by decide)
   ·rw [if_neg h2] at h ⊢
    cases hq : (List.range xs.length).find? (fun j : Nat => hit key ad t (rd k0 xs (j : Int))) with
    | none => rw [hq] at h; exact absurd h (show (17 : Int) ≠ 0 by decide)
    | some k =>
     have hh : hit key ad t (rd k0 xs (k : Int)) = true := by simpa using List.find?_some hq
     unfold hit at hh
     simp only [Bool.and_eq_true, decide_eq_true_eq] at hh
     obtain ⟨⟨a1, a2⟩, a3⟩ := hh
     refine ⟨k, List.mem_range.1 (List.mem_of_find?_eq_some hq), ?_⟩
     simp only
     rw [← a1, ← a2, ← a3]
 ·rw [if_neg h0] at h; exact absurd h h0
theorem open_yes {v : VV} {key : List Int} {ad : List (List Int)} {t : List Int} (hf : fitV v = true) (hb : vB v) (h : (openV' v key ad t).2 = 0) :
  refE (key, ad, [], []) = 0 ∧ (openV' v key ad t).1.length ≤ 65536 ∧ t.length = (openV' v key ad t).1.length + 16 ∧ Bs (openV' v key ad t).1 := by
 obtain ⟨b, xs⟩ := v
 cases b with
 | false =>
  simp only [openV', cond_false] at h ⊢
  unfold openR at h ⊢
  by_cases h0 : sivE key ad = 0
  ·rw [if_pos h0] at h ⊢
   by_cases h1 : t.length < 16
   ·rw [if_pos h1] at h; exact absurd h (by decide)
   ·rw [if_neg h1] at h ⊢
    by_cases h2 : t.length > 65552
    ·rw [if_pos h2] at h; exact absurd h (by decide)
    ·rw [if_neg h2] at h ⊢
     split at h
     ·rename_i q
      rw [if_pos q]
      have hl : (openS key t).length = t.length - 16 := by unfold openS; rw [strmS_len, List.length_drop]
      refine ⟨by rw [← refE_siv]; exact h0, by rw [hl]; omega, by rw [hl]; omega, ?_⟩
      unfold openS; exact strmS_B _ _ _
     ·exact absurd h (by decide)
  ·rw [if_neg h0] at h; exact absurd h h0
 | true =>
  simp only [openV', cond_true] at h ⊢
  obtain ⟨k, hk, e⟩ := open_entry h
  obtain ⟨f1, f2⟩ := fit_at hf hk
  rw [e] at f1 f2
  simp only at f1 f2
  refine ⟨?_, f2, (congrArg List.length f1).trans (txt_len _ _), ?_⟩
  ·unfold openI at h
   by_cases h0 : refE (key, ad, [], []) = 0
   ·exact h0
   ·rw [if_neg h0] at h; exact absurd h h0
  ·have := hb (rd k0 xs (k : Int)) (rd_mem (by omega) (by show (k : Int) < (xs.length : Int); omega))
   rw [e] at this
   exact this
theorem vB_seal {v : VV} (hb : vB v) {key : List Int} {ad : List (List Int)} {s : List Int} (hs : Bs s) : vB (sealV v key ad s).1 := by
 obtain ⟨b, xs⟩ := v
 cases b with
 | false => exact hb
 | true =>
  simp only [sealV, cond_true]
  rcases sealI_cases xs key ad s with ⟨_, h, _⟩ | ⟨_, _, _, _, h⟩ | ⟨_, _, _, h⟩
  ·rw [h]; exact hb
  ·rw [h]; exact hb
  ·rw [h]
   intro k hk
   rcases List.mem_append.1 hk with hk | hk
   ·exact hb k hk
   ·rw [List.mem_singleton.1 hk]; exact hs
theorem v_B {v : VV} (h : Ty.ok (.pair .bool (.lst (.pair .str (.pair (.lst .str) (.pair .str .str))))) v) : vB v := by
 obtain ⟨_, h1, h2⟩ := h
 intro k hk
 obtain ⟨a, ⟨b1, b2⟩, c, d⟩ := h2 k hk
 exact c.2
end Go.AM
end
section
namespace Go.AM
abbrev RK := Int × List Int × Int
abbrev r0 : RK := (0, ([], 0))
abbrev RR := List RK × Int
abbrev CK := Int × List Int × List Int
def keySz (a : Int) : Int := if a = 15 then 32 else if a = 17 then 64 else 0
theorem keysz_eq (a : Int) : nego_KeySize.run .lim (a, ()) = some (keySz a) := by
 simp only [nego_KeySize.run]
 unfold keySz
 by_cases h : a = 15
 ·rw [dec_t h, if_pos h]; rfl
 ·rw [dec_f h, if_neg h]
  by_cases h2 : a = 17
  ·rw [dec_t h2, if_pos h2]; rfl
  ·rw [dec_f h2, if_neg h2]; rfl
theorem rkeysz_eq (a : Int) : pendulumref19_KeySize.run .lim (a, ()) = some (keySz a) := by
 simp only [pendulumref19_KeySize.run]
 unfold keySz
 by_cases h : a = 15
 ·rw [dec_t h, if_pos h]; rfl
 ·rw [dec_f h, if_neg h]
  by_cases h2 : a = 17
  ·rw [dec_t h2, if_pos h2]; rfl
  ·rw [dec_f h2, if_neg h2]; rfl
def fitK (k : CK) : Bool := decide (keySz k.1 > 0) && decide ((k.2.1.length : Int) = keySz k.1) && decide ((k.2.2.length : Int) = keySz k.1)
structure KOk (k : CK) : Prop where
 a : k.2.1.length < lim63
 b : k.2.2.length < lim63
theorem cfit_eq {k : CK} (h : KOk k) : cook_Fit.run .lim (k, ()) = some (fitK k) := by
 have h1 : k.2.1.length < 9223372036854775808 := h.a
 have h2 : k.2.2.length < 9223372036854775808 := h.b
 simp only [cook_Fit.run, keysz_eq, Option.bind_some, smallN h1, smallN h2, Bool.or_true, cond_true]
 rfl
theorem rcfit_eq {k : CK} (h : KOk k) : pendulumref25_Fit.run .lim (k, ()) = some (fitK k) := by
 have h1 : k.2.1.length < 9223372036854775808 := h.a
 have h2 : k.2.2.length < 9223372036854775808 := h.b
 simp only [pendulumref25_Fit.run, rkeysz_eq, Option.bind_some, smallN h1, smallN h2, Bool.or_true, cond_true]
 rfl
theorem fitK_spec {k : CK} (h : fitK k = true) : (k.1 = 15 ∧ k.2.1.length = 32 ∧ k.2.2.length = 32) ∨ (k.1 = 17 ∧ k.2.1.length = 64 ∧ k.2.2.length = 64) := by
 unfold fitK keySz at h
 simp only [Bool.and_eq_true, decide_eq_true_eq] at h
 by_cases h1 : k.1 = 15
 ·rw [if_pos h1] at h; omega
 ·rw [if_neg h1] at h
  by_cases h2 : k.1 = 17
  ·rw [if_pos h2] at h; omega
  ·rw [if_neg h2] at h; omega
def plainS (k : CK) : List Int := [0, k.1, 0, 0] ++ k.2.1 ++ k.2.2
theorem plainS_len {k : CK} : (plainS k).length = 4 + k.2.1.length + k.2.2.length := by simp [plainS]; omega
theorem cplain_eq {k : CK} (h : fitK k = true) : cook_plain.run .lim (k, ()) = some (plainS k) := by
 have hs := fitK_spec h
 simp only [cook_plain.run]
 have e1 : IntKind.u8.wrap (ishr .i64 k.1 8) = 0 := by rcases hs with ⟨q, _⟩ | ⟨q, _⟩ <;> rw [q] <;> decide
 have e2 : IntKind.u8.wrap k.1 = k.1 := by rcases hs with ⟨q, _⟩ | ⟨q, _⟩ <;> rw [q] <;> decide
 rw [e1, e2, cond_pos (dec_t (by unfold maxStr; simp; omega)), cond_pos (dec_t (by unfold maxStr; simp; omega))]
 rfl
def idS (id : Int) : List Int := [IntKind.u8.wrap (ishr .u32 id 24), IntKind.u8.wrap (ishr .u32 id 16), IntKind.u8.wrap (ishr .u32 id 8), IntKind.u8.wrap id]
theorem idS_B (id : Int) : Bs (idS id) := fun x h => by
 simp only [idS, List.mem_cons, List.not_mem_nil, or_false] at h
 rcases h with rfl | rfl | rfl | rfl <;> exact wrapu8_B _
structure ROk (r : RR) : Prop where
 len : 1 ≤ r.1.length ∧ r.1.length ≤ 8
 key : ∀ k ∈ r.1, k.2.1.length = 32
 kb : ∀ k ∈ r.1, Bs k.2.1
def lastK (r : RR) : RK := rd r0 r.1 ((r.1.length - 1 : Nat) : Int)
theorem lastK_mem {r : RR} (h : ROk r) : lastK r ∈ r.1 := rd_mem (by omega) (by have := h.len.1; omega)
noncomputable def mkS (v : VV) (m : RK) (k : CK) (nonce : List Int) : VV × List Int × Int :=
 if fitK k = true then (if nonce.length = 16 then (
   if (sealV v m.2.1 [idS m.1, nonce] (plainS k)).2.2 = 0 then ((sealV v m.2.1 [idS m.1, nonce] (plainS k)).1, (idS m.1 ++ nonce) ++ (sealV v m.2.1 [idS m.1, nonce] (plainS k)).2.1, 0)
   else (v, [], (sealV v m.2.1 [idS m.1, nonce] (plainS k)).2.2)) else (v, [], 10)) else (v, [], 13)
theorem ctxts {m : RK} (hk : m.2.1.length = 32) (hkb : Bs m.2.1) {k : CK} (hf : fitK k = true) {nonce : List Int} (hn : nonce.length = 16) : Txts m.2.1 [idS m.1, nonce] (plainS k) := by
 have := fitK_spec hf
 refine ⟨lim_of (by omega), hkb, (show (2 : Nat) < lim63 by decide), fun t ht => ?_, lim_of (by rw [plainS_len]; omega)⟩
 simp only [List.mem_cons, List.not_mem_nil, or_false] at ht
 rcases ht with rfl | rfl
 ·exact (by decide : 4 < lim63)
 ·exact lim_of (by omega)
theorem seal_len {v : VV} (hf : fitV v = true) (key : List Int) (ad : List (List Int)) (s : List Int) : (sealV v key ad s).2.1.length ≤ 65552 := by
 by_cases he : (sealV v key ad s).2.2 = 0
 ·have := seal_yes hf he; omega
 ·rw [(seal_no he).2]; exact Nat.zero_le _
theorem join_ok {id : Int} {nonce s : List Int} (hn : nonce.length = 16) (hs : s.length < 9223372036854775000) : decide ((idS id).length + nonce.length ≤ maxStr) = true ∧ decide ((idS id ++ nonce).length + s.length ≤ maxStr) = true := by
 have : (idS id).length = 4 := rfl
 exact ⟨dec_t (by rw [this]; unfold maxStr; omega), dec_t (by rw [List.length_append, this]; unfold maxStr; omega)⟩
end Go.AM
end
section
namespace Go.AM
theorem last_w {r : RR} (h : ROk r) : IntKind.i64.wrap ((r.1.length : Int) - 1) = ((r.1.length - 1 : Nat) : Int) := by have := h.len; rw [wrap64 (by omega) (by omega)]; omega
theorem make_eq {v : VV} {r : RR} {k : CK} {nonce : List Int} (hv : okV v) (hf : fitV v = true) (hr : ROk r) (hk : KOk k) (hn : nonce.length < lim63) :
  cook_Make.run .lim (v, r, k, nonce, ()) = some ((mkS v (lastK r) k nonce).1, (mkS v (lastK r) k nonce).2.1, (mkS v (lastK r) k nonce).2.2, ()) := by
 have hn63 : nonce.length < 9223372036854775808 := hn
 have hl := hr.len
 have hm := lastK_mem hr
 unfold mkS
 simp only [cook_Make.run, smallN (show r.1.length < 9223372036854775808 by omega), last_w hr, inB_t (show (0 : Int) ≤ ((r.1.length - 1 : Nat) : Int) by omega) (show ((r.1.length - 1 : Nat) : Int) < (r.1.length : Int) by omega), cond_true, cfit_eq hk, Option.bind_some, smallN hn63]
 show _ = _
 change (bif !fitK k then _ else _) = _
 by_cases h1 : fitK k = true
 ·rw [h1, if_pos rfl]
  simp only [Bool.not_true, cond_false]
  by_cases h2 : nonce.length = 16
  ·rw [dec_t (show (nonce.length : Int) = 16 by omega), if_pos h2]
   have T := ctxts (hr.key _ hm) (hr.kb _ hm) h1 h2
   have hs := seal_eq hv hf T
   have hsl : (sealV v (lastK r).2.1 [idS (lastK r).1, nonce] (plainS k)).2.1.length < 9223372036854775000 := by
    have := seal_len hf (lastK r).2.1 [idS (lastK r).1, nonce] (plainS k)
    omega
   obtain ⟨j1, j2⟩ := join_ok (id := (lastK r).1) h2 hsl
   unfold lastK idS at *
   simp only [Bool.not_true, cond_false, cplain_eq h1, Option.bind_some, hs, j1, j2, cond_true]
   by_cases h3 : (sealV v (rd r0 r.1 ((r.1.length - 1 : Nat) : Int)).2.1 [[IntKind.u8.wrap (ishr .u32 (rd r0 r.1 ((r.1.length - 1 : Nat) : Int)).1 24), IntKind.u8.wrap (ishr .u32 (rd r0 r.1 ((r.1.length - 1 : Nat) : Int)).1 16), IntKind.u8.wrap (ishr .u32 (rd r0 r.1 ((r.1.length - 1 : Nat) : Int)).1 8), IntKind.u8.wrap (rd r0 r.1 ((r.1.length - 1 : Nat) : Int)).1], nonce] (plainS k)).2.2 = 0
   ·rw [dec_t h3, if_pos h3]; rfl
   ·rw [dec_f h3, if_neg h3]; rfl
  ·rw [dec_f (show ¬ (nonce.length : Int) = 16 by omega), if_neg h2]; rfl
 ·have h1' : fitK k = false := by simpa using h1
  rw [h1', if_neg (by decide)]; rfl
end Go.AM
end
section
namespace Go.AM
theorem wrapu32 (n : Int) : IntKind.u32.wrap n = n % 4294967296 := by
 unfold IntKind.wrap; simp [IntKind.signed, IntKind.bits]
theorem or_nat {w x y : Nat} (hx : x < 2 ^ w) (hy : y < 2 ^ w) : (BitVec.ofInt w (x : Int) ||| BitVec.ofInt w (y : Int)).toNat = x ||| y := by
 rw [BitVec.toNat_or, BitVec.toNat_ofInt, BitVec.toNat_ofInt]
 have e : ∀ z : Nat, z < 2 ^ w → ((z : Int) % ((2 ^ w : Nat) : Int)).toNat = z := fun z hz => by
  rw [← Int.natCast_emod, Int.toNat_natCast, Nat.mod_eq_of_lt hz]
 rw [e x hx, e y hy]
theorem or_add {a b m : Nat} (h : b < 2 ^ m) : 2 ^ m * a ||| b = 2 ^ m * a + b := (Nat.two_pow_add_eq_or_of_lt h a).symm
theorem ior32 {a b : Nat} (m : Nat) (h : b < 2 ^ m) (hm : 2 ^ m * a + b < 4294967296) : ior .u32 ((2 ^ m * a : Nat) : Int) (b : Int) = ((2 ^ m * a + b : Nat) : Int) := by
 show IntKind.u32.wrap ((BitVec.ofInt 32 ((2 ^ m * a : Nat) : Int) ||| BitVec.ofInt 32 (b : Int)).toNat : Int) = _
 rw [or_nat (Nat.lt_of_le_of_lt (Nat.le_add_right _ _) hm) (Nat.lt_of_le_of_lt (Nat.le_add_left _ _) hm), or_add h, wrapu32]
 omega
theorem ior64 {a b : Nat} (m : Nat) (h : b < 2 ^ m) (hm : 2 ^ m * a + b < 9223372036854775808) : ior .i64 ((2 ^ m * a : Nat) : Int) (b : Int) = ((2 ^ m * a + b : Nat) : Int) := by
 show IntKind.i64.wrap ((BitVec.ofInt 64 ((2 ^ m * a : Nat) : Int) ||| BitVec.ofInt 64 (b : Int)).toNat : Int) = _
 have h1 : 2 ^ m * a < 2 ^ 64 := Nat.lt_of_le_of_lt (Nat.le_add_right _ b) (Nat.lt_of_lt_of_le hm (by decide))
 have h2 : b < 2 ^ 64 := Nat.lt_of_le_of_lt (Nat.le_add_left _ (2 ^ m * a)) (Nat.lt_of_lt_of_le hm (by decide))
 rw [or_nat h1 h2, or_add h, wrap64 (by omega) (by omega)]
theorem b8_nat {a : Int} (h : B8 a) : ∃ n : Nat, a = (n : Int) ∧ n < 256 := ⟨a.toNat, by have := h.1; omega, by have := h.1; have := h.2; omega⟩
theorem num2 {a b : Int} (ha : B8 a) (hb : B8 b) : ior .i64 (ishl .i64 (IntKind.i64.wrap a) 8) (IntKind.i64.wrap b) = a * 256 + b := by
 obtain ⟨x, rfl, hx⟩ := b8_nat ha
 obtain ⟨y, rfl, hy⟩ := b8_nat hb
 rw [wrap64 (by omega) (by omega), wrap64 (by omega) (by omega)]
 have e : ishl .i64 (x : Int) 8 = ((2 ^ 8 * x : Nat) : Int) := by
  show IntKind.i64.wrap ((x : Int) * 2 ^ 8) = _
  rw [wrap64 (by omega) (by omega)]; omega
 rw [e, ior64 8 (by omega) (by omega)]
 omega
theorem shl32 {x : Nat} (hx : x < 256) (m : Nat) (hm : m ≤ 24) : ishl .u32 (x : Int) (m : Int) = ((2 ^ m * x : Nat) : Int) := by
 show IntKind.u32.wrap ((x : Int) * 2 ^ min ((m : Int).toNat) 32) = _
 rw [Int.toNat_natCast, Nat.min_eq_left (by omega), wrapu32]
 have h1 : 2 ^ m ≤ 2 ^ 24 := Nat.pow_le_pow_right (by decide) hm
 have h2 : 2 ^ m * x < 4294967296 := Nat.lt_of_le_of_lt (Nat.mul_le_mul h1 (Nat.le_of_lt_succ (show x < 255 + 1 by omega))) (by decide)
 rw [show (x : Int) * 2 ^ m = ((2 ^ m * x : Nat) : Int) by rw [Nat.mul_comm]; simp]
 omega
theorem num4 {a b c d : Int} (ha : B8 a) (hb : B8 b) (hc : B8 c) (hd : B8 d) :
  ior .u32 (ior .u32 (ior .u32 (ishl .u32 (IntKind.u32.wrap a) 24) (ishl .u32 (IntKind.u32.wrap b) 16)) (ishl .u32 (IntKind.u32.wrap c) 8)) (IntKind.u32.wrap d) = ((a * 256 + b) * 256 + c) * 256 + d := by
 obtain ⟨x, rfl, hx⟩ := b8_nat ha
 obtain ⟨y, rfl, hy⟩ := b8_nat hb
 obtain ⟨z, rfl, hz⟩ := b8_nat hc
 obtain ⟨t, rfl, ht⟩ := b8_nat hd
 have w : ∀ n : Nat, n < 256 → IntKind.u32.wrap (n : Int) = (n : Int) := fun n hn => by rw [wrapu32]; omega
 rw [w x hx, w y hy, w z hz, w t ht, show (24 : Int) = ((24 : Nat) : Int) from rfl, show (16 : Int) = ((16 : Nat) : Int) from rfl, show (8 : Int) = ((8 : Nat) : Int) from rfl,
  shl32 hx 24 (by decide), shl32 hy 16 (by decide), shl32 hz 8 (by decide), ior32 24 (by omega) (by omega),
  show ((2 ^ 24 * x + 2 ^ 16 * y : Nat) : Int) = ((2 ^ 16 * (256 * x + y) : Nat) : Int) by omega, ior32 16 (by omega) (by omega),
  show ((2 ^ 16 * (256 * x + y) + 2 ^ 8 * z : Nat) : Int) = ((2 ^ 8 * ((256 * x + y) * 256 + z) : Nat) : Int) by omega, ior32 8 (by omega) (by omega)]
 omega
theorem shr_div (x : Int) (k m : Nat) (K : IntKind) (hm : m ≤ K.bits) : ishr K x (m : Int) = x / 2 ^ m := by
 show x.fdiv (2 ^ min ((m : Int).toNat) K.bits) = _
 rw [Int.toNat_natCast, Nat.min_eq_left hm, Int.fdiv_eq_ediv_of_nonneg _ (by exact Int.le_of_lt (Int.pow_pos (by decide)))]
end Go.AM
end
section
namespace Go.AM
def findS (xs : List RK) (id : Int) : Int := match (List.range xs.length).find? (fun j : Nat => decide ((rd r0 xs (j : Int)).1 = id)) with
 | some k => (k : Int)
 | none => -1
theorem rgf_eq {r : RR} (id : Int) (h : r.1.length < lim63) : ring_Find.run .lim (r, id, ()) = some (findS r.1 id) := by
 have h63 : r.1.length < 9223372036854775808 := h
 have e := loop_first (f := ring_Find.l0 .lim) (fun j => (r.1, (r.1.length : Int), (j : Int), id, ())) r.1.length (fun j => decide ((rd r0 r.1 (j : Int)).1 = id)) (fun j => some (.inl ((j : Int), ()))) (fun k hk => by
  rw [ring_Find.q0]
  simp only [ring_Find.b0, dec_t (show (k : Int) < (r.1.length : Int) by omega), inB_t (show (0 : Int) ≤ (k : Int) by omega) (show (k : Int) < (r.1.length : Int) by omega), cond_true, wk k (by omega)])
 rw [show ((0 : Nat) : Int) = 0 from rfl] at e
 simp only [ring_Find.run, smallN h63, cond_true, e]
 unfold findS
 cases hq : (List.range r.1.length).find? (fun j : Nat => decide ((rd r0 r.1 (j : Int)).1 = id)) with
 | some k => rfl
 | none =>
  simp only
  rw [ring_Find.q0]
  simp only [ring_Find.b0, dec_f (show ¬ (r.1.length : Int) < (r.1.length : Int) by omega), cond_false, Option.bind_some]
theorem findS_spec {xs : List RK} {id : Int} : (findS xs id = -1 ∧ ∀ k, k < xs.length → (rd r0 xs (k : Int)).1 ≠ id) ∨ ∃ k, k < xs.length ∧ findS xs id = (k : Int) ∧ (rd r0 xs (k : Int)).1 = id ∧ ∀ j, j < k → (rd r0 xs (j : Int)).1 ≠ id := by
 unfold findS
 cases hq : (List.range xs.length).find? (fun j : Nat => decide ((rd r0 xs (j : Int)).1 = id)) with
 | some k =>
  obtain ⟨h1, h2, h3⟩ := List.find?_range_eq_some.1 hq
  exact .inr ⟨k, List.mem_range.1 h2, rfl, by simpa using h1, fun j hj => by simpa using h3 j hj⟩
 | none =>
  refine .inl ⟨rfl, fun k hk => ?_⟩
  have := List.find?_eq_none.1 hq k (List.mem_range.2 hk)
  simpa using this
def numS (s : List Int) : Int := ((rd 0 s 0 * 256 + rd 0 s 1) * 256 + rd 0 s 2) * 256 + rd 0 s 3
theorem bs_rd {s : List Int} (h : Bs s) {i : Int} (h1 : 0 ≤ i) (h2 : i < s.length) : B8 (rd 0 s i) := h _ (rd_mem h1 h2)
def kOf (p : List Int) : CK := (rd 0 p 0 * 256 + rd 0 p 1, cut p 4 ((2 + p.length / 2 : Nat) : Int), cut p ((2 + p.length / 2 : Nat) : Int) (p.length : Int))
def keysS (p : List Int) : CK × Int := if 4 ≤ p.length ∧ fitK (kOf p) = true ∧ plainS (kOf p) = p then (kOf p, 0) else ((0, ([], [])), 10)
noncomputable def openC (v : VV) (r : RR) (s : List Int) : CK × Int :=
 if s.length < 20 then ((0, ([], [])), 11) else
 if findS r.1 (numS s) < 0 then ((0, ([], [])), 19) else
 if (openV' v (rd r0 r.1 (findS r.1 (numS s))).2.1 [cut s 0 4, cut s 4 20] (cut s 20 (s.length : Int))).2 = 0 then
  keysS (openV' v (rd r0 r.1 (findS r.1 (numS s))).2.1 [cut s 0 4, cut s 4 20] (cut s 20 (s.length : Int))).1
 else ((0, ([], [])), (openV' v (rd r0 r.1 (findS r.1 (numS s))).2.1 [cut s 0 4, cut s 4 20] (cut s 20 (s.length : Int))).2)
theorem cutN_len {α : Type} {s : List α} {a b : Nat} (h1 : a ≤ b) (h2 : b ≤ s.length) : (cut s (a : Int) (b : Int)).length = b - a := by
 unfold cut; simp; omega
theorem cut_bs {s : List Int} (h : Bs s) (a b : Int) : Bs (cut s a b) := fun x hx => by
 unfold cut at hx
 exact h x (List.mem_of_mem_take (List.mem_of_mem_drop hx))
theorem okK_of {p : List Int} (h : p.length < lim63) (h4 : 4 ≤ p.length) : KOk (kOf p) := by
 have h' : p.length < 9223372036854775808 := h
 unfold kOf
 refine ⟨?_, ?_⟩
 ·show (cut p ((4 : Nat) : Int) ((2 + p.length / 2 : Nat) : Int)).length < lim63
  rw [cutN_len (by omega) (by omega)]; exact lim_of (by omega)
 ·show (cut p ((2 + p.length / 2 : Nat) : Int) (p.length : Int)).length < lim63
  rw [cutN_len (by omega) (by omega)]; exact lim_of (by omega)
theorem copen_eq {v : VV} {r : RR} {s : List Int} (hv : okV v) (hf : fitV v = true) (hb : vB v) (hr : ROk r) (hs : s.length < lim63) (hsb : Bs s) :
  cook_Open.run .lim (v, r, s, ()) = some ((openC v r s).1, (openC v r s).2, ()) := by
 have hs63 : s.length < 9223372036854775808 := hs
 have hl := hr.len
 unfold openC
 simp only [cook_Open.run, smallN hs63, cond_true]
 by_cases h1 : s.length < 20
 ·rw [dec_t (show (s.length : Int) < 20 by omega), if_pos h1]; rfl
 ·rw [dec_f (show ¬ (s.length : Int) < 20 by omega), if_neg h1]
  have hi : ∀ i : Int, 0 ≤ i → i < 4 → B8 (rd 0 s i) := fun i a b => bs_rd hsb a (by omega)
  have hn : ior .u32 (ior .u32 (ior .u32 (ishl .u32 (IntKind.u32.wrap (rd 0 s 0)) 24) (ishl .u32 (IntKind.u32.wrap (rd 0 s 1)) 16)) (ishl .u32 (IntKind.u32.wrap (rd 0 s 2)) 8)) (IntKind.u32.wrap (rd 0 s 3)) = numS s :=
   num4 (hi 0 (by omega) (by omega)) (hi 1 (by omega) (by omega)) (hi 2 (by omega) (by omega)) (hi 3 (by omega) (by omega))
  simp only [cond_false, inB_t (show (0 : Int) ≤ 0 by omega) (show (0 : Int) < (s.length : Int) by omega), inB_t (show (0 : Int) ≤ 1 by omega) (show (1 : Int) < (s.length : Int) by omega), inB_t (show (0 : Int) ≤ 2 by omega) (show (2 : Int) < (s.length : Int) by omega), inB_t (show (0 : Int) ≤ 3 by omega) (show (3 : Int) < (s.length : Int) by omega), cond_true, hn, rgf_eq (numS s) (show r.1.length < lim63 from lim_of (by omega)), Option.bind_some]
  rcases findS_spec (xs := r.1) (id := numS s) with ⟨e, _⟩ | ⟨k, hk, e, _, _⟩
  ·rw [e, dec_t (show (-1 : Int) < 0 by decide), if_pos (show (-1 : Int) < 0 by decide)]; rfl
  ·rw [e, dec_f (show ¬ (k : Int) < 0 by omega), if_neg (show ¬ (k : Int) < 0 by omega)]
   have hm : rd r0 r.1 (k : Int) ∈ r.1 := rd_mem (by omega) (by omega)
   have T : Txts (rd r0 r.1 (k : Int)).2.1 [cut s 0 4, cut s 4 20] (cut s 20 (s.length : Int)) := by
    have c1 : (cut s 0 4).length = 4 := cutN_len (a := 0) (b := 4) (by omega) (by omega)
    have c2 : (cut s 4 20).length = 16 := cutN_len (a := 4) (b := 20) (by omega) (by omega)
    have c3 : (cut s 20 (s.length : Int)).length = s.length - 20 := cutN_len (a := 20) (b := s.length) (by omega) (by omega)
    refine ⟨lim_of (by rw [hr.key _ hm]; omega), hr.kb _ hm, (show (2 : Nat) < lim63 by decide), fun t ht => ?_, lim_of (by omega)⟩
    simp only [List.mem_cons, List.not_mem_nil, or_false] at ht
    rcases ht with rfl | rfl
    ·exact lim_of (by omega)
    ·exact lim_of (by omega)
   simp only [cond_false, inB_t (show (0 : Int) ≤ (k : Int) by omega) (show (k : Int) < (r.1.length : Int) by omega), cutB_t (show (0 : Int) ≤ 0 by omega) (show (0 : Int) ≤ 4 by omega) (show (4 : Int) ≤ (s.length : Int) by omega),
    cutB_t (show (0 : Int) ≤ 4 by omega) (show (4 : Int) ≤ 20 by omega) (show (20 : Int) ≤ (s.length : Int) by omega), cutB_t (show (0 : Int) ≤ 20 by omega) (show (20 : Int) ≤ (s.length : Int) by omega) (show (s.length : Int) ≤ (s.length : Int) by omega), cond_true, openv_eq hv T (cut_bs hsb _ _), Option.bind_some]
   by_cases h0 : (openV' v (rd r0 r.1 (k : Int)).2.1 [cut s 0 4, cut s 4 20] (cut s 20 (s.length : Int))).2 = 0
   ·obtain ⟨_, y2, _, y4⟩ := open_yes hf hb h0
    rw [dec_t h0, if_pos h0]
    generalize (openV' v (rd r0 r.1 (k : Int)).2.1 [cut s 0 4, cut s 4 20] (cut s 20 (s.length : Int))).1 = p at y2 y4 ⊢
    unfold keysS
    simp only [Bool.not_true, cond_false, smallN (show p.length < 9223372036854775808 by omega), cond_true]
    by_cases h4 : p.length < 4
    ·rw [dec_t (show (p.length : Int) < 4 by omega), if_neg (by omega)]; rfl
    ·have hm2 : IntKind.i64.wrap (2 + IntKind.i64.wrap ((p.length : Int).tdiv 2)) = ((2 + p.length / 2 : Nat) : Int) := by
      rw [Int.tdiv_eq_ediv_of_nonneg (by omega), wrap64 (n := (p.length : Int) / 2) (by omega) (by omega), wrap64 (by omega) (by omega)]; omega
     have hn2 := num2 (bs_rd y4 (show (0 : Int) ≤ 0 by omega) (show (0 : Int) < (p.length : Int) by omega)) (bs_rd y4 (show (0 : Int) ≤ 1 by omega) (show (1 : Int) < (p.length : Int) by omega))
     have hko := okK_of (p := p) (lim_of (by omega)) (by omega)
     rw [dec_f (show ¬ (p.length : Int) < 4 by omega)]
     simp only [cond_false, inB_t (show (0 : Int) ≤ 0 by omega) (show (0 : Int) < (p.length : Int) by omega), inB_t (show (0 : Int) ≤ 1 by omega) (show (1 : Int) < (p.length : Int) by omega), cond_true, hm2, hn2,
      cutB_t (show (0 : Int) ≤ 4 by omega) (show (4 : Int) ≤ ((2 + p.length / 2 : Nat) : Int) by omega) (show ((2 + p.length / 2 : Nat) : Int) ≤ (p.length : Int) by omega),
      cutB_t (show (0 : Int) ≤ ((2 + p.length / 2 : Nat) : Int) by omega) (show ((2 + p.length / 2 : Nat) : Int) ≤ (p.length : Int) by omega) (show (p.length : Int) ≤ (p.length : Int) by omega)]
     change (cook_Fit.run .lim (kOf p, ())).bind _ = _
     rw [cfit_eq hko, Option.bind_some]
     by_cases hq : fitK (kOf p) = true
     ·have hpl := cplain_eq hq
      unfold kOf at hq hpl ⊢
      rw [hq]
      simp only [Bool.not_true, Bool.not_false, cond_true, hpl, Option.bind_some, Bool.false_or]
      by_cases hw : plainS (rd 0 p 0 * 256 + rd 0 p 1, cut p 4 ((2 + p.length / 2 : Nat) : Int), cut p ((2 + p.length / 2 : Nat) : Int) (p.length : Int)) = p
      ·rw [dec_t hw, if_pos ⟨by omega, by first | rfl | trivial, hw⟩]; rfl
      ·rw [dec_f hw, if_neg (fun z => hw z.2.2)]; rfl
     ·have hq' : fitK (kOf p) = false := by simpa using hq
      rw [if_neg (fun z => hq z.2.1)]
      rw [hq']
      rfl
   ·rw [dec_f h0, if_neg h0]; rfl
end Go.AM
end
section
namespace Go.AM
def badR (r : RR) (i : Nat) : Bool :=
 ((!decide ((rd r0 r.1 (i : Int)).2.1.length = 32)) || (!decide ((rd r0 r.1 (i : Int)).1 = (r.2 - ((r.1.length - i : Nat) : Int)) % 4294967296))) || (decide (0 < i) && decide ((rd r0 r.1 (i : Int)).2.2 < (rd r0 r.1 ((i - 1 : Nat) : Int)).2.2))
def fitR (r : RR) : Bool := decide (1 ≤ r.1.length ∧ r.1.length ≤ 8) && !((List.range r.1.length).any (badR r))
theorem fitr_eq {r : RR} (hl : r.1.length < lim63) (hk : ∀ k ∈ r.1, k.2.1.length < lim63) : pendulumref24_Fit.run .lim (r, ()) = some (fitR r) := by
 have hl63 : r.1.length < 9223372036854775808 := hl
 simp only [pendulumref24_Fit.run, smallN hl63, cond_true]
 unfold fitR
 by_cases h : 1 ≤ r.1.length ∧ r.1.length ≤ 8
 ·have hn : (decide ((r.1.length : Int) < 1) || decide ((r.1.length : Int) > 8)) = false := by
   rw [dec_f (show ¬ (r.1.length : Int) < 1 by omega), dec_f (show ¬ (r.1.length : Int) > 8 by omega)]; rfl
  have e := loop_any (f := pendulumref24_Fit.l0 .lim) (fun j => ((r.1.length : Int), (j : Int), r.1, r.2, ())) r.1.length (badR r) (some (.inl (false, ()))) (fun k hk' => by
   have hkl := hk _ (rd_mem (d := r0) (xs := r.1) (i := (k : Int)) (by omega) (by omega))
   have hkl63 : (rd r0 r.1 (k : Int)).2.1.length < 9223372036854775808 := hkl
   rw [pendulumref24_Fit.q0]
   have hw : IntKind.u32.wrap (r.2 - IntKind.u32.wrap (IntKind.i64.wrap ((r.1.length : Int) - (k : Int)))) = (r.2 - ((r.1.length - k : Nat) : Int)) % 4294967296 := by
    rw [wrap64 (by omega) (by omega), wrapu32, wrapu32]; omega
   have hd : decide (((rd r0 r.1 (k : Int)).2.1.length : Int) = 32) = decide ((rd r0 r.1 (k : Int)).2.1.length = 32) := by
    by_cases q : (rd r0 r.1 (k : Int)).2.1.length = 32
    ·rw [dec_t q, dec_t (by omega)]
    ·rw [dec_f q, dec_f (by omega)]
   simp only [pendulumref24_Fit.b0, dec_t (show (k : Int) < (r.1.length : Int) by omega), inB_t (show (0 : Int) ≤ (k : Int) by omega) (show (k : Int) < (r.1.length : Int) by omega), cond_true, smallN hkl63, hw, hd, wk k (by omega)]
   unfold badR
   by_cases h0 : 0 < k
   ·have w1 : IntKind.i64.wrap ((k : Int) - 1) = ((k - 1 : Nat) : Int) := by rw [wrap64 (by omega) (by omega)]; omega
    rw [w1, inB_t (show (0 : Int) ≤ ((k - 1 : Nat) : Int) by omega) (show ((k - 1 : Nat) : Int) < (r.1.length : Int) by omega), dec_t h0, dec_t (show (k : Int) > 0 by omega)]
    simp only [Bool.or_true, cond_true, Bool.true_and]
   ·rw [dec_f h0, dec_f (show ¬ (k : Int) > 0 by omega)]
    simp only [Bool.and_false, Bool.not_false, Bool.true_or, cond_true, Bool.false_and, Bool.or_false])
  rw [show ((0 : Nat) : Int) = 0 from rfl] at e
  rw [hn, dec_t h]
  simp only [cond_false, Bool.true_and, e]
  cases hb : (List.range r.1.length).any (badR r) with
  | true => rfl
  | false =>
   simp only [cond_false]
   rw [pendulumref24_Fit.q0]
   simp only [pendulumref24_Fit.b0, dec_f (show ¬ (r.1.length : Int) < (r.1.length : Int) by omega), cond_false, Option.bind_some, Bool.not_false]
 ·have hn : (decide ((r.1.length : Int) < 1) || decide ((r.1.length : Int) > 8)) = true := by
   by_cases q : r.1.length < 1
   ·rw [dec_t (show (r.1.length : Int) < 1 by omega)]; rfl
   ·rw [dec_t (show (r.1.length : Int) > 8 by omega), Bool.or_true]
  rw [hn, dec_f h]; rfl
theorem fitR_spec {r : RR} (h : fitR r = true) : (1 ≤ r.1.length ∧ r.1.length ≤ 8) ∧ ∀ i, i < r.1.length → (rd r0 r.1 (i : Int)).2.1.length = 32 ∧ (rd r0 r.1 (i : Int)).1 = (r.2 - ((r.1.length - i : Nat) : Int)) % 4294967296 ∧ (0 < i → (rd r0 r.1 ((i - 1 : Nat) : Int)).2.2 ≤ (rd r0 r.1 (i : Int)).2.2) := by
 unfold fitR at h
 simp only [Bool.and_eq_true, decide_eq_true_eq, Bool.not_eq_true', List.any_eq_false, List.mem_range] at h
 refine ⟨h.1, fun i hi => ?_⟩
 have := h.2 i hi
 unfold badR at this
 simp only [Bool.or_eq_true, Bool.not_eq_true', decide_eq_false_iff_not, Bool.and_eq_true, decide_eq_true_eq, not_or, not_and, Decidable.not_not] at this
 exact ⟨this.1.1, this.1.2, fun h0 => by have := this.2 h0; omega⟩
structure RB (r : RR) : Prop where
 l : r.1.length < lim63
 k : ∀ k ∈ r.1, k.2.1.length < lim63 ∧ Bs k.2.1
theorem rOk_of {r : RR} (h : fitR r = true) (b : RB r) : ROk r := by
 obtain ⟨h1, h2⟩ := fitR_spec h
 refine ⟨h1, fun k hk => ?_, fun k hk => (b.k k hk).2⟩
 obtain ⟨i, hi, e⟩ := List.getElem_of_mem hk
 have := (h2 i hi).1
 rw [rd_ix hi, e] at this
 exact this
theorem good_eq {v : VV} {r : RR} (hv : okV v) (b : RB r) : ∃ l, pendulumref22_Light.run .lim (v, ()) = some l ∧ pendulumlaw25_good.run .lim (v, r, ()) = some ((l && fitV v) && fitR r) := by
 obtain ⟨l, e⟩ := light_some v hv
 refine ⟨l, e, ?_⟩
 simp only [pendulumlaw25_good.run, e, Option.bind_some, rfit_eq v hv, fitr_eq b.l (fun k hk => (b.k k hk).1)]
 cases l <;> cases fitV v <;> rfl
end Go.AM
end
section
namespace Go.AM
theorem numS_id {id : Int} (h0 : 0 ≤ id) (h1 : id < 4294967296) (s : List Int) : numS (idS id ++ s) = id := by
 have e : ∀ m : Nat, m ≤ 32 → ishr .u32 id (m : Int) = id / 2 ^ m := fun m hm => shr_div id 0 m .u32 hm
 unfold numS
 have r : ∀ i : Nat, i < 4 → rd 0 (idS id ++ s) (i : Int) = rd 0 (idS id) (i : Int) := fun i hi => rd_app (by exact hi)
 rw [show (0 : Int) = ((0 : Nat) : Int) from rfl, show (1 : Int) = ((1 : Nat) : Int) from rfl, show (2 : Int) = ((2 : Nat) : Int) from rfl, show (3 : Int) = ((3 : Nat) : Int) from rfl,
  show rd ((0 : Nat) : Int) (idS id ++ s) ((0 : Nat) : Int) = _ from r 0 (by omega), show rd ((0 : Nat) : Int) (idS id ++ s) ((1 : Nat) : Int) = _ from r 1 (by omega), show rd ((0 : Nat) : Int) (idS id ++ s) ((2 : Nat) : Int) = _ from r 2 (by omega), show rd ((0 : Nat) : Int) (idS id ++ s) ((3 : Nat) : Int) = _ from r 3 (by omega)]
 show ((IntKind.u8.wrap (ishr .u32 id ((24 : Nat) : Int)) * 256 + IntKind.u8.wrap (ishr .u32 id ((16 : Nat) : Int))) * 256 + IntKind.u8.wrap (ishr .u32 id ((8 : Nat) : Int))) * 256 + IntKind.u8.wrap id = id
 rw [e 24 (by omega), e 16 (by omega), e 8 (by omega), wrapu8, wrapu8, wrapu8, wrapu8]
 omega
theorem cut3 {a b c : List Int} (ha : a.length = 4) (hb : b.length = 16) :
  cut ((a ++ b) ++ c) 0 4 = a ∧ cut ((a ++ b) ++ c) 4 20 = b ∧ cut ((a ++ b) ++ c) 20 ((((a ++ b) ++ c).length : Nat) : Int) = c := by
 unfold cut
 refine ⟨?_, ?_, ?_⟩
 ·show (((a ++ b) ++ c).take 4).drop 0 = a
  rw [List.drop_zero, List.append_assoc, List.take_append_of_le_length (by omega), List.take_of_length_le (by omega)]
 ·show (((a ++ b) ++ c).take 20).drop 4 = b
  rw [List.take_append_of_le_length (by simp; omega), List.take_of_length_le (by simp; omega), List.drop_append_of_le_length (by omega), List.drop_of_length_le (by omega), List.nil_append]
 ·rw [Int.toNat_natCast, List.take_of_length_le (Nat.le_refl _)]
  show ((a ++ b) ++ c).drop 20 = c
  rw [List.drop_append_of_le_length (by simp; omega), List.drop_of_length_le (by simp; omega), List.nil_append]
structure KB (k : CK) : Prop where
 a : Bs k.2.1
 b : Bs k.2.2
theorem plainS_B {k : CK} (hf : fitK k = true) (b : KB k) : Bs (plainS k) := fun x h => by
 have hs := fitK_spec hf
 unfold plainS at h
 rcases List.mem_append.1 h with h | h
 ·rcases List.mem_append.1 h with h | h
  ·simp only [List.mem_cons, List.not_mem_nil, or_false] at h
   rcases h with rfl | rfl | rfl | rfl
   ·exact ⟨by decide, by decide⟩
   ·rcases hs with ⟨q, _⟩ | ⟨q, _⟩ <;> rw [q] <;> exact ⟨by decide, by decide⟩
   ·exact ⟨by decide, by decide⟩
   ·exact ⟨by decide, by decide⟩
  ·exact b.a x h
 ·exact b.b x h
theorem kOf_plain {k : CK} (hf : fitK k = true) : kOf (plainS k) = k := by
 have hs := fitK_spec hf
 obtain ⟨a, x, y⟩ := k
 have hxy : x.length = y.length := by rcases hs with ⟨_, p, q⟩ | ⟨_, p, q⟩ <;> exact p.trans q.symm
 have hl : (plainS (a, x, y)).length = 4 + x.length + x.length := by rw [plainS_len]; simp only; omega
 unfold kOf
 rw [hl, show 2 + (4 + x.length + x.length) / 2 = 4 + x.length by omega]
 refine Prod.ext ?_ (Prod.ext ?_ ?_)
 ·show (0 : Int) * 256 + a = a
  omega
 ·show ((([0, a, 0, 0] ++ x) ++ y).take (((4 + x.length : Nat) : Int)).toNat).drop 4 = x
  rw [Int.toNat_natCast, List.take_append_of_le_length (by simp; omega), List.take_of_length_le (by simp; omega)]
  rfl
 ·show ((([0, a, 0, 0] ++ x) ++ y).take (((4 + x.length + x.length : Nat) : Int)).toNat).drop (((4 + x.length : Nat) : Int)).toNat = y
  rw [Int.toNat_natCast, Int.toNat_natCast, List.take_of_length_le (by simp; omega), List.drop_append_of_le_length (by simp; omega), List.drop_of_length_le (by simp; omega), List.nil_append]
theorem keysS_plain {k : CK} (hf : fitK k = true) : keysS (plainS k) = (k, 0) := by
 unfold keysS
 rw [kOf_plain hf, if_pos ⟨by rw [plainS_len]; omega, hf, rfl⟩]
theorem mkS_zero {v : VV} {m : RK} {k : CK} {nonce : List Int} (h : (mkS v m k nonce).2.2 = 0) :
  fitK k = true ∧ nonce.length = 16 ∧ (sealV v m.2.1 [idS m.1, nonce] (plainS k)).2.2 = 0 ∧ mkS v m k nonce = ((sealV v m.2.1 [idS m.1, nonce] (plainS k)).1, (idS m.1 ++ nonce) ++ (sealV v m.2.1 [idS m.1, nonce] (plainS k)).2.1, 0) := by
 unfold mkS at h ⊢
 by_cases h1 : fitK k = true
 ·rw [if_pos h1] at h ⊢
  by_cases h2 : nonce.length = 16
  ·rw [if_pos h2] at h ⊢
   by_cases h3 : (sealV v m.2.1 [idS m.1, nonce] (plainS k)).2.2 = 0
   ·rw [if_pos h3]; exact ⟨h1, h2, h3, rfl⟩
   ·rw [if_neg h3] at h; exact absurd h h3
  ·rw [if_neg h2] at h; exact absurd h (show (10 : Int) ≠ 0 by decide)
 ·rw [if_neg h1] at h; exact absurd h (show (13 : Int) ≠ 0 by decide)
theorem mkS_no {v : VV} {m : RK} {k : CK} {nonce : List Int} (h : (mkS v m k nonce).2.2 ≠ 0) : (mkS v m k nonce).1 = v ∧ (mkS v m k nonce).2.1 = [] := by
 unfold mkS at h ⊢
 by_cases h1 : fitK k = true
 ·rw [if_pos h1] at h ⊢
  by_cases h2 : nonce.length = 16
  ·rw [if_pos h2] at h ⊢
   by_cases h3 : (sealV v m.2.1 [idS m.1, nonce] (plainS k)).2.2 = 0
   ·rw [if_pos h3] at h; exact absurd rfl h
   ·rw [if_neg h3]; exact ⟨rfl, rfl⟩
  ·rw [if_neg h2]; exact ⟨rfl, rfl⟩
 ·rw [if_neg h1]; exact ⟨rfl, rfl⟩
theorem mkS_len {v : VV} {m : RK} {k : CK} {nonce : List Int} (hf : fitV v = true) (h : (mkS v m k nonce).2.2 = 0) : (mkS v m k nonce).2.1.length = 40 + k.2.1.length + k.2.2.length := by
 obtain ⟨h1, h2, h3, e⟩ := mkS_zero h
 rw [e]
 have := (seal_yes hf h3).2.2.1
 simp only [List.length_append, this, plainS_len, h2]
 have : (idS m.1).length = 4 := rfl
 omega
theorem mkS_B {v : VV} {m : RK} {k : CK} {nonce : List Int} (hf : fitV v = true) (hn : Bs nonce) (h : (mkS v m k nonce).2.2 = 0) : Bs (mkS v m k nonce).2.1 := by
 obtain ⟨h1, h2, h3, e⟩ := mkS_zero h
 rw [e]
 intro x hx
 rcases List.mem_append.1 hx with hx | hx
 ·rcases List.mem_append.1 hx with hx | hx
  ·exact idS_B _ x hx
  ·exact hn x hx
 ·exact (seal_yes hf h3).2.2.2 x hx
theorem openC_made {v w : VV} {m : RK} {k : CK} {nonce : List Int} {r : RR} {i : Nat} (hf : fitV v = true) (h : (mkS v m k nonce).2.2 = 0) (kb : KB k) (h0 : 0 ≤ m.1) (h1 : m.1 < 4294967296)
  (x : Ext (mkS v m k nonce).1 w) (hw : fitV w = true) (hi : findS r.1 m.1 = (i : Int)) (hm : (rd r0 r.1 (i : Int)).2.1 = m.2.1) : openC w r (mkS v m k nonce).2.1 = (k, 0) := by
 have hl := mkS_len hf h
 obtain ⟨g1, g2, g3, e⟩ := mkS_zero h
 rw [e] at x hl ⊢
 simp only at x hl ⊢
 have hso := seal_open hf g3 (plainS_B g1 kb) x hw
 generalize (sealV v m.2.1 [idS m.1, nonce] (plainS k)).2.1 = t at hl hso ⊢
 obtain ⟨c1, c2, c3⟩ := cut3 (a := idS m.1) (b := nonce) (c := t) rfl g2
 have hn : numS ((idS m.1 ++ nonce) ++ t) = m.1 := by rw [List.append_assoc]; exact numS_id h0 h1 _
 unfold openC
 rw [if_neg (by omega), hn, hi, if_neg (by omega), hm, c1, c2, c3, hso, if_pos rfl]
 exact keysS_plain g1
end Go.AM
end
section
set_option maxRecDepth 100000
namespace Go.AM
abbrev awA_k : List Int := [107, 107, 107, 107, 107, 107, 107, 107, 107, 107, 107, 107, 107, 107, 107, 107]
theorem awA_l0 : encS awA_k z16 = [149, 35, 162, 94, 91, 120, 42, 85, 225, 107, 199, 167, 192, 89, 27, 127] := by decide +kernel
theorem awA_k1 : k1S awA_k = [42, 71, 68, 188, 182, 240, 84, 171, 194, 215, 143, 79, 128, 178, 54, 121] := (congrArg twS awA_l0).trans (by decide +kernel)
abbrev awA_c0s : List Int := [0, 0, 0, 0, 0, 0, 0, 0, 0, 0, 0, 0, 0, 0, 0, 0]
theorem awA_c0_0 : cmN awA_k awA_c0s 0 = [0, 0, 0, 0, 0, 0, 0, 0, 0, 0, 0, 0, 0, 0, 0, 0] := rfl
theorem awA_c0_l : lastS awA_k (awA_c0s.drop (16 * 0)) = [42, 71, 68, 188, 182, 240, 84, 171, 194, 215, 143, 79, 128, 178, 54, 121] := by unfold lastS; rw [if_pos (by decide), awA_k1]; decide +kernel
theorem awA_c0 : cmS awA_k awA_c0s = [138, 17, 135, 69, 125, 68, 78, 155, 36, 236, 23, 96, 235, 236, 220, 208] := by
 have e : cmS awA_k awA_c0s = encS awA_k (xorL (cmN awA_k awA_c0s 0) (lastS awA_k (awA_c0s.drop (16 * 0)))) := rfl
 rw [e, awA_c0_0, awA_c0_l, show xorL [0, 0, 0, 0, 0, 0, 0, 0, 0, 0, 0, 0, 0, 0, 0, 0] [42, 71, 68, 188, 182, 240, 84, 171, 194, 215, 143, 79, 128, 178, 54, 121] = [42, 71, 68, 188, 182, 240, 84, 171, 194, 215, 143, 79, 128, 178, 54, 121] by decide +kernel]; decide +kernel
abbrev awA_t : List (List Int) := [[0, 0, 0, 1], [110, 110, 110, 110, 110, 110, 110, 110, 110, 110, 110, 110, 110, 110, 110, 110], [0, 15, 0, 0, 107, 107, 107, 107, 107, 107, 107, 107, 107, 107, 107, 107, 107, 107, 107, 107, 107, 107, 107, 107, 107, 107, 107, 107, 107, 107, 107, 107, 107, 107, 107, 107, 107, 107, 107, 107, 107, 107, 107, 107, 107, 107, 107, 107, 107, 107, 107, 107, 107, 107, 107, 107, 107, 107, 107, 107, 107, 107, 107, 107, 107, 107, 107, 107]]
theorem awA_d0 : s2N awA_k awA_t 0 = [138, 17, 135, 69, 125, 68, 78, 155, 36, 236, 23, 96, 235, 236, 220, 208] := awA_c0
abbrev awA_c1s : List Int := [0, 0, 0, 1]
theorem awA_c1_0 : cmN awA_k awA_c1s 0 = [0, 0, 0, 0, 0, 0, 0, 0, 0, 0, 0, 0, 0, 0, 0, 0] := rfl
theorem awA_c1_l : lastS awA_k (awA_c1s.drop (16 * 0)) = [84, 142, 137, 120, 237, 224, 169, 87, 133, 175, 30, 159, 1, 100, 108, 242] := by unfold lastS; rw [if_neg (by decide), awA_k1]; decide +kernel
theorem awA_c1 : cmS awA_k awA_c1s = [138, 195, 108, 129, 163, 29, 209, 70, 191, 139, 122, 235, 137, 230, 129, 187] := by
 have e : cmS awA_k awA_c1s = encS awA_k (xorL (cmN awA_k awA_c1s 0) (lastS awA_k (awA_c1s.drop (16 * 0)))) := rfl
 rw [e, awA_c1_0, awA_c1_l, show xorL [0, 0, 0, 0, 0, 0, 0, 0, 0, 0, 0, 0, 0, 0, 0, 0] [84, 142, 137, 120, 237, 224, 169, 87, 133, 175, 30, 159, 1, 100, 108, 242] = [84, 142, 137, 120, 237, 224, 169, 87, 133, 175, 30, 159, 1, 100, 108, 242] by decide +kernel]; decide +kernel
theorem awA_d1 : s2N awA_k awA_t 1 = [158, 224, 98, 11, 89, 149, 76, 112, 246, 83, 84, 42, 94, 63, 56, 156] := by
 have e : s2N awA_k awA_t 1 = xorL (twS (s2N awA_k awA_t 0)) (cmS awA_k awA_c1s) := rfl
 rw [e, awA_d0, awA_c1]; decide +kernel
abbrev awA_c2s : List Int := [110, 110, 110, 110, 110, 110, 110, 110, 110, 110, 110, 110, 110, 110, 110, 110]
theorem awA_c2_0 : cmN awA_k awA_c2s 0 = [0, 0, 0, 0, 0, 0, 0, 0, 0, 0, 0, 0, 0, 0, 0, 0] := rfl
theorem awA_c2_l : lastS awA_k (awA_c2s.drop (16 * 0)) = [68, 41, 42, 210, 216, 158, 58, 197, 172, 185, 225, 33, 238, 220, 88, 23] := by unfold lastS; rw [if_pos (by decide), awA_k1]; decide +kernel
theorem awA_c2 : cmS awA_k awA_c2s = [206, 198, 234, 8, 192, 39, 116, 124, 62, 87, 143, 239, 202, 29, 86, 93] := by
 have e : cmS awA_k awA_c2s = encS awA_k (xorL (cmN awA_k awA_c2s 0) (lastS awA_k (awA_c2s.drop (16 * 0)))) := rfl
 rw [e, awA_c2_0, awA_c2_l, show xorL [0, 0, 0, 0, 0, 0, 0, 0, 0, 0, 0, 0, 0, 0, 0, 0] [68, 41, 42, 210, 216, 158, 58, 197, 172, 185, 225, 33, 238, 220, 88, 23] = [68, 41, 42, 210, 216, 158, 58, 197, 172, 185, 225, 33, 238, 220, 88, 23] by decide +kernel]; decide +kernel
theorem awA_d2 : s2N awA_k awA_t 2 = [243, 6, 46, 30, 115, 13, 236, 157, 210, 241, 39, 187, 118, 99, 39, 226] := by
 have e : s2N awA_k awA_t 2 = xorL (twS (s2N awA_k awA_t 1)) (cmS awA_k awA_c2s) := rfl
 rw [e, awA_d1, awA_c2]; decide +kernel
abbrev awA_p : List Int := [0, 15, 0, 0, 107, 107, 107, 107, 107, 107, 107, 107, 107, 107, 107, 107, 107, 107, 107, 107, 107, 107, 107, 107, 107, 107, 107, 107, 107, 107, 107, 107, 107, 107, 107, 107, 107, 107, 107, 107, 107, 107, 107, 107, 107, 107, 107, 107, 107, 107, 107, 107, 107, 107, 107, 107, 107, 107, 107, 107, 107, 107, 107, 107, 107, 107, 107, 107]
abbrev awA_c3s : List Int := [0, 15, 0, 0, 107, 107, 107, 107, 107, 107, 107, 107, 107, 107, 107, 107, 107, 107, 107, 107, 107, 107, 107, 107, 107, 107, 107, 107, 107, 107, 107, 107, 107, 107, 107, 107, 107, 107, 107, 107, 107, 107, 107, 107, 107, 107, 107, 107, 107, 107, 107, 107, 152, 109, 69, 117, 24, 102, 135, 246, 185, 154, 76, 208, 29, 8, 76, 137]
theorem awA_c3_0 : cmN awA_k awA_c3s 0 = [0, 0, 0, 0, 0, 0, 0, 0, 0, 0, 0, 0, 0, 0, 0, 0] := rfl
theorem awA_c3_1 : cmN awA_k awA_c3s 1 = [237, 252, 222, 43, 234, 129, 196, 84, 104, 185, 72, 200, 135, 100, 28, 140] := ((congrArg (fun z => encS awA_k (xorL z ((awA_c3s.drop (16 * 0)).take 16))) awA_c3_0).trans (congrArg (encS awA_k) (show xorL [0, 0, 0, 0, 0, 0, 0, 0, 0, 0, 0, 0, 0, 0, 0, 0] ((awA_c3s.drop (16 * 0)).take 16) = [0, 15, 0, 0, 107, 107, 107, 107, 107, 107, 107, 107, 107, 107, 107, 107] by decide +kernel))).trans (by decide +kernel)
theorem awA_c3_2 : cmN awA_k awA_c3s 2 = [15, 74, 185, 170, 115, 72, 77, 106, 3, 210, 97, 112, 159, 55, 145, 201] := ((congrArg (fun z => encS awA_k (xorL z ((awA_c3s.drop (16 * 1)).take 16))) awA_c3_1).trans (congrArg (encS awA_k) (show xorL [237, 252, 222, 43, 234, 129, 196, 84, 104, 185, 72, 200, 135, 100, 28, 140] ((awA_c3s.drop (16 * 1)).take 16) = [134, 151, 181, 64, 129, 234, 175, 63, 3, 210, 35, 163, 236, 15, 119, 231] by decide +kernel))).trans (by decide +kernel)
theorem awA_c3_3 : cmN awA_k awA_c3s 3 = [25, 73, 150, 14, 186, 141, 82, 198, 127, 204, 68, 215, 62, 202, 17, 250] := ((congrArg (fun z => encS awA_k (xorL z ((awA_c3s.drop (16 * 2)).take 16))) awA_c3_2).trans (congrArg (encS awA_k) (show xorL [15, 74, 185, 170, 115, 72, 77, 106, 3, 210, 97, 112, 159, 55, 145, 201] ((awA_c3s.drop (16 * 2)).take 16) = [100, 33, 210, 193, 24, 35, 38, 1, 104, 185, 10, 27, 244, 92, 250, 162] by decide +kernel))).trans (by decide +kernel)
theorem awA_c3_4 : cmN awA_k awA_c3s 4 = [201, 138, 180, 254, 153, 244, 140, 92, 61, 250, 45, 25, 1, 58, 124, 82] := ((congrArg (fun z => encS awA_k (xorL z ((awA_c3s.drop (16 * 3)).take 16))) awA_c3_3).trans (congrArg (encS awA_k) (show xorL [25, 73, 150, 14, 186, 141, 82, 198, 127, 204, 68, 215, 62, 202, 17, 250] ((awA_c3s.drop (16 * 3)).take 16) = [114, 34, 253, 101, 34, 224, 23, 179, 103, 170, 195, 33, 135, 80, 93, 42] by decide +kernel))).trans (by decide +kernel)
theorem awA_c3_l : lastS awA_k (awA_c3s.drop (16 * 4)) = [73, 134, 197, 240, 237, 224, 169, 87, 133, 175, 30, 159, 1, 100, 108, 242] := by unfold lastS; rw [if_neg (by decide), awA_k1]; decide +kernel
theorem awA_c3 : cmS awA_k awA_c3s = [237, 24, 204, 249, 72, 101, 100, 19, 229, 25, 69, 137, 189, 215, 0, 28] := by
 have e : cmS awA_k awA_c3s = encS awA_k (xorL (cmN awA_k awA_c3s 4) (lastS awA_k (awA_c3s.drop (16 * 4)))) := rfl
 rw [e, awA_c3_4, awA_c3_l, show xorL [201, 138, 180, 254, 153, 244, 140, 92, 61, 250, 45, 25, 1, 58, 124, 82] [73, 134, 197, 240, 237, 224, 169, 87, 133, 175, 30, 159, 1, 100, 108, 242] = [128, 12, 113, 14, 116, 20, 37, 11, 184, 85, 51, 134, 0, 94, 16, 160] by decide +kernel]; decide +kernel
theorem awA_h : awA_p.take (awA_p.length - 16) ++ xorL (awA_p.drop (awA_p.length - 16)) [243, 6, 46, 30, 115, 13, 236, 157, 210, 241, 39, 187, 118, 99, 39, 226] = awA_c3s := by decide +kernel
theorem awA_s : s2S awA_k awA_t = [237, 24, 204, 249, 72, 101, 100, 19, 229, 25, 69, 137, 189, 215, 0, 28] := by
 have e : s2S awA_k awA_t = s2E awA_k (s2N awA_k awA_t 2) awA_p := rfl
 rw [e, awA_d2]
 exact (if_neg (by decide)).trans ((congrArg (cmS awA_k) awA_h).trans awA_c3)
abbrev awB_k : List Int := [108, 107, 107, 107, 107, 107, 107, 107, 107, 107, 107, 107, 107, 107, 107, 107]
theorem awB_l0 : encS awB_k z16 = [72, 105, 80, 207, 204, 188, 69, 105, 107, 206, 137, 110, 83, 155, 121, 119] := by decide +kernel
theorem awB_k1 : k1S awB_k = [144, 210, 161, 159, 153, 120, 138, 210, 215, 157, 18, 220, 167, 54, 242, 238] := (congrArg twS awB_l0).trans (by decide +kernel)
abbrev awB_c0s : List Int := [0, 0, 0, 0, 0, 0, 0, 0, 0, 0, 0, 0, 0, 0, 0, 0]
theorem awB_c0_0 : cmN awB_k awB_c0s 0 = [0, 0, 0, 0, 0, 0, 0, 0, 0, 0, 0, 0, 0, 0, 0, 0] := rfl
theorem awB_c0_l : lastS awB_k (awB_c0s.drop (16 * 0)) = [144, 210, 161, 159, 153, 120, 138, 210, 215, 157, 18, 220, 167, 54, 242, 238] := by unfold lastS; rw [if_pos (by decide), awB_k1]; decide +kernel
theorem awB_c0 : cmS awB_k awB_c0s = [83, 155, 82, 208, 64, 112, 161, 159, 6, 65, 170, 3, 137, 167, 52, 73] := by
 have e : cmS awB_k awB_c0s = encS awB_k (xorL (cmN awB_k awB_c0s 0) (lastS awB_k (awB_c0s.drop (16 * 0)))) := rfl
 rw [e, awB_c0_0, awB_c0_l, show xorL [0, 0, 0, 0, 0, 0, 0, 0, 0, 0, 0, 0, 0, 0, 0, 0] [144, 210, 161, 159, 153, 120, 138, 210, 215, 157, 18, 220, 167, 54, 242, 238] = [144, 210, 161, 159, 153, 120, 138, 210, 215, 157, 18, 220, 167, 54, 242, 238] by decide +kernel]; decide +kernel
abbrev awB_t : List (List Int) := [[0, 0, 0, 1], [110, 110, 110, 110, 110, 110, 110, 110, 110, 110, 110, 110, 110, 110, 110, 110], [0, 15, 0, 0, 107, 107, 107, 107, 107, 107, 107, 107, 107, 107, 107, 107, 107, 107, 107, 107, 107, 107, 107, 107, 107, 107, 107, 107, 107, 107, 107, 107, 107, 107, 107, 107, 107, 107, 107, 107, 107, 107, 107, 107, 107, 107, 107, 107, 107, 107, 107, 107, 107, 107, 107, 107, 107, 107, 107, 107, 107, 107, 107, 107, 107, 107, 107, 107]]
theorem awB_d0 : s2N awB_k awB_t 0 = [83, 155, 82, 208, 64, 112, 161, 159, 6, 65, 170, 3, 137, 167, 52, 73] := awB_c0
abbrev awB_c1s : List Int := [0, 0, 0, 1]
theorem awB_c1_0 : cmN awB_k awB_c1s 0 = [0, 0, 0, 0, 0, 0, 0, 0, 0, 0, 0, 0, 0, 0, 0, 0] := rfl
theorem awB_c1_l : lastS awB_k (awB_c1s.drop (16 * 0)) = [33, 165, 67, 62, 178, 241, 21, 165, 175, 58, 37, 185, 78, 109, 229, 91] := by unfold lastS; rw [if_neg (by decide), awB_k1]; decide +kernel
theorem awB_c1 : cmS awB_k awB_c1s = [186, 74, 146, 129, 101, 158, 113, 198, 186, 225, 48, 82, 12, 109, 54, 203] := by
 have e : cmS awB_k awB_c1s = encS awB_k (xorL (cmN awB_k awB_c1s 0) (lastS awB_k (awB_c1s.drop (16 * 0)))) := rfl
 rw [e, awB_c1_0, awB_c1_l, show xorL [0, 0, 0, 0, 0, 0, 0, 0, 0, 0, 0, 0, 0, 0, 0, 0] [33, 165, 67, 62, 178, 241, 21, 165, 175, 58, 37, 185, 78, 109, 229, 91] = [33, 165, 67, 62, 178, 241, 21, 165, 175, 58, 37, 185, 78, 109, 229, 91] by decide +kernel]; decide +kernel
theorem awB_d1 : s2N awB_k awB_t 1 = [29, 124, 55, 33, 229, 127, 50, 248, 182, 98, 100, 85, 31, 35, 94, 89] := by
 have e : s2N awB_k awB_t 1 = xorL (twS (s2N awB_k awB_t 0)) (cmS awB_k awB_c1s) := rfl
 rw [e, awB_d0, awB_c1]; decide +kernel
abbrev awB_c2s : List Int := [110, 110, 110, 110, 110, 110, 110, 110, 110, 110, 110, 110, 110, 110, 110, 110]
theorem awB_c2_0 : cmN awB_k awB_c2s 0 = [0, 0, 0, 0, 0, 0, 0, 0, 0, 0, 0, 0, 0, 0, 0, 0] := rfl
theorem awB_c2_l : lastS awB_k (awB_c2s.drop (16 * 0)) = [254, 188, 207, 241, 247, 22, 228, 188, 185, 243, 124, 178, 201, 88, 156, 128] := by unfold lastS; rw [if_pos (by decide), awB_k1]; decide +kernel
theorem awB_c2 : cmS awB_k awB_c2s = [62, 16, 34, 141, 230, 109, 25, 97, 83, 24, 54, 47, 127, 95, 170, 147] := by
 have e : cmS awB_k awB_c2s = encS awB_k (xorL (cmN awB_k awB_c2s 0) (lastS awB_k (awB_c2s.drop (16 * 0)))) := rfl
 rw [e, awB_c2_0, awB_c2_l, show xorL [0, 0, 0, 0, 0, 0, 0, 0, 0, 0, 0, 0, 0, 0, 0, 0] [254, 188, 207, 241, 247, 22, 228, 188, 185, 243, 124, 178, 201, 88, 156, 128] = [254, 188, 207, 241, 247, 22, 228, 188, 185, 243, 124, 178, 201, 88, 156, 128] by decide +kernel]; decide +kernel
theorem awB_d2 : s2N awB_k awB_t 2 = [4, 232, 76, 206, 44, 147, 124, 144, 63, 220, 254, 133, 65, 25, 22, 33] := by
 have e : s2N awB_k awB_t 2 = xorL (twS (s2N awB_k awB_t 1)) (cmS awB_k awB_c2s) := rfl
 rw [e, awB_d1, awB_c2]; decide +kernel
abbrev awB_p : List Int := [0, 15, 0, 0, 107, 107, 107, 107, 107, 107, 107, 107, 107, 107, 107, 107, 107, 107, 107, 107, 107, 107, 107, 107, 107, 107, 107, 107, 107, 107, 107, 107, 107, 107, 107, 107, 107, 107, 107, 107, 107, 107, 107, 107, 107, 107, 107, 107, 107, 107, 107, 107, 107, 107, 107, 107, 107, 107, 107, 107, 107, 107, 107, 107, 107, 107, 107, 107]
abbrev awB_c3s : List Int := [0, 15, 0, 0, 107, 107, 107, 107, 107, 107, 107, 107, 107, 107, 107, 107, 107, 107, 107, 107, 107, 107, 107, 107, 107, 107, 107, 107, 107, 107, 107, 107, 107, 107, 107, 107, 107, 107, 107, 107, 107, 107, 107, 107, 107, 107, 107, 107, 107, 107, 107, 107, 111, 131, 39, 165, 71, 248, 23, 251, 84, 183, 149, 238, 42, 114, 125, 74]
theorem awB_c3_0 : cmN awB_k awB_c3s 0 = [0, 0, 0, 0, 0, 0, 0, 0, 0, 0, 0, 0, 0, 0, 0, 0] := rfl
theorem awB_c3_1 : cmN awB_k awB_c3s 1 = [186, 192, 1, 116, 217, 248, 2, 132, 155, 5, 41, 217, 17, 190, 103, 160] := ((congrArg (fun z => encS awB_k (xorL z ((awB_c3s.drop (16 * 0)).take 16))) awB_c3_0).trans (congrArg (encS awB_k) (show xorL [0, 0, 0, 0, 0, 0, 0, 0, 0, 0, 0, 0, 0, 0, 0, 0] ((awB_c3s.drop (16 * 0)).take 16) = [0, 15, 0, 0, 107, 107, 107, 107, 107, 107, 107, 107, 107, 107, 107, 107] by decide +kernel))).trans (by decide +kernel)
theorem awB_c3_2 : cmN awB_k awB_c3s 2 = [54, 102, 177, 18, 120, 116, 129, 51, 112, 21, 233, 231, 46, 192, 161, 237] := ((congrArg (fun z => encS awB_k (xorL z ((awB_c3s.drop (16 * 1)).take 16))) awB_c3_1).trans (congrArg (encS awB_k) (show xorL [186, 192, 1, 116, 217, 248, 2, 132, 155, 5, 41, 217, 17, 190, 103, 160] ((awB_c3s.drop (16 * 1)).take 16) = [209, 171, 106, 31, 178, 147, 105, 239, 240, 110, 66, 178, 122, 213, 12, 203] by decide +kernel))).trans (by decide +kernel)
theorem awB_c3_3 : cmN awB_k awB_c3s 3 = [51, 124, 20, 246, 211, 60, 207, 73, 152, 213, 201, 179, 173, 209, 184, 223] := ((congrArg (fun z => encS awB_k (xorL z ((awB_c3s.drop (16 * 2)).take 16))) awB_c3_2).trans (congrArg (encS awB_k) (show xorL [54, 102, 177, 18, 120, 116, 129, 51, 112, 21, 233, 231, 46, 192, 161, 237] ((awB_c3s.drop (16 * 2)).take 16) = [93, 13, 218, 121, 19, 31, 234, 88, 27, 126, 130, 140, 69, 171, 202, 134] by decide +kernel))).trans (by decide +kernel)
theorem awB_c3_4 : cmN awB_k awB_c3s 4 = [1, 91, 4, 106, 46, 59, 164, 211, 204, 45, 144, 8, 215, 6, 24, 39] := ((congrArg (fun z => encS awB_k (xorL z ((awB_c3s.drop (16 * 3)).take 16))) awB_c3_3).trans (congrArg (encS awB_k) (show xorL [51, 124, 20, 246, 211, 60, 207, 73, 152, 213, 201, 179, 173, 209, 184, 223] ((awB_c3s.drop (16 * 3)).take 16) = [88, 23, 127, 157, 188, 191, 232, 236, 223, 45, 222, 72, 249, 102, 45, 49] by decide +kernel))).trans (by decide +kernel)
theorem awB_c3_l : lastS awB_k (awB_c3s.drop (16 * 4)) = [11, 215, 62, 117, 178, 241, 21, 165, 175, 58, 37, 185, 78, 109, 229, 91] := by unfold lastS; rw [if_neg (by decide), awB_k1]; decide +kernel
theorem awB_c3 : cmS awB_k awB_c3s = [40, 145, 84, 150, 84, 164, 125, 51, 174, 219, 50, 102, 166, 122, 82, 0] := by
 have e : cmS awB_k awB_c3s = encS awB_k (xorL (cmN awB_k awB_c3s 4) (lastS awB_k (awB_c3s.drop (16 * 4)))) := rfl
 rw [e, awB_c3_4, awB_c3_l, show xorL [1, 91, 4, 106, 46, 59, 164, 211, 204, 45, 144, 8, 215, 6, 24, 39] [11, 215, 62, 117, 178, 241, 21, 165, 175, 58, 37, 185, 78, 109, 229, 91] = [10, 140, 58, 31, 156, 202, 177, 118, 99, 23, 181, 177, 153, 107, 253, 124] by decide +kernel]; decide +kernel
theorem awB_h : awB_p.take (awB_p.length - 16) ++ xorL (awB_p.drop (awB_p.length - 16)) [4, 232, 76, 206, 44, 147, 124, 144, 63, 220, 254, 133, 65, 25, 22, 33] = awB_c3s := by decide +kernel
theorem awB_s : s2S awB_k awB_t = [40, 145, 84, 150, 84, 164, 125, 51, 174, 219, 50, 102, 166, 122, 82, 0] := by
 have e : s2S awB_k awB_t = s2E awB_k (s2N awB_k awB_t 2) awB_p := rfl
 rw [e, awB_d2]
 exact (if_neg (by decide)).trans ((congrArg (cmS awB_k) awB_h).trans awB_c3)
theorem aw_unlike : s2S awA_k awA_t ≠ s2S awB_k awB_t := by rw [awA_s, awB_s]; decide
end Go.AM
end
section
set_option maxRecDepth 100000
namespace Go.AM
abbrev awK : List Int := List.replicate 32 107
abbrev awN : List Int := [110, 110, 110, 110, 110, 110, 110, 110, 110, 110, 110, 110, 110, 110, 110, 110]
abbrev awL : List Int := 108 :: List.replicate 31 107
abbrev awV : VV := (false, [])
abbrev awC : CK := (15, (awK, awK))
abbrev awR (k : List Int) : RR := ([(1, (k, 0))], 2)
theorem rep_B {n : Nat} {x : Int} (h : B8 x) : Bs (List.replicate n x) := fun y hy => by rw [(List.mem_replicate.1 hy).2]; exact h
theorem awK_B : Bs awK := rep_B (by decide)
theorem awL_B : Bs awL := fun y hy => by
 rcases List.mem_cons.1 hy with rfl | hy
 ·decide
 ·exact rep_B (n := 31) (x := 107) (by decide) y hy
theorem awV_ok : okV awV := ⟨by decide, fun k hk => nomatch hk⟩
theorem awV_B : vB awV := fun k hk => nomatch hk
theorem awR_ok {k : List Int} (hl : k.length = 32) (hb : Bs k) : ROk (awR k) := by
 refine ⟨⟨Nat.le_refl _, by show 1 ≤ 8; decide⟩, fun q hq => ?_, fun q hq => ?_⟩ <;> rw [List.mem_singleton.1 hq]
 ·exact hl
 ·exact hb
theorem awC_fit : fitK awC = true := by decide
theorem awLoop : pendulumlaw25_awake.l0 .lim ([], awN, 0, ()) = some (awK, awN, ()) := by
 have e := loop_to (f := pendulumlaw25_awake.l0 .lim) (fun j => (List.replicate j (107 : Int), awN, (j : Int), ())) (n := 32) (fun k hk => by
  rw [pendulumlaw25_awake.q0]
  have hl : decide ((List.replicate k (107 : Int)).length + ([107] : List Int).length ≤ maxStr) = true := dec_t (by unfold maxStr; simp; omega)
  simp only [pendulumlaw25_awake.b0, dec_t (show (k : Int) < 32 by omega), cond_true, hl, wk k (by omega)]
  rw [List.replicate_succ'])
 have e0 : pendulumlaw25_awake.l0 .lim (List.replicate 0 (107 : Int), awN, ((0 : Nat) : Int), ()) = _ := e
 refine (show pendulumlaw25_awake.l0 .lim ([], awN, 0, ()) = pendulumlaw25_awake.l0 .lim (List.replicate 32 (107 : Int), awN, ((32 : Nat) : Int), ()) from e0).trans ?_
 rw [pendulumlaw25_awake.q0]
 rfl
theorem aw_find (k : List Int) : findS (awR k).1 1 = ((0 : Nat) : Int) := rfl
noncomputable abbrev awS : List Int := sealS awK [idS 1, awN] (plainS awC)
theorem aw_seal : sealV awV awK [idS 1, awN] (plainS awC) = (awV, awS, 0) := by
 show (awV, sealR awK [idS 1, awN] (plainS awC)) = _
 unfold sealR
 rw [if_pos (show sivE awK [idS 1, awN] = 0 by decide), if_neg (show ¬ (plainS awC).length > 65536 by decide)]
theorem aw_make : mkS awV (1, (awK, 0)) awC awN = (awV, (idS 1 ++ awN) ++ awS, 0) := by
 unfold mkS
 rw [if_pos awC_fit, if_pos (show awN.length = 16 by decide)]
 simp only [aw_seal]
 rfl
theorem aw_half1 : half1 awK = awA_k := by decide
theorem aw_half1' : half1 awL = awB_k := by decide
theorem aw_half2 : half2 awL = half2 awK := by decide
theorem aw_ad : [idS 1, awN] ++ [plainS awC] = awA_t := by decide
theorem aw_adB : [idS 1, awN] ++ [plainS awC] = awB_t := by decide
theorem aw_not : openR awL [idS 1, awN] awS = ([], 17) := by
 have hv := s2S_ok (half1 awK) ([idS 1, awN] ++ [plainS awC])
 have hl : awS.length = (plainS awC).length + 16 := sealS_len awK [idS 1, awN] (plainS awC)
 have hp : (plainS awC).length = 68 := by decide
 have ht : awS.take 16 = s2S (half1 awK) ([idS 1, awN] ++ [plainS awC]) := by
  unfold awS sealS; rw [List.take_append_of_le_length (by rw [hv.1]; omega), List.take_of_length_le (by rw [hv.1]; omega)]
 have hd : awS.drop 16 = strmS (half2 awK) (s2S (half1 awK) ([idS 1, awN] ++ [plainS awC])) (plainS awC) := by
  unfold awS sealS; rw [List.drop_append_of_le_length (by rw [hv.1]; omega), List.drop_of_length_le (by rw [hv.1]; omega), List.nil_append]
 have ho : openS awL awS = plainS awC := by
  unfold openS; rw [aw_half2, ht, hd, strmS_back _ _ (plainS_B awC_fit ⟨awK_B, awK_B⟩)]
 unfold openR
 rw [if_pos (show sivE awL [idS 1, awN] = 0 by decide), if_neg (by omega), if_neg (by omega), ho, ht, aw_half1, aw_half1', if_neg (fun h => aw_unlike (by rw [← aw_ad, ← h, ← aw_adB]))]
theorem aw_open2 : openC awV (awR awL) ((idS 1 ++ awN) ++ awS) = ((0, ([], [])), 17) := by
 have hl : awS.length = 84 := (sealS_len awK [idS 1, awN] (plainS awC)).trans (by rw [plainS_len]; rfl)
 obtain ⟨c1, c2, c3⟩ := cut3 (a := idS 1) (b := awN) (c := awS) rfl rfl
 have hn : numS ((idS 1 ++ awN) ++ awS) = 1 := by rw [List.append_assoc]; exact numS_id (by decide) (by decide) _
 have hlen : ((idS 1 ++ awN) ++ awS).length = 104 := by
  rw [List.length_append, List.length_append, hl]; rfl
 unfold openC
 rw [if_neg (by omega), hn, aw_find, if_neg (by omega), c1, c2, c3]
 have hk : (rd r0 (awR awL).1 ((0 : Nat) : Int)).2.1 = awL := rfl
 have ho : openV' awV awL [idS 1, awN] awS = ([], 17) := by
  unfold openV'
  rw [show awV.1 = false from rfl, cond_false]
  exact aw_not
 rw [hk, ho, if_neg (show ¬ (17 : Int) = 0 by decide)]
theorem aw_open1 : openC awV (awR awK) ((idS 1 ++ awN) ++ awS) = (awC, 0) := by
 have h := openC_made (v := awV) (w := awV) (m := (1, (awK, 0))) (k := awC) (nonce := awN) (r := awR awK) (i := 0) rfl (by rw [aw_make]) ⟨awK_B, awK_B⟩ (show (0 : Int) ≤ 1 by decide) (show (1 : Int) < 4294967296 by decide)
  (by rw [aw_make]; exact Ext.rfl' _) rfl (aw_find awK) rfl
 rw [aw_make] at h
 exact h
theorem awake25 : pendulumlaw25_awake.run .lim () = some true := by
 have hl : awS.length = 84 := (sealS_len awK [idS 1, awN] (plainS awC)).trans (by rw [plainS_len]; rfl)
 have hlen : ((idS 1 ++ awN) ++ awS).length = 104 := by
  rw [List.length_append, List.length_append, hl]; rfl
 have hB : Bs ((idS 1 ++ awN) ++ awS) := fun x hx => by
  rcases List.mem_append.1 hx with hx | hx
  ·rcases List.mem_append.1 hx with hx | hx
   ·exact idS_B _ x hx
   ·exact rep_B (n := 16) (x := 110) (by decide) x hx
  ·exact sealS_B _ _ _ x hx
 have m := make_eq (v := awV) (r := awR awK) (k := awC) (nonce := awN) awV_ok rfl (awR_ok rfl awK_B) ⟨by decide, by decide⟩ (by decide)
 have lk : lastK (awR awK) = (1, (awK, 0)) := rfl
 rw [lk, aw_make] at m
 have o1 := copen_eq (v := awV) (r := awR awK) (s := (idS 1 ++ awN) ++ awS) awV_ok rfl awV_B (awR_ok rfl awK_B) (lim_of (by omega)) hB
 have o2 := copen_eq (v := awV) (r := awR awL) (s := (idS 1 ++ awN) ++ awS) awV_ok rfl awV_B (awR_ok rfl awL_B) (lim_of (by omega)) hB
 rw [aw_open1] at o1
 rw [aw_open2] at o2
 have n1 : pendulumref24_New.run .lim (awK, 0, ()) = some (awR awK, 0, ()) := rfl
 have n2 : pendulumref24_New.run .lim ([108] ++ cut awK 1 (awK.length : Int), 0, ()) = some (awR awL, 0, ()) := rfl
 have c1 : cutB 1 (awK.length : Int) (awK.length : Int) = true := by decide
 have c2 : decide (([108] : List Int).length + (cut awK 1 (awK.length : Int)).length ≤ maxStr) = true := by decide
 simp only [pendulumlaw25_awake.run, awLoop, Option.bind_some, n1, n2, c1, c2, cond_true, m, o1, o2]
 have c3 : cutB 0 4 ((((idS 1 ++ awN) ++ awS).length : Nat) : Int) = true := by rw [hlen]; decide
 have c4 := (cut3 (a := idS 1) (b := awN) (c := awS) rfl rfl).1
 have c5 : smallI ((((idS 1 ++ awN) ++ awS).length : Nat) : Int) = true := by rw [hlen]; decide
 rw [c3, c4, c5, hlen]
 decide
end Go.AM
end
section
namespace Go.AM
theorem rB_of {r : RR} (h : Ty.ok (.pair (.lst (.pair (.int .u32) (.pair .str (.int .i64)))) (.int .u32)) r) : RB r := by
 obtain ⟨⟨h1, h2⟩, _⟩ := h
 exact ⟨lt63 h1, fun k hk => ⟨lt63 (h2 k hk).2.1.1, (h2 k hk).2.1.2⟩⟩
theorem mk_fit {v : VV} (hf : fitV v = true) (m : RK) (k : CK) (nonce : List Int) : fitV (mkS v m k nonce).1 = true := by
 by_cases h : (mkS v m k nonce).2.2 = 0
 ·rw [(mkS_zero h).2.2.2]; exact fit_seal hf _ _ _
 ·rw [(mkS_no h).1]; exact hf
theorem mk_ok {v : VV} (hv : okV v) {m : RK} (hk : m.2.1.length = 32) (hkb : Bs m.2.1) (k : CK) (nonce : List Int) : okV (mkS v m k nonce).1 := by
 by_cases h : (mkS v m k nonce).2.2 = 0
 ·obtain ⟨h1, h2, _, e⟩ := mkS_zero h
  rw [e]; exact okV_seal hv (ctxts hk hkb h1 h2)
 ·rw [(mkS_no h).1]; exact hv
theorem mk_B {v : VV} (hb : vB v) (m : RK) {k : CK} (kb : KB k) (nonce : List Int) : vB (mkS v m k nonce).1 := by
 by_cases h : (mkS v m k nonce).2.2 = 0
 ·obtain ⟨h1, h2, _, e⟩ := mkS_zero h
  rw [e]; exact vB_seal hb (plainS_B h1 kb)
 ·rw [(mkS_no h).1]; exact hb
theorem k_B {k : CK} (h : Ty.ok (.pair (.int .i64) (.pair .str .str)) k) : KOk k ∧ KB k :=
 ⟨⟨lt63 h.2.1.1, lt63 h.2.2.1⟩, ⟨h.2.1.2, h.2.2.2⟩⟩
end Go.AM
end
section
namespace Go.AM
def olderB (now made window : Int) : Bool := decide (now > made) && decide (IntKind.u64.wrap (IntKind.u64.wrap now - IntKind.u64.wrap made) > IntKind.u64.wrap (mx window 0))
theorem older_eq (now made window : Int) : pendulumref24_older.run .lim (now, made, window, ()) = some (olderB now made window) := rfl
def retS (now window : Int) : List RK → List RK
 | [] => []
 | [x] => [x]
 | x :: y :: l => bif olderB now x.2.2 window then retS now window (y :: l) else x :: y :: l
theorem ret_loop (now window : Int) (m : List RK) (m1 m2 : Int) : ∀ l : List RK, l.length < lim63 → pendulumref24_Retire.l0 .lim (now, window, l, m, m1, m2, ()) = some (retS now window l, m, m1, m2, ())
 | [], _ => by
  rw [pendulumref24_Retire.q0]; rfl
 | [x], _ => by
  rw [pendulumref24_Retire.q0]; rfl
 | x :: y :: l, h => by
  have h63 : (x :: y :: l).length < 9223372036854775808 := h
  have hl : (x :: y :: l).length = l.length + 2 := rfl
  have hc : cut (x :: y :: l) 1 ((x :: y :: l).length : Int) = y :: l := by
   unfold cut
   rw [Int.toNat_natCast, List.take_of_length_le (Nat.le_refl _)]; rfl
  have hr : rd r0 (x :: y :: l) 0 = x := rfl
  rw [pendulumref24_Retire.q0]
  simp only [pendulumref24_Retire.b0, smallN h63, dec_t (show ((x :: y :: l).length : Int) > 1 by omega), inB_t (show (0 : Int) ≤ 0 by omega) (show (0 : Int) < ((x :: y :: l).length : Int) by omega), Bool.or_true, cond_true, hr, older_eq, Option.bind_some, Bool.true_and,
   cutB_t (show (0 : Int) ≤ 1 by omega) (show (1 : Int) ≤ ((x :: y :: l).length : Int) by omega) (show ((x :: y :: l).length : Int) ≤ ((x :: y :: l).length : Int) by omega), hc]
  rw [retS]
  cases olderB now x.2.2 window with
  | true =>
   simp only [cond_true]
   exact ret_loop now window m m1 m2 (y :: l) (by have : (y :: l).length = l.length + 1 := rfl; exact lim_of (by omega))
  | false => rfl
theorem retire_eq {r : RR} (now window : Int) (h : r.1.length < lim63) : pendulumref24_Retire.run .lim (r, now, window, ()) = some (retS now window r.1, r.2) := by
 simp only [pendulumref24_Retire.run, ret_loop now window r.1 r.2 0 r.1 h, Option.bind_some]
theorem ret_spec (now window : Int) : ∀ l : List RK, 0 < l.length → ∃ d, d < l.length ∧ retS now window l = l.drop d ∧ ∀ p, p < l.length → olderB now (rd r0 l (p : Int)).2.2 window = false → d ≤ p
 | [], h => absurd h (by decide)
 | [x], _ => ⟨0, Nat.one_pos, rfl, fun p _ _ => Nat.zero_le p⟩
 | x :: y :: l, _ => by
  rw [retS]
  cases ho : olderB now x.2.2 window with
  | false => exact ⟨0, Nat.succ_pos _, rfl, fun p _ _ => Nat.zero_le p⟩
  | true =>
   obtain ⟨d, h1, h2, h3⟩ := ret_spec now window (y :: l) (Nat.succ_pos _)
   refine ⟨d + 1, Nat.succ_lt_succ h1, h2, fun p hp hq => ?_⟩
   match p, hp, hq with
   | 0, _, hq =>
    have hr : rd r0 (x :: y :: l) ((0 : Nat) : Int) = x := rfl
    rw [hr, ho] at hq; exact absurd hq (by decide)
   | p + 1, hp, hq =>
    have hr : rd r0 (x :: y :: l) ((p + 1 : Nat) : Int) = rd r0 (y :: l) (p : Int) := by
     rw [rd_ix hp, rd_ix (Nat.lt_of_succ_lt_succ hp)]; rfl
    rw [hr] at hq
    exact Nat.succ_le_succ (h3 p (Nat.lt_of_succ_lt_succ hp) hq)
structure RInv (m : RK) (r : RR) (q : Nat) : Prop where
 len : 1 ≤ r.1.length ∧ r.1.length ≤ 8
 next : 0 ≤ r.2 ∧ r.2 < 4294967296
 ids : ∀ i, i < r.1.length → (rd r0 r.1 (i : Int)).1 = (r.2 - ((r.1.length - i : Nat) : Int)) % 4294967296
 key : ∀ k ∈ r.1, k.2.1.length = 32 ∧ Bs k.2.1
 pos : ∃ p, p < r.1.length ∧ rd r0 r.1 (p : Int) = m ∧ r.1.length ≤ p + 1 + q
theorem RInv.rOk {m : RK} {r : RR} {q : Nat} (h : RInv m r q) : ROk r := ⟨h.len, fun k hk => (h.key k hk).1, fun k hk => (h.key k hk).2⟩
theorem RInv.up {m : RK} {r : RR} {q q' : Nat} (h : RInv m r q) (hq : q ≤ q') : RInv m r q' := by
 obtain ⟨p, h1, h2, h3⟩ := h.pos
 exact ⟨h.len, h.next, h.ids, h.key, p, h1, h2, by omega⟩
theorem rd_drop {α : Type} {z : α} {xs : List α} {d i : Nat} (h : d + i < xs.length) : rd z (xs.drop d) (i : Int) = rd z xs ((d + i : Nat) : Int) := by
 rw [rd_ix (by simp; omega), rd_ix h]; simp
theorem find_at {xs : List RK} {id : Int} {p : Nat} (hp : p < xs.length) (e : (rd r0 xs (p : Int)).1 = id) (h : ∀ j, j < p → (rd r0 xs (j : Int)).1 ≠ id) : findS xs id = (p : Int) := by
 rcases findS_spec (xs := xs) (id := id) with ⟨_, h2⟩ | ⟨k, hk, e1, e2, e3⟩
 ·exact absurd e (h2 p hp)
 ·have : k = p := by
   rcases Nat.lt_trichotomy k p with h1 | h1 | h1
   ·exact absurd e2 (h k h1)
   ·exact h1
   ·exact absurd e (e3 p h1)
  rw [e1, this]
theorem RInv.find {m : RK} {r : RR} {q d : Nat} (h : RInv m r q) (hd : ∃ p, p < r.1.length ∧ rd r0 r.1 (p : Int) = m ∧ d ≤ p) : ∃ i, findS (r.1.drop d) m.1 = ((i : Nat) : Int) ∧ rd r0 (r.1.drop d) (i : Int) = m := by
 obtain ⟨p, h1, h2, h3⟩ := hd
 have hl := h.len
 refine ⟨p - d, ?_, ?_⟩
 ·refine find_at (by simp; omega) (by rw [rd_drop (by omega), show d + (p - d) = p by omega, h2]) fun j hj => ?_
  rw [rd_drop (by omega), h.ids _ (by omega), ← h2, h.ids p h1]
  omega
 ·rw [rd_drop (by omega), show d + (p - d) = p by omega, h2]
theorem RInv.m_id {m : RK} {r : RR} {q : Nat} (h : RInv m r q) : 0 ≤ m.1 ∧ m.1 < 4294967296 := by
 obtain ⟨p, h1, h2, _⟩ := h.pos
 rw [← h2, h.ids p h1]; omega
theorem inv_first {r : RR} (hf : fitR r = true) (b : RB r) (hn : 0 ≤ r.2 ∧ r.2 < 4294967296) : RInv (lastK r) r 0 := by
 obtain ⟨h1, h2⟩ := fitR_spec hf
 have ro := rOk_of hf b
 exact ⟨h1, hn, fun i hi => (h2 i hi).2.1, fun k hk => ⟨ro.key k hk, ro.kb k hk⟩, r.1.length - 1, by omega, rfl, by omega⟩
theorem rotate_inv {m : RK} {r : RR} {q : Nat} (h : RInv m r q) (hq : q ≤ 6) {key : List Int} (hk : key.length = 32) (hb : Bs key) (now : Int) :
  ∃ r' e, pendulumref24_Rotate.run .lim (r, key, now, ()) = some (r', e, ()) ∧ RInv m r' (q + 1) := by
 have hl := h.len
 have hn := h.next
 simp only [pendulumref24_Rotate.run, smallN (show key.length < 9223372036854775808 by omega), dec_t (show (key.length : Int) = 32 by omega), Bool.not_true, cond_false, cond_true, smallN (show r.1.length < 9223372036854775808 by omega),
  show IntKind.i64.wrap ((r.1.length : Int) - 1) = ((r.1.length - 1 : Nat) : Int) by (rw [wrap64 (by omega) (by omega)]; omega), inB_t (show (0 : Int) ≤ ((r.1.length - 1 : Nat) : Int) by omega) (show ((r.1.length - 1 : Nat) : Int) < (r.1.length : Int) by omega)]
 by_cases h1 : now < (rd r0 r.1 ((r.1.length - 1 : Nat) : Int)).2.2
 ·rw [dec_t h1]; exact ⟨r, 21, rfl, h.up (by omega)⟩
 ·rw [dec_f h1]
  have hw : IntKind.u32.wrap (r.2 + 1) = (r.2 + 1) % 4294967296 := wrapu32 _
  have a1 : (r.1 ++ [(r.2, (key, now))]).length = r.1.length + 1 := by simp
  have aid : ∀ i, i < r.1.length + 1 → (rd r0 (r.1 ++ [(r.2, (key, now))]) (i : Int)).1 = ((r.2 + 1) % 4294967296 - ((r.1.length + 1 - i : Nat) : Int)) % 4294967296 := fun i hi => by
   by_cases q : i < r.1.length
   ·rw [rd_app q, h.ids i q]; omega
   ·obtain rfl : i = r.1.length := by omega
    rw [rd_last]
    show r.2 = _
    omega
  have ak : ∀ k ∈ r.1 ++ [(r.2, (key, now))], k.2.1.length = 32 ∧ Bs k.2.1 := fun k hkm => by
   rcases List.mem_append.1 hkm with z | z
   ·exact h.key k z
   ·rw [List.mem_singleton.1 z]; exact ⟨hk, hb⟩
  obtain ⟨p, p1, p2, p3⟩ := h.pos
  simp only [cond_false, dec_t (show r.1.length < 2199023255552 by omega), dec_t (show r.1.length + ([(r.2, (key, now))] : List RK).length < 2199023255552 by (simp only [List.length_singleton]; omega)), cond_true, hw]
  by_cases h8 : r.1.length = 8
  ·rw [dec_t (show (r.1.length : Int) = 8 by omega)]
   have hc : cutB 1 (((r.1 ++ [(r.2, (key, now))]).length : Nat) : Int) (((r.1 ++ [(r.2, (key, now))]).length : Nat) : Int) = true := cutB_t (by omega) (by omega) (by omega)
   simp only [cond_true, hc]
   have ht : ((r.1 ++ [(r.2, (key, now))]).drop 1).take ((((r.1 ++ [(r.2, (key, now))]).length : Nat) : Int) - 1).toNat = (r.1 ++ [(r.2, (key, now))]).drop 1 := by
    rw [List.take_of_length_le]; simp
   rw [ht]
   refine ⟨_, _, rfl, ⟨?_, ?_, fun i hi => ?_, fun k hkm => ak k (List.mem_of_mem_drop hkm), p - 1, ?_, ?_, ?_⟩⟩
   ·simp only [List.length_drop, a1]; omega
   ·simp only; omega
   ·simp only [List.length_drop, a1] at hi ⊢
    rw [rd_drop (by omega), aid (1 + i) (by omega)]
    omega
   ·simp only [List.length_drop, a1]; omega
   ·simp only
    rw [rd_drop (by omega), show 1 + (p - 1) = p by omega, rd_app p1, p2]
   ·simp only [List.length_drop, a1]; omega
  ·rw [dec_f (show ¬ (r.1.length : Int) = 8 by omega)]
   simp only [cond_false]
   refine ⟨_, _, rfl, ⟨?_, ?_, fun i hi => ?_, ak, p, ?_, ?_, ?_⟩⟩
   ·simp only [a1]; omega
   ·simp only; omega
   ·simp only [a1] at hi ⊢
    rw [aid i hi]
   ·simp only [a1]; omega
   ·simp only; rw [rd_app p1, p2]
   ·simp only [a1]; omega
end Go.AM
end
section
namespace Go.AM
theorem RInv.open {v w : VV} {m : RK} {k : CK} {nonce : List Int} {r : RR} {q d : Nat} (I : RInv m r q) (hf : fitV v = true) (h : (mkS v m k nonce).2.2 = 0) (kb : KB k)
  (x : Ext (mkS v m k nonce).1 w) (hw : fitV w = true) (hd : ∃ p, p < r.1.length ∧ rd r0 r.1 (p : Int) = m ∧ d ≤ p) (n : Int) : openC w (r.1.drop d, n) (mkS v m k nonce).2.1 = (k, 0) := by
 obtain ⟨i, e1, e2⟩ := I.find hd
 exact openC_made hf h kb I.m_id.1 I.m_id.2 x hw e1 (by rw [show ((r.1.drop d, n) : RR).1 = r.1.drop d from rfl, e2])
theorem back_loop (window : Int) (s : List Int) (more : List (List Int)) (hmore : more.length < lim63) (hml : ∀ t ∈ more, t.length < lim63 ∧ Bs t) (m0 : List RK) (m1 m2 : Int) (m3 m4 : List Int) (m5 : Bool) (m6 : List KK) (mm : RK) :
  ∀ (n j : Nat) (now : Int) (r : RR), j + n = more.length → -9223372036854775808 ≤ now → now < 9223372036854775808 → RInv mm r (min j 7) →
   ∃ now' r', -9223372036854775808 ≤ now' ∧ now' < 9223372036854775808 ∧ RInv mm r' 7 ∧
    pendulumlaw25_CookBack.l0 .lim (window, s, now, more, (more.length : Int), (j : Int), m0, m1, m2, m3, m4, m5, m6, mm.1, mm.2.1, mm.2.2, r.1, r.2, ()) = some (window, s, now', m0, m1, m2, m3, m4, m5, m6, mm.1, mm.2.1, mm.2.2, r'.1, r'.2, ()) := by
 have hm63 : more.length < 9223372036854775808 := hmore
 intro n
 induction n with
 | zero =>
  intro j now r hj h1 h2 I
  refine ⟨now, r, h1, h2, I.up (Nat.min_le_right _ _), ?_⟩
  rw [pendulumlaw25_CookBack.q0]
  simp only [pendulumlaw25_CookBack.b0, dec_f (show ¬ (j : Int) < (more.length : Int) by omega), cond_false]
 | succ n ih =>
  intro j now r hj h1 h2 I
  have ht := hml _ (rd_mem (d := []) (xs := more) (i := (j : Int)) (by omega) (by omega))
  have ht63 : (rd [] more (j : Int)).length < 9223372036854775808 := ht.1
  rw [pendulumlaw25_CookBack.q0]
  simp only [pendulumlaw25_CookBack.b0, dec_t (show (j : Int) < (more.length : Int) by omega), inB_t (show (0 : Int) ≤ (j : Int) by omega) (show (j : Int) < (more.length : Int) by omega), cond_true, smallN ht63, Bool.or_true, wk j (by omega)]
  by_cases hc : j < 7 ∧ (rd [] more (j : Int)).length = 32 ∧ now < 4611686018427387904
  ·obtain ⟨c1, c2, c3⟩ := hc
   have w : IntKind.i64.wrap (now + 10) = now + 10 := wrap64 (by omega) (by omega)
   obtain ⟨r', e, h, I'⟩ := rotate_inv (I.up (q' := j) (Nat.min_le_left _ _)) (by omega) c2 ht.2 (now + 10)
   obtain ⟨now', r2, a1, a2, a3, a4⟩ := ih (j + 1) (now + 10) r' (by omega) (by omega) (by omega) (I'.up (by omega))
   refine ⟨now', r2, a1, a2, a3, ?_⟩
   rw [dec_t (show (j : Int) < 7 by omega), dec_t (show ((rd [] more (j : Int)).length : Int) = 32 by omega), dec_t c3, w]
   simp only [Bool.and_self, cond_true, h, Option.bind_some]
   exact a4
  ·obtain ⟨now', r2, a1, a2, a3, a4⟩ := ih (j + 1) now r (by omega) h1 h2 (I.up (by omega))
   refine ⟨now', r2, a1, a2, a3, ?_⟩
   have : ((decide ((j : Int) < 7) && decide (((rd [] more (j : Int)).length : Int) = 32)) && decide (now < 4611686018427387904)) = false := by
    rw [dec_and, dec_and]
    exact dec_f (fun z => hc ⟨by omega, by omega, z.2⟩)
   rw [this]
   simp only [cond_false]
   exact a4
theorem csize_eq {k : CK} (h : fitK k = true) : cook_Size.run .lim (k.1, ()) = some (40 + 2 * keySz k.1) := by
 simp only [cook_Size.run, keysz_eq, Option.bind_some]
 rcases fitK_spec h with ⟨q, _⟩ | ⟨q, _⟩ <;> rw [q] <;> decide
theorem keySz_len {k : CK} (h : fitK k = true) : (k.2.1.length : Int) = keySz k.1 ∧ (k.2.2.length : Int) = keySz k.1 := by
 unfold fitK at h
 simp only [Bool.and_eq_true, decide_eq_true_eq] at h
 exact ⟨h.1.2, h.2⟩
theorem mk_can {v : VV} {m : RK} (hm : m.2.1.length = 32) {k : CK} {nonce : List Int} (hf : fitK k = true) (hn : nonce.length = 16) (hv : v.2.length < 1000) : (mkS v m k nonce).2.2 = 0 := by
 have hp := fitK_spec hf
 have hpl := plainS_len (k := k)
 have hr : refE (m.2.1, [idS m.1, nonce], [], []) = 0 := by
  show (if m.2.1.length ≠ 32 ∧ m.2.1.length ≠ 64 then (13 : Int) else if (2 : Nat) > 126 then 18 else 0) = 0
  rw [if_neg (by omega), if_neg (by decide)]
 have hs : (sealV v m.2.1 [idS m.1, nonce] (plainS k)).2.2 = 0 := by
  obtain ⟨b, xs⟩ := v
  cases b with
  | false =>
   simp only [sealV, cond_false]
   unfold sealR
   rw [if_pos (by rw [refE_siv]; exact hr), if_neg (by omega)]
  | true =>
   simp only [sealV, cond_true]
   have he : sealE m.2.1 [idS m.1, nonce] (plainS k).length = 0 := by
    unfold sealE
    rw [if_pos hr, if_neg (by omega)]
   unfold sealI
   rw [if_pos he]
   cases (List.range xs.length).find? (fun j : Nat => alk (rd k0 xs (j : Int)) (m.2.1, [idS m.1, nonce], plainS k, [])) with
   | some k => rfl
   | none =>
    simp only
    rw [if_neg (by simp only at hv; omega)]
 unfold mkS
 rw [if_pos hf, if_pos hn, if_pos hs]
theorem back25_true {v : VV} {r : RR} {k : CK} {nonce : List Int} {more : List (List Int)} {window : Int} (hv : okV v) (hb : vB v) (b : RB r) (hn : 0 ≤ r.2 ∧ r.2 < 4294967296) (ht : ∀ q ∈ r.1, -9223372036854775808 ≤ q.2.2 ∧ q.2.2 < 9223372036854775808)
  (hk : KOk k) (kb : KB k) (ho : nonce.length < lim63) (hob : Bs nonce) (hmore : more.length < lim63) (hml : ∀ t ∈ more, t.length < lim63 ∧ Bs t) :
  pendulumlaw25_CookBack.run .lim (v, r, k, nonce, more, window, ()) = some true := by
 have ho63 : nonce.length < 9223372036854775808 := ho
 have hr63 : r.1.length < 9223372036854775808 := b.l
 have hx63 : v.2.length < 9223372036854775808 := hv.1
 have hm63 : more.length < 9223372036854775808 := hmore
 obtain ⟨l, _, e⟩ := good_eq hv b
 simp only [pendulumlaw25_CookBack.run, e, Option.bind_some, smallN ho63, smallN hr63, smallN hx63, smallN hm63, Bool.or_true, cond_true, awake25]
 cases hg : ((l && fitV v) && fitR r) with
 | false => rfl
 | true =>
  simp only [Bool.and_eq_true] at hg
  have hf := hg.1.2
  have ro := rOk_of hg.2 b
  have hm := lastK_mem ro
  have hl := ro.len
  have hv2 := mk_ok hv (ro.key _ hm) (ro.kb _ hm) k nonce
  have hf2 := mk_fit hf (lastK r) k nonce
  have hb2 := mk_B hb (lastK r) kb nonce
  simp only [Bool.not_true, cond_false, make_eq hv hf ro hk ho, rcfit_eq hk, Option.bind_some]
  by_cases h0 : (mkS v (lastK r) k nonce).2.2 = 0
  ·obtain ⟨g1, g2, _, _⟩ := mkS_zero h0
   have hc : ((!(decide ((mkS v (lastK r) k nonce).2.2 = 0) == (fitK k && decide ((nonce.length : Int) = 16)))) && decide ((v.2.length : Int) < 1000)) = false := by
    rw [dec_t h0, g1, dec_t (show (nonce.length : Int) = 16 by omega)]; rfl
   rw [hc, dec_t h0]
   simp only [cond_false, Bool.not_true]
   have hw1 : IntKind.i64.wrap ((r.1.length : Int) - 1) = ((r.1.length - 1 : Nat) : Int) := last_w ro
   have I := inv_first hg.2 b hn
   obtain ⟨now', r', a1, a2, I', e4⟩ := back_loop window (mkS v (lastK r) k nonce).2.1 more hmore hml r.1 r.2 k.1 k.2.1 k.2.2 (mkS v (lastK r) k nonce).1.1 (mkS v (lastK r) k nonce).1.2 (lastK r) more.length 0 (lastK r).2.2 r (Nat.zero_add _) (ht _ hm).1 (ht _ hm).2 (I.up (Nat.zero_le _))
   have el : rd r0 r.1 ((r.1.length - 1 : Nat) : Int) = lastK r := rfl
   rw [show ((0 : Nat) : Int) = 0 from rfl] at e4
   simp only [hw1, el, inB_t (show (0 : Int) ≤ ((r.1.length - 1 : Nat) : Int) by omega) (show ((r.1.length - 1 : Nat) : Int) < (r.1.length : Int) by omega), cond_true, e4, Option.bind_some]
   have hr' := I'.len
   obtain ⟨d, d1, d2, d3⟩ := ret_spec now' window r'.1 (by omega)
   have hlen := mkS_len hf h0
   have hsz := keySz_len g1
   have hk3 := fitK_spec g1
   have hsB := mkS_B hf hob h0
   have hsl : (mkS v (lastK r) k nonce).2.1.length < lim63 := lim_of (by omega)
   have hs63 : (mkS v (lastK r) k nonce).2.1.length < 9223372036854775808 := by omega
   have ro3 : ROk (r'.1.drop d, r'.2) := ⟨⟨by simp; omega, by simp; omega⟩, fun q hq => (I'.key q (List.mem_of_mem_drop hq)).1, fun q hq => (I'.key q (List.mem_of_mem_drop hq)).2⟩
   have o1 := copen_eq hv2 hf2 hb2 ro hsl hsB
   have o2 := copen_eq hv2 hf2 hb2 I'.rOk hsl hsB
   have o3 := copen_eq hv2 hf2 hb2 ro3 hsl hsB
   have x := Ext.rfl' (mkS v (lastK r) k nonce).1
   obtain ⟨p0, q1, q2, _⟩ := I.pos
   obtain ⟨p1, u1, u2, _⟩ := I'.pos
   have z1 : openC (mkS v (lastK r) k nonce).1 r (mkS v (lastK r) k nonce).2.1 = (k, 0) := by
    have := I.open (d := 0) hf h0 kb x hf2 ⟨p0, q1, q2, Nat.zero_le _⟩ r.2
    rwa [List.drop_zero] at this
   have z2 : openC (mkS v (lastK r) k nonce).1 r' (mkS v (lastK r) k nonce).2.1 = (k, 0) := by
    have := I'.open (d := 0) hf h0 kb x hf2 ⟨p1, u1, u2, Nat.zero_le _⟩ r'.2
    rwa [List.drop_zero] at this
   rw [z1] at o1
   rw [z2] at o2
   simp only [retire_eq now' window (show r'.1.length < lim63 from lim_of (by omega)), Option.bind_some, o1, o2, d2, o3, decide_true, Bool.and_self, smallN hs63, Bool.or_true, cond_true, csize_eq g1, Bool.true_and,
    dec_t (show (((mkS v (lastK r) k nonce).2.1.length : Nat) : Int) = 40 + 2 * keySz k.1 by omega)]
   by_cases hw : IntKind.u64.wrap (IntKind.u64.wrap now' - IntKind.u64.wrap (lastK r).2.2) ≤ IntKind.u64.wrap (mx window 0)
   ·have ho' : olderB now' (lastK r).2.2 window = false := by
     unfold olderB
     rw [dec_f (show ¬ IntKind.u64.wrap (IntKind.u64.wrap now' - IntKind.u64.wrap (lastK r).2.2) > IntKind.u64.wrap (mx window 0) by omega), Bool.and_false]
    have z3 := I'.open (d := d) hf h0 kb x hf2 ⟨p1, u1, u2, d3 p1 u1 (by rw [u2]; exact ho')⟩ r'.2
    rw [z3]
    simp only [decide_true, Bool.and_self, Bool.or_true, cond_true, Option.bind_some]
   ·rw [dec_f hw]
    simp only [Bool.not_false, Bool.true_or, Bool.and_self, cond_true, Option.bind_some]
  ·have hc : ((!(decide ((mkS v (lastK r) k nonce).2.2 = 0) == (fitK k && decide ((nonce.length : Int) = 16)))) && decide ((v.2.length : Int) < 1000)) = false := by
    rw [dec_f h0]
    by_cases q1 : fitK k = true
    ·by_cases q2 : nonce.length = 16
     ·by_cases q3 : v.2.length < 1000
      ·exact absurd (mk_can (ro.key _ hm) q1 q2 q3) h0
      ·rw [dec_f (show ¬ (v.2.length : Int) < 1000 by omega), Bool.and_false]
     ·rw [dec_f (show ¬ (nonce.length : Int) = 16 by omega)]; simp
    ·have : fitK k = false := by simpa using q1
     rw [this]; simp
   obtain ⟨n1, n2⟩ := mkS_no h0
   rw [hc, dec_f h0, n1, n2]
   simp only [cond_false, Bool.not_false, cond_true, rsame_eq v v hv hv, decide_true, Bool.and_self, Option.bind_some]
theorem u32_range {n : Int} (h : okInt .u32 n) : 0 ≤ n ∧ n < 4294967296 := by
 obtain ⟨h1, h2⟩ := h
 have e1 : IntKind.u32.min = 0 := by decide
 have e2 : IntKind.u32.max = 4294967295 := by decide
 omega
theorem i64_range {n : Int} (h : okInt .i64 n) : -9223372036854775808 ≤ n ∧ n < 9223372036854775808 := by
 obtain ⟨h1, h2⟩ := h
 have e1 : IntKind.i64.min = -9223372036854775808 := by decide
 have e2 : IntKind.i64.max = 9223372036854775807 := by decide
 omega
theorem ckback_ok : ∀ x, oks [.ag (.pair .bool (.lst (.pair .str (.pair (.lst .str) (.pair .str .str))))), .ag (.pair (.lst (.pair (.int .u32) (.pair .str (.int .i64)))) (.int .u32)), .ag (.pair (.int .i64) (.pair .str .str)), .one .str, .one (.lst .str), .one (.int .i64)] x → pendulumlaw25_CookBack.run .lim x = some true := by
 intro x h
 match x with
 | (v, r, k, nonce, more, window, ()) =>
  obtain ⟨h1, h2, h4, h5, h6, h7, _⟩ := h
  refine back25_true (ok_v h1) (v_B h1) (rB_of h2) ?_ (fun q hq => ?_) (k_B h4).1 (k_B h4).2 (lt63 h5.1) h5.2 (lt63 h6.1) (fun t ht => ⟨lt63 (h6.2 t ht).1, (h6.2 t ht).2⟩)
  ·exact u32_range h2.2
  ·exact i64_range (h2.1.2 q hq).2.2
end Go.AM
end
