import Derived.Test.YtbkblmaplmbicaaAm3
import Derived.Test.YtbkblmaplmbicaaRows
import Derived.WalkKit
import Derived.ProofKit
import Derived.OpenShut
import Derived.ShutString
import Derived.ChangeOld
import Derived.Below
import Derived.SizedLaws

/-! The law CombTells holds for every input: the code is walked by an abstract machine that is shown to be sound, and what it computes is compared by plain arithmetic. -/
set_option linter.unusedSimpArgs false
set_option linter.unusedVariables false

section
namespace Go.AM
theorem mul_bd {x w a b : Int} (h1 : -a ≤ x) (h2 : x ≤ a) (h3 : 0 ≤ w) (h4 : w ≤ b) (ha : 0 ≤ a) : -(a * b) ≤ x * w ∧ x * w ≤ a * b := by
  have e1 : x * w ≤ a * w := Int.mul_le_mul_of_nonneg_right h2 h3
  have e2 : a * w ≤ a * b := Int.mul_le_mul_of_nonneg_left h4 ha
  have e3 : -a * w ≤ x * w := Int.mul_le_mul_of_nonneg_right h1 h3
  rw [Int.neg_mul] at e3
  omega
theorem flr_eq {s a : Int} (ha : 0 < a) : (if s.tmod a < 0 then s.tdiv a - 1 else s.tdiv a) = s / a := by
  have h1 := Int.mul_tdiv_add_tmod s a
  have h2 : s.tmod a < a := Int.tmod_lt_of_pos s ha
  have h3 : -a < s.tmod a := by have := Int.lt_tmod_of_pos s ha; omega
  symm
  split
  · rw [Int.ediv_eq_iff_of_pos ha]
    rw [Int.sub_mul, Int.mul_comm]
    constructor <;> omega
  · rw [Int.ediv_eq_iff_of_pos ha, Int.mul_comm]
    constructor <;> omega
def wt (p : Peer) : Int := max 1 (4096 / (p.2.1 / 65536 + 1))
theorem wt_bd (p : Peer) (h : 0 ≤ p.2.1) : 1 ≤ wt p ∧ wt p ≤ 4096 := by
  unfold wt
  have h1 : 0 ≤ p.2.1 / 65536 := by omega
  have h2 : 4096 / (p.2.1 / 65536 + 1) ≤ 4096 := Int.ediv_le_self _ (by decide)
  omega
theorem shr16 (x : Int) : ishr .i64 x 16 = x / 65536 := by
  unfold ishr
  rw [show (2 ^ min (16 : Int).toNat IntKind.i64.bits : Int) = 65536 from rfl, Int.fdiv_eq_ediv_of_nonneg _ (by decide)]
theorem weight_eq (p : Peer) (h : fitP p) : comb_Weight.run .lim (p, ()) = some (wt p) := by
  obtain ⟨-, h, -⟩ := h
  have h1 : 0 ≤ p.2.1 / 65536 := by omega
  have h2 : 4096 / (p.2.1 / 65536 + 1) ≤ 4096 := Int.ediv_le_self _ (by decide)
  have h3 : 0 ≤ 4096 / (p.2.1 / 65536 + 1) := Int.ediv_nonneg (by decide) (by omega)
  simp (disch := omega) only [smallI_t, inB_t, wrap64, dec_t, dec_f, dec_not, dec_and, dec_or, cond_ite, cond_true, cond_false, Option.bind_some, Option.bind_none, Bool.or_true, Bool.true_or, Bool.and_true, Bool.true_and, Bool.and_false, Bool.false_and, Bool.or_false, Bool.false_or, Bool.not_true, Bool.not_false, Bool.or_self, Bool.and_self, Bool.not_not, if_true, if_false, and_self, true_and, and_true, and_false, false_and, or_true, true_or, or_false, false_or, not_true_eq_false, not_false_eq_true, decide_true, decide_false, eq_self, if_pos, if_neg, mx_eq, mn_eq, comb_Weight.run, shr16]
  rw [Int.tdiv_eq_ediv_of_nonneg (by decide)]
  simp (disch := omega) only [smallI_t, inB_t, wrap64, dec_t, dec_f, dec_not, dec_and, dec_or, cond_ite, cond_true, cond_false, Option.bind_some, Option.bind_none, Bool.or_true, Bool.true_or, Bool.and_true, Bool.true_and, Bool.and_false, Bool.false_and, Bool.or_false, Bool.false_or, Bool.not_true, Bool.not_false, Bool.or_self, Bool.and_self, Bool.not_not, if_true, if_false, and_self, true_and, and_true, and_false, false_and, or_true, true_or, or_false, false_or, not_true_eq_false, not_false_eq_true, decide_true, decide_false, eq_self, if_pos, if_neg, mx_eq, mn_eq]
  rfl
theorem rweight_eq (p : Peer) (h : fitP p) : pendulumref30_Weight.run .lim (p, ()) = some (wt p) := by
  obtain ⟨-, h, -⟩ := h
  have h1 : 0 ≤ p.2.1 / 65536 := by omega
  have h2 : 4096 / (p.2.1 / 65536 + 1) ≤ 4096 := Int.ediv_le_self _ (by decide)
  have h3 : 0 ≤ 4096 / (p.2.1 / 65536 + 1) := Int.ediv_nonneg (by decide) (by omega)
  simp (disch := omega) only [smallI_t, inB_t, wrap64, dec_t, dec_f, dec_not, dec_and, dec_or, cond_ite, cond_true, cond_false, Option.bind_some, Option.bind_none, Bool.or_true, Bool.true_or, Bool.and_true, Bool.true_and, Bool.and_false, Bool.false_and, Bool.or_false, Bool.false_or, Bool.not_true, Bool.not_false, Bool.or_self, Bool.and_self, Bool.not_not, if_true, if_false, and_self, true_and, and_true, and_false, false_and, or_true, true_or, or_false, false_or, not_true_eq_false, not_false_eq_true, decide_true, decide_false, eq_self, if_pos, if_neg, mx_eq, mn_eq, pendulumref30_Weight.run, shr16]
  rw [Int.tdiv_eq_ediv_of_nonneg (by decide)]
  simp (disch := omega) only [smallI_t, inB_t, wrap64, dec_t, dec_f, dec_not, dec_and, dec_or, cond_ite, cond_true, cond_false, Option.bind_some, Option.bind_none, Bool.or_true, Bool.true_or, Bool.and_true, Bool.true_and, Bool.and_false, Bool.false_and, Bool.or_false, Bool.false_or, Bool.not_true, Bool.not_false, Bool.or_self, Bool.and_self, Bool.not_not, if_true, if_false, and_self, true_and, and_true, and_false, false_and, or_true, true_or, or_false, false_or, not_true_eq_false, not_false_eq_true, decide_true, decide_false, eq_self, if_pos, if_neg, mx_eq, mn_eq]
  rw [wt, Int.max_comm]
def dist (a b : Int) : Int := if a < b then b - a else a - b
def nar (a : Int) : Prop := -1000000000000000 ≤ a ∧ a ≤ 1000000000000000
theorem dist_bd {a b : Int} (ha : nar a) (hb : nar b) : 0 ≤ dist a b ∧ dist a b ≤ 2000000000000000 := by
  unfold dist; unfold nar at ha hb; split <;> omega
theorem distance_eq {a b : Int} (ha : nar a) (hb : nar b) : comb_distance.run .lim (a, b, ()) = some (dist a b) := by
  unfold nar at ha hb
  simp (disch := omega) only [smallI_t, inB_t, wrap64, dec_t, dec_f, dec_not, dec_and, dec_or, cond_ite, cond_true, cond_false, Option.bind_some, Option.bind_none, Bool.or_true, Bool.true_or, Bool.and_true, Bool.true_and, Bool.and_false, Bool.false_and, Bool.or_false, Bool.false_or, Bool.not_true, Bool.not_false, Bool.or_self, Bool.and_self, Bool.not_not, if_true, if_false, and_self, true_and, and_true, and_false, false_and, or_true, true_or, or_false, false_or, not_true_eq_false, not_false_eq_true, decide_true, decide_false, eq_self, if_pos, if_neg, mx_eq, mn_eq, comb_distance.run]
  unfold dist; split <;> congr 1 <;> omega
theorem rdistance_eq {a b : Int} (ha : nar a) (hb : nar b) : pendulumref30_distance.run .lim (a, b, ()) = some (dist a b) := by
  unfold nar at ha hb
  simp (disch := omega) only [smallI_t, inB_t, wrap64, dec_t, dec_f, dec_not, dec_and, dec_or, cond_ite, cond_true, cond_false, Option.bind_some, Option.bind_none, Bool.or_true, Bool.true_or, Bool.and_true, Bool.true_and, Bool.and_false, Bool.false_and, Bool.or_false, Bool.false_or, Bool.not_true, Bool.not_false, Bool.or_self, Bool.and_self, Bool.not_not, if_true, if_false, and_self, true_and, and_true, and_false, false_and, or_true, true_or, or_false, false_or, not_true_eq_false, not_false_eq_true, decide_true, decide_false, eq_self, if_pos, if_neg, mx_eq, mn_eq, pendulumref30_distance.run]
  unfold dist; split <;> rfl
def far (l : List Peer) (k : Int) : Int := if 0 ≤ k ∧ k < l.length then acc (fun i => dist (pk l i).1 (rd ((0 : Int), ((0 : Int), (0 : Int))) l k).1) l.length else 0
theorem fit_nar {p : Peer} (h : fitP p) : nar p.1 := by unfold nar; obtain ⟨h, -⟩ := h; omega
theorem fit_rd {l : List Peer} (h : fitL l) {k : Int} (h1 : 0 ≤ k) (h2 : k < l.length) : fitP (rd ((0 : Int), ((0 : Int), (0 : Int))) l k) := by
  have := h.2 k.toNat (by omega)
  simpa [pk, Int.toNat_of_nonneg h1] using this
theorem far_eq {l : List Peer} (h : fitL l) (k : Int) : comb_Far.run .lim (l, k, ()) = some (far l k) := by
  have h10 := h.1
  by_cases hk : 0 ≤ k ∧ k < l.length
  · have hb : ∀ m : Nat, m ≤ l.length → 0 ≤ acc (fun i => dist (pk l i).1 (rd ((0 : Int), ((0 : Int), (0 : Int))) l k).1) m ∧ acc (fun i => dist (pk l i).1 (rd ((0 : Int), ((0 : Int), (0 : Int))) l k).1) m ≤ 20000000000000000 := by
      intro m hm
      have := acc_bd (n := m) (g := fun i => dist (pk l i).1 (rd ((0 : Int), ((0 : Int), (0 : Int))) l k).1) (a := 0) (b := 2000000000000000) (fun i hi => dist_bd (fit_nar (h.2 i (by omega))) (fit_nar (fit_rd h hk.1 hk.2)))
      omega
    have step : ∀ m, m < l.length → comb_Far.l0 .lim (acc (fun i => dist (pk l i).1 (rd ((0 : Int), ((0 : Int), (0 : Int))) l k).1) m, l, (l.length : Int), (m : Int), l, k, ()) = comb_Far.l0 .lim (acc (fun i => dist (pk l i).1 (rd ((0 : Int), ((0 : Int), (0 : Int))) l k).1) (m + 1), l, (l.length : Int), ((m + 1 : Nat) : Int), l, k, ()) := by
      intro m hm
      rw [comb_Far.q0]
      have h1 := hb m (by omega)
      have h2 := hb (m + 1) (by omega)
      rw [acc] at h2 ⊢
      simp (disch := omega) only [smallI_t, inB_t, wrap64, dec_t, dec_f, dec_not, dec_and, dec_or, cond_ite, cond_true, cond_false, Option.bind_some, Option.bind_none, Bool.or_true, Bool.true_or, Bool.and_true, Bool.true_and, Bool.and_false, Bool.false_and, Bool.or_false, Bool.false_or, Bool.not_true, Bool.not_false, Bool.or_self, Bool.and_self, Bool.not_not, if_true, if_false, and_self, true_and, and_true, and_false, false_and, or_true, true_or, or_false, false_or, not_true_eq_false, not_false_eq_true, decide_true, decide_false, eq_self, if_pos, if_neg, mx_eq, mn_eq, comb_Far.b0, rd_pk, distance_eq (fit_nar (h.2 m hm)) (fit_nar (fit_rd h hk.1 hk.2))]
      rfl
    have := loop_to (fun m : Nat => (acc (fun i => dist (pk l i).1 (rd ((0 : Int), ((0 : Int), (0 : Int))) l k).1) m, l, (l.length : Int), (m : Int), l, k, ())) step
    simp (disch := omega) only [smallI_t, inB_t, wrap64, dec_t, dec_f, dec_not, dec_and, dec_or, cond_ite, cond_true, cond_false, Option.bind_some, Option.bind_none, Bool.or_true, Bool.true_or, Bool.and_true, Bool.true_and, Bool.and_false, Bool.false_and, Bool.or_false, Bool.false_or, Bool.not_true, Bool.not_false, Bool.or_self, Bool.and_self, Bool.not_not, if_true, if_false, and_self, true_and, and_true, and_false, false_and, or_true, true_or, or_false, false_or, not_true_eq_false, not_false_eq_true, decide_true, decide_false, eq_self, if_pos, if_neg, mx_eq, mn_eq, comb_Far.run]
    rw [show ((0 : Int), l, (l.length : Int), (0 : Int), l, k, ()) = (acc (fun i => dist (pk l i).1 (rd ((0 : Int), ((0 : Int), (0 : Int))) l k).1) 0, l, (l.length : Int), ((0 : Nat) : Int), l, k, ()) from rfl, this, comb_Far.q0]
    simp (disch := omega) only [smallI_t, inB_t, wrap64, dec_t, dec_f, dec_not, dec_and, dec_or, cond_ite, cond_true, cond_false, Option.bind_some, Option.bind_none, Bool.or_true, Bool.true_or, Bool.and_true, Bool.true_and, Bool.and_false, Bool.false_and, Bool.or_false, Bool.false_or, Bool.not_true, Bool.not_false, Bool.or_self, Bool.and_self, Bool.not_not, if_true, if_false, and_self, true_and, and_true, and_false, false_and, or_true, true_or, or_false, false_or, not_true_eq_false, not_false_eq_true, decide_true, decide_false, eq_self, if_pos, if_neg, mx_eq, mn_eq, comb_Far.b0]
    rw [far, if_pos hk]
  · rw [far, if_neg hk]
    simp (disch := omega) only [smallI_t, inB_t, wrap64, dec_t, dec_f, dec_not, dec_and, dec_or, cond_ite, cond_true, cond_false, Option.bind_some, Option.bind_none, Bool.or_true, Bool.true_or, Bool.and_true, Bool.true_and, Bool.and_false, Bool.false_and, Bool.or_false, Bool.false_or, Bool.not_true, Bool.not_false, Bool.or_self, Bool.and_self, Bool.not_not, if_true, if_false, and_self, true_and, and_true, and_false, false_and, or_true, true_or, or_false, false_or, not_true_eq_false, not_false_eq_true, decide_true, decide_false, eq_self, if_pos, if_neg, mx_eq, mn_eq, comb_Far.run]
theorem rfar_eq {l : List Peer} (h : fitL l) (k : Int) : pendulumref30_Far.run .lim (l, k, ()) = some (far l k) := by
  have h10 := h.1
  by_cases hk : 0 ≤ k ∧ k < l.length
  · have hb : ∀ m : Nat, m ≤ l.length → 0 ≤ acc (fun i => dist (pk l i).1 (rd ((0 : Int), ((0 : Int), (0 : Int))) l k).1) m ∧ acc (fun i => dist (pk l i).1 (rd ((0 : Int), ((0 : Int), (0 : Int))) l k).1) m ≤ 20000000000000000 := by
      intro m hm
      have := acc_bd (n := m) (g := fun i => dist (pk l i).1 (rd ((0 : Int), ((0 : Int), (0 : Int))) l k).1) (a := 0) (b := 2000000000000000) (fun i hi => dist_bd (fit_nar (h.2 i (by omega))) (fit_nar (fit_rd h hk.1 hk.2)))
      omega
    have step : ∀ m, m < l.length → pendulumref30_Far.l0 .lim (l, k, acc (fun i => dist (pk l i).1 (rd ((0 : Int), ((0 : Int), (0 : Int))) l k).1) m, (m : Int), ()) = pendulumref30_Far.l0 .lim (l, k, acc (fun i => dist (pk l i).1 (rd ((0 : Int), ((0 : Int), (0 : Int))) l k).1) (m + 1), ((m + 1 : Nat) : Int), ()) := by
      intro m hm
      rw [pendulumref30_Far.q0]
      have h1 := hb m (by omega)
      have h2 := hb (m + 1) (by omega)
      rw [acc] at h2 ⊢
      simp (disch := omega) only [smallI_t, inB_t, wrap64, dec_t, dec_f, dec_not, dec_and, dec_or, cond_ite, cond_true, cond_false, Option.bind_some, Option.bind_none, Bool.or_true, Bool.true_or, Bool.and_true, Bool.true_and, Bool.and_false, Bool.false_and, Bool.or_false, Bool.false_or, Bool.not_true, Bool.not_false, Bool.or_self, Bool.and_self, Bool.not_not, if_true, if_false, and_self, true_and, and_true, and_false, false_and, or_true, true_or, or_false, false_or, not_true_eq_false, not_false_eq_true, decide_true, decide_false, eq_self, if_pos, if_neg, mx_eq, mn_eq, pendulumref30_Far.b0, rd_pk, rdistance_eq (fit_nar (h.2 m hm)) (fit_nar (fit_rd h hk.1 hk.2))]
      rfl
    have := loop_to (fun m : Nat => (l, k, acc (fun i => dist (pk l i).1 (rd ((0 : Int), ((0 : Int), (0 : Int))) l k).1) m, (m : Int), ())) step
    simp (disch := omega) only [smallI_t, inB_t, wrap64, dec_t, dec_f, dec_not, dec_and, dec_or, cond_ite, cond_true, cond_false, Option.bind_some, Option.bind_none, Bool.or_true, Bool.true_or, Bool.and_true, Bool.true_and, Bool.and_false, Bool.false_and, Bool.or_false, Bool.false_or, Bool.not_true, Bool.not_false, Bool.or_self, Bool.and_self, Bool.not_not, if_true, if_false, and_self, true_and, and_true, and_false, false_and, or_true, true_or, or_false, false_or, not_true_eq_false, not_false_eq_true, decide_true, decide_false, eq_self, if_pos, if_neg, mx_eq, mn_eq, pendulumref30_Far.run]
    rw [show (l, k, (0 : Int), (0 : Int), ()) = (l, k, acc (fun i => dist (pk l i).1 (rd ((0 : Int), ((0 : Int), (0 : Int))) l k).1) 0, ((0 : Nat) : Int), ()) from rfl, this, pendulumref30_Far.q0]
    simp (disch := omega) only [smallI_t, inB_t, wrap64, dec_t, dec_f, dec_not, dec_and, dec_or, cond_ite, cond_true, cond_false, Option.bind_some, Option.bind_none, Bool.or_true, Bool.true_or, Bool.and_true, Bool.true_and, Bool.and_false, Bool.false_and, Bool.or_false, Bool.false_or, Bool.not_true, Bool.not_false, Bool.or_self, Bool.and_self, Bool.not_not, if_true, if_false, and_self, true_and, and_true, and_false, false_and, or_true, true_or, or_false, false_or, not_true_eq_false, not_false_eq_true, decide_true, decide_false, eq_self, if_pos, if_neg, mx_eq, mn_eq, pendulumref30_Far.b0]
    rw [far, if_pos hk]
  · rw [far, if_neg hk]
    simp (disch := omega) only [smallI_t, inB_t, wrap64, dec_t, dec_f, dec_not, dec_and, dec_or, cond_ite, cond_true, cond_false, Option.bind_some, Option.bind_none, Bool.or_true, Bool.true_or, Bool.and_true, Bool.true_and, Bool.and_false, Bool.false_and, Bool.or_false, Bool.false_or, Bool.not_true, Bool.not_false, Bool.or_self, Bool.and_self, Bool.not_not, if_true, if_false, and_self, true_and, and_true, and_false, false_and, or_true, true_or, or_false, false_or, not_true_eq_false, not_false_eq_true, decide_true, decide_false, eq_self, if_pos, if_neg, mx_eq, mn_eq, pendulumref30_Far.run]
end Go.AM
end

section
namespace Go.AM
def wall (l : List Peer) (k : Nat) : Int := acc (fun i => wt (pk l i)) k
def wsum (l : List Peer) (k : Nat) : Int := acc (fun i => (pk l i).1 * wt (pk l i)) k
theorem wall_bd {l : List Peer} (h : fitL l) {k : Nat} (hk : k ≤ l.length) : k ≤ wall l k ∧ wall l k ≤ k * 4096 := by
  have := acc_bd (n := k) (g := fun i => wt (pk l i)) (a := 1) (b := 4096) (fun i hi => wt_bd _ (h.2 i (by omega)).2.1.1)
  unfold wall; omega
theorem wprod_bd {p : Peer} (h : fitP p) : -576460752303423488 ≤ p.1 * wt p ∧ p.1 * wt p ≤ 576460752303423488 := by
  have h1 := wt_bd p h.2.1.1
  have := mul_bd (x := p.1) (w := wt p) (a := 140737488355328) (b := 4096) (by have := h.1; omega) (by have := h.1; omega) (by omega) (by omega) (by decide)
  omega
theorem wsum_bd {l : List Peer} (h : fitL l) {k : Nat} (hk : k ≤ l.length) : -5764607523034234880 ≤ wsum l k ∧ wsum l k ≤ 5764607523034234880 := by
  have h10 := h.1
  have := acc_bd (n := k) (g := fun i => (pk l i).1 * wt (pk l i)) (a := -576460752303423488) (b := 576460752303423488) (fun i hi => wprod_bd (h.2 i (by omega)))
  unfold wsum; omega
/-- The mean lies between. -/
theorem mean_bd {l : List Peer} (h : fitL l) {a b : Int} (hb : ∀ k, k < l.length → a ≤ (pk l k).1 ∧ (pk l k).1 ≤ b) {n : Nat} (hn : n ≤ l.length) : a * wall l n ≤ wsum l n ∧ wsum l n ≤ b * wall l n := by
  induction n with
  | zero => simp [wall, wsum, acc]
  | succ n ih =>
    have h1 := ih (by omega)
    have h2 := hb n (by omega)
    have h3 := wt_bd _ (h.2 n (by omega)).2.1.1
    unfold wall wsum at h1 ⊢
    rw [acc, acc, Int.mul_add, Int.mul_add]
    have e1 : a * wt (pk l n) ≤ (pk l n).1 * wt (pk l n) := Int.mul_le_mul_of_nonneg_right h2.1 (by omega)
    have e2 : (pk l n).1 * wt (pk l n) ≤ b * wt (pk l n) := Int.mul_le_mul_of_nonneg_right h2.2 (by omega)
    omega
def off (l : List Peer) : Int := wsum l l.length / wall l l.length
theorem off_bd {l : List Peer} (h : fitL l) (h0 : 0 < l.length) {a b : Int} (hb : ∀ k, k < l.length → a ≤ (pk l k).1 ∧ (pk l k).1 ≤ b) : a ≤ off l ∧ off l ≤ b := by
  have h1 := mean_bd h hb (Nat.le_refl _)
  have h2 := wall_bd h (Nat.le_refl _)
  unfold off
  constructor
  · exact (Int.le_ediv_iff_mul_le (by omega)).2 h1.1
  · have : wsum l l.length / wall l l.length < b + 1 := (Int.ediv_lt_iff_lt_mul (by omega)).2 (by rw [Int.add_mul]; omega)
    omega
theorem off_fit {l : List Peer} (h : fitL l) (h0 : 0 < l.length) : -140737488355328 ≤ off l ∧ off l ≤ 140737488355328 := off_bd h h0 fun k hk => (h.2 k hk).1
def root (l : List Peer) (z : Int) (k : Nat) : Int := fold (fun r i => min r (pk l i).2.1) z k
def jit (l : List Peer) (o : Int) (k : Nat) : Int := fold (fun j i => min (max j (dist (pk l i).1 o)) 140737488355328) 0 k
theorem root_succ (l : List Peer) (z : Int) (k : Nat) : root l z (k + 1) = min (root l z k) (pk l k).2.1 := rfl
theorem jit_succ (l : List Peer) (o : Int) (k : Nat) : jit l o (k + 1) = min (max (jit l o k) (dist (pk l k).1 o)) 140737488355328 := rfl
theorem wall_succ (l : List Peer) (k : Nat) : wall l (k + 1) = wall l k + wt (pk l k) := rfl
theorem wsum_succ (l : List Peer) (k : Nat) : wsum l (k + 1) = wsum l k + (pk l k).1 * wt (pk l k) := rfl
theorem root_bd {l : List Peer} (h : fitL l) {z : Int} (hz : 0 ≤ z) {k : Nat} (hk : k ≤ l.length) : 0 ≤ root l z k ∧ root l z k ≤ z := by
  induction k with
  | zero => exact ⟨hz, Int.le_refl _⟩
  | succ k ih => rw [root_succ]; have := ih (by omega); have := (h.2 k (by omega)).2.1; omega
theorem jit_bd (l : List Peer) (o : Int) (k : Nat) : 0 ≤ jit l o k ∧ jit l o k ≤ 140737488355328 := by
  induction k with
  | zero => exact ⟨Int.le_refl 0, by show (0 : Int) ≤ _; decide⟩
  | succ k ih => rw [jit_succ]; omega
theorem root_first {l : List Peer} (h : fitL l) (h0 : 0 < l.length) {k : Nat} (hk : k ≤ l.length) : root l (pk l 0).2.1 k = min (pk l 0).2.1 (root l 140737488355328 k) ∧ (0 < k → root l 140737488355328 k ≤ (pk l 0).2.1) := by
  have hz := (h.2 0 h0).2.1
  induction k with
  | zero => refine ⟨?_, fun h => absurd h (by decide)⟩; show _ = min _ (140737488355328 : Int); show (pk l 0).2.1 = _; omega
  | succ k ih =>
    have := ih (by omega)
    rw [root_succ, root_succ]
    refine ⟨by omega, fun _ => ?_⟩
    by_cases hk0 : k = 0
    · subst hk0; omega
    · have := this.2 (by omega); omega
theorem combine0 {l : List Peer} (h : fitL l) : comb_Combine.l0 .lim ((0 : Int), l, (l.length : Int), (0 : Int), l, (0 : Int), (0 : Int), (0 : Int), ()) = some (wall l l.length, l, 0, 0, 0, ()) := by
  have h10 := h.1
  have step : ∀ m, m < l.length → comb_Combine.l0 .lim (wall l m, l, (l.length : Int), (m : Int), l, (0 : Int), (0 : Int), (0 : Int), ()) = comb_Combine.l0 .lim (wall l (m + 1), l, (l.length : Int), ((m + 1 : Nat) : Int), l, (0 : Int), (0 : Int), (0 : Int), ()) := by
    intro m hm
    rw [comb_Combine.q0]
    have h1 := wall_bd h (k := m) (by omega)
    have h2 := wall_bd h (k := m + 1) (by omega)
    rw [wall_succ] at h2 ⊢
    simp (disch := omega) only [smallI_t, inB_t, wrap64, dec_t, dec_f, dec_not, dec_and, dec_or, cond_ite, cond_true, cond_false, Option.bind_some, Option.bind_none, Bool.or_true, Bool.true_or, Bool.and_true, Bool.true_and, Bool.and_false, Bool.false_and, Bool.or_false, Bool.false_or, Bool.not_true, Bool.not_false, Bool.or_self, Bool.and_self, Bool.not_not, if_true, if_false, and_self, true_and, and_true, and_false, false_and, or_true, true_or, or_false, false_or, not_true_eq_false, not_false_eq_true, decide_true, decide_false, eq_self, if_pos, if_neg, mx_eq, mn_eq, comb_Combine.b0, rd_pk, weight_eq _ (h.2 m hm)]
    rfl
  have := loop_to (fun m : Nat => (wall l m, l, (l.length : Int), (m : Int), l, (0 : Int), (0 : Int), (0 : Int), ())) step
  refine this.trans ?_
  rw [comb_Combine.q0]
  simp (disch := omega) only [smallI_t, inB_t, wrap64, dec_t, dec_f, dec_not, dec_and, dec_or, cond_ite, cond_true, cond_false, Option.bind_some, Option.bind_none, Bool.or_true, Bool.true_or, Bool.and_true, Bool.true_and, Bool.and_false, Bool.false_and, Bool.or_false, Bool.false_or, Bool.not_true, Bool.not_false, Bool.or_self, Bool.and_self, Bool.not_not, if_true, if_false, and_self, true_and, and_true, and_false, false_and, or_true, true_or, or_false, false_or, not_true_eq_false, not_false_eq_true, decide_true, decide_false, eq_self, if_pos, if_neg, mx_eq, mn_eq, comb_Combine.b0]
theorem combine1 {l : List Peer} (h : fitL l) (a : Int) : comb_Combine.l1 .lim ((0 : Int), l, (l.length : Int), (0 : Int), l, a, (0 : Int), (0 : Int), (0 : Int), ()) = some (wsum l l.length, l, a, 0, 0, 0, ()) := by
  have h10 := h.1
  have step : ∀ m, m < l.length → comb_Combine.l1 .lim (wsum l m, l, (l.length : Int), (m : Int), l, a, (0 : Int), (0 : Int), (0 : Int), ()) = comb_Combine.l1 .lim (wsum l (m + 1), l, (l.length : Int), ((m + 1 : Nat) : Int), l, a, (0 : Int), (0 : Int), (0 : Int), ()) := by
    intro m hm
    rw [comb_Combine.q1]
    have h1 := wsum_bd h (k := m) (by omega)
    have h2 := wsum_bd h (k := m + 1) (by omega)
    have h3 := wprod_bd (h.2 m hm)
    rw [wsum_succ] at h2 ⊢
    simp (disch := omega) only [smallI_t, inB_t, wrap64, dec_t, dec_f, dec_not, dec_and, dec_or, cond_ite, cond_true, cond_false, Option.bind_some, Option.bind_none, Bool.or_true, Bool.true_or, Bool.and_true, Bool.true_and, Bool.and_false, Bool.false_and, Bool.or_false, Bool.false_or, Bool.not_true, Bool.not_false, Bool.or_self, Bool.and_self, Bool.not_not, if_true, if_false, and_self, true_and, and_true, and_false, false_and, or_true, true_or, or_false, false_or, not_true_eq_false, not_false_eq_true, decide_true, decide_false, eq_self, if_pos, if_neg, mx_eq, mn_eq, comb_Combine.b1, rd_pk, comb_Combine_1.run, weight_eq _ (h.2 m hm)]
    rfl
  have := loop_to (fun m : Nat => (wsum l m, l, (l.length : Int), (m : Int), l, a, (0 : Int), (0 : Int), (0 : Int), ())) step
  refine this.trans ?_
  rw [comb_Combine.q1]
  simp (disch := omega) only [smallI_t, inB_t, wrap64, dec_t, dec_f, dec_not, dec_and, dec_or, cond_ite, cond_true, cond_false, Option.bind_some, Option.bind_none, Bool.or_true, Bool.true_or, Bool.and_true, Bool.true_and, Bool.and_false, Bool.false_and, Bool.or_false, Bool.false_or, Bool.not_true, Bool.not_false, Bool.or_self, Bool.and_self, Bool.not_not, if_true, if_false, and_self, true_and, and_true, and_false, false_and, or_true, true_or, or_false, false_or, not_true_eq_false, not_false_eq_true, decide_true, decide_false, eq_self, if_pos, if_neg, mx_eq, mn_eq, comb_Combine.b1]
theorem combine2 {l : List Peer} (h : fitL l) {o : Int} (ho : nar o) : comb_Combine.l2 .lim ((140737488355328 : Int), l, (l.length : Int), (0 : Int), (0 : Int), (0 : Int), (0 : Int), o, (0 : Int), (0 : Int), ()) = some (root l 140737488355328 l.length, 0, 0, 0, o, 0, jit l o l.length, ()) := by
  have h10 := h.1
  have step : ∀ m, m < l.length → comb_Combine.l2 .lim (root l 140737488355328 m, l, (l.length : Int), (m : Int), (0 : Int), (0 : Int), (0 : Int), o, (0 : Int), jit l o m, ()) = comb_Combine.l2 .lim (root l 140737488355328 (m + 1), l, (l.length : Int), ((m + 1 : Nat) : Int), (0 : Int), (0 : Int), (0 : Int), o, (0 : Int), jit l o (m + 1), ()) := by
    intro m hm
    rw [comb_Combine.q2]
    rw [root_succ, jit_succ]
    simp (disch := omega) only [smallI_t, inB_t, wrap64, dec_t, dec_f, dec_not, dec_and, dec_or, cond_ite, cond_true, cond_false, Option.bind_some, Option.bind_none, Bool.or_true, Bool.true_or, Bool.and_true, Bool.true_and, Bool.and_false, Bool.false_and, Bool.or_false, Bool.false_or, Bool.not_true, Bool.not_false, Bool.or_self, Bool.and_self, Bool.not_not, if_true, if_false, and_self, true_and, and_true, and_false, false_and, or_true, true_or, or_false, false_or, not_true_eq_false, not_false_eq_true, decide_true, decide_false, eq_self, if_pos, if_neg, mx_eq, mn_eq, comb_Combine.b2, rd_pk, distance_eq (fit_nar (h.2 m hm)) ho]
    rfl
  have := loop_to (fun m : Nat => (root l 140737488355328 m, l, (l.length : Int), (m : Int), (0 : Int), (0 : Int), (0 : Int), o, (0 : Int), jit l o m, ())) step
  refine this.trans ?_
  rw [comb_Combine.q2]
  simp (disch := omega) only [smallI_t, inB_t, wrap64, dec_t, dec_f, dec_not, dec_and, dec_or, cond_ite, cond_true, cond_false, Option.bind_some, Option.bind_none, Bool.or_true, Bool.true_or, Bool.and_true, Bool.true_and, Bool.and_false, Bool.false_and, Bool.or_false, Bool.false_or, Bool.not_true, Bool.not_false, Bool.or_self, Bool.and_self, Bool.not_not, if_true, if_false, and_self, true_and, and_true, and_false, false_and, or_true, true_or, or_false, false_or, not_true_eq_false, not_false_eq_true, decide_true, decide_false, eq_self, if_pos, if_neg, mx_eq, mn_eq, comb_Combine.b2]
def comb (l : List Peer) : Peer := (off l, (min (root l 140737488355328 l.length + jit l (off l) l.length) 140737488355328, jit l (off l) l.length))
theorem combine_eq {l : List Peer} (h : fitL l) (h0 : 0 < l.length) : comb_Combine.run .lim (l, ()) = some (comb l, 0, ()) := by
  have h10 := h.1
  have h1 := wall_bd h (Nat.le_refl _)
  have h2 := wsum_bd h (Nat.le_refl _)
  have h3 := off_fit h h0
  have h4 := flr_eq (s := wsum l l.length) (a := wall l l.length) (by omega)
  have h5 := root_bd h (z := 140737488355328) (by decide) (Nat.le_refl _)
  have h6 := jit_bd l (off l) l.length
  change _ = off l at h4
  have ho : nar (off l) := by unfold nar; omega
  simp (disch := omega) only [smallI_t, inB_t, wrap64, dec_t, dec_f, dec_not, dec_and, dec_or, cond_ite, cond_true, cond_false, Option.bind_some, Option.bind_none, Bool.or_true, Bool.true_or, Bool.and_true, Bool.true_and, Bool.and_false, Bool.false_and, Bool.or_false, Bool.false_or, Bool.not_true, Bool.not_false, Bool.or_self, Bool.and_self, Bool.not_not, if_true, if_false, and_self, true_and, and_true, and_false, false_and, or_true, true_or, or_false, false_or, not_true_eq_false, not_false_eq_true, decide_true, decide_false, eq_self, if_pos, if_neg, mx_eq, mn_eq, comb_Combine.run, combine0 h, combine1 h]
  split
  · rename_i hc
    rw [if_pos hc] at h4
    rw [h4]
    simp (disch := omega) only [smallI_t, inB_t, wrap64, dec_t, dec_f, dec_not, dec_and, dec_or, cond_ite, cond_true, cond_false, Option.bind_some, Option.bind_none, Bool.or_true, Bool.true_or, Bool.and_true, Bool.true_and, Bool.and_false, Bool.false_and, Bool.or_false, Bool.false_or, Bool.not_true, Bool.not_false, Bool.or_self, Bool.and_self, Bool.not_not, if_true, if_false, and_self, true_and, and_true, and_false, false_and, or_true, true_or, or_false, false_or, not_true_eq_false, not_false_eq_true, decide_true, decide_false, eq_self, if_pos, if_neg, mx_eq, mn_eq, combine2 h ho]
    rfl
  · rename_i hc
    rw [if_neg hc] at h4
    rw [h4]
    simp (disch := omega) only [smallI_t, inB_t, wrap64, dec_t, dec_f, dec_not, dec_and, dec_or, cond_ite, cond_true, cond_false, Option.bind_some, Option.bind_none, Bool.or_true, Bool.true_or, Bool.and_true, Bool.true_and, Bool.and_false, Bool.false_and, Bool.or_false, Bool.false_or, Bool.not_true, Bool.not_false, Bool.or_self, Bool.and_self, Bool.not_not, if_true, if_false, and_self, true_and, and_true, and_false, false_and, or_true, true_or, or_false, false_or, not_true_eq_false, not_false_eq_true, decide_true, decide_false, eq_self, if_pos, if_neg, mx_eq, mn_eq, combine2 h ho]
    rfl
theorem combine_nil : comb_Combine.run .lim (([] : List Peer), ()) = some (((0 : Int), ((0 : Int), (0 : Int))), (19 : Int), ()) := by
  simp (disch := omega) only [smallI_t, inB_t, wrap64, dec_t, dec_f, dec_not, dec_and, dec_or, cond_ite, cond_true, cond_false, Option.bind_some, Option.bind_none, Bool.or_true, Bool.true_or, Bool.and_true, Bool.true_and, Bool.and_false, Bool.false_and, Bool.or_false, Bool.false_or, Bool.not_true, Bool.not_false, Bool.or_self, Bool.and_self, Bool.not_not, if_true, if_false, and_self, true_and, and_true, and_false, false_and, or_true, true_or, or_false, false_or, not_true_eq_false, not_false_eq_true, decide_true, decide_false, eq_self, if_pos, if_neg, mx_eq, mn_eq, comb_Combine.run, List.length_nil]
theorem rcombine0 {l : List Peer} (h : fitL l) (z : Int) : pendulumref30_Combine.l0 .lim (l, (0 : Int), (0 : Int), z, (0 : Int), (0 : Int), (0 : Int), (0 : Int), ()) = some (l, wsum l l.length, wall l l.length, root l z l.length, 0, 0, 0, ()) := by
  have h10 := h.1
  have step : ∀ m, m < l.length → pendulumref30_Combine.l0 .lim (l, wsum l m, wall l m, root l z m, (m : Int), (0 : Int), (0 : Int), (0 : Int), ()) = pendulumref30_Combine.l0 .lim (l, wsum l (m + 1), wall l (m + 1), root l z (m + 1), ((m + 1 : Nat) : Int), (0 : Int), (0 : Int), (0 : Int), ()) := by
    intro m hm
    rw [pendulumref30_Combine.q0]
    have h1 := wsum_bd h (k := m) (by omega)
    have h2 := wsum_bd h (k := m + 1) (by omega)
    have h3 := wprod_bd (h.2 m hm)
    have h4 := wall_bd h (k := m) (by omega)
    have h5 := wall_bd h (k := m + 1) (by omega)
    rw [wsum_succ] at h2 ⊢
    rw [wall_succ] at h5 ⊢
    rw [root_succ]
    simp (disch := omega) only [smallI_t, inB_t, wrap64, dec_t, dec_f, dec_not, dec_and, dec_or, cond_ite, cond_true, cond_false, Option.bind_some, Option.bind_none, Bool.or_true, Bool.true_or, Bool.and_true, Bool.true_and, Bool.and_false, Bool.false_and, Bool.or_false, Bool.false_or, Bool.not_true, Bool.not_false, Bool.or_self, Bool.and_self, Bool.not_not, if_true, if_false, and_self, true_and, and_true, and_false, false_and, or_true, true_or, or_false, false_or, not_true_eq_false, not_false_eq_true, decide_true, decide_false, eq_self, if_pos, if_neg, mx_eq, mn_eq, pendulumref30_Combine.b0, rd_pk, rweight_eq _ (h.2 m hm)]
    rfl
  have := loop_to (fun m : Nat => (l, wsum l m, wall l m, root l z m, (m : Int), (0 : Int), (0 : Int), (0 : Int), ())) step
  refine this.trans ?_
  rw [pendulumref30_Combine.q0]
  simp (disch := omega) only [smallI_t, inB_t, wrap64, dec_t, dec_f, dec_not, dec_and, dec_or, cond_ite, cond_true, cond_false, Option.bind_some, Option.bind_none, Bool.or_true, Bool.true_or, Bool.and_true, Bool.true_and, Bool.and_false, Bool.false_and, Bool.or_false, Bool.false_or, Bool.not_true, Bool.not_false, Bool.or_self, Bool.and_self, Bool.not_not, if_true, if_false, and_self, true_and, and_true, and_false, false_and, or_true, true_or, or_false, false_or, not_true_eq_false, not_false_eq_true, decide_true, decide_false, eq_self, if_pos, if_neg, mx_eq, mn_eq, pendulumref30_Combine.b0]
theorem rcombine1 {l : List Peer} (h : fitL l) (z : Int) {o : Int} (ho : nar o) : pendulumref30_Combine.l1 .lim (l, z, (0 : Int), (0 : Int), (0 : Int), (0 : Int), o, (0 : Int), (0 : Int), ()) = some (z, 0, 0, 0, o, 0, jit l o l.length, ()) := by
  have h10 := h.1
  have step : ∀ m, m < l.length → pendulumref30_Combine.l1 .lim (l, z, (m : Int), (0 : Int), (0 : Int), (0 : Int), o, (0 : Int), jit l o m, ()) = pendulumref30_Combine.l1 .lim (l, z, ((m + 1 : Nat) : Int), (0 : Int), (0 : Int), (0 : Int), o, (0 : Int), jit l o (m + 1), ()) := by
    intro m hm
    rw [pendulumref30_Combine.q1]
    have h1 := jit_bd l o m
    rw [show jit l o (m + 1) = max (jit l o m) (min (dist (pk l m).1 o) 140737488355328) by rw [jit_succ]; omega]
    simp (disch := omega) only [smallI_t, inB_t, wrap64, dec_t, dec_f, dec_not, dec_and, dec_or, cond_ite, cond_true, cond_false, Option.bind_some, Option.bind_none, Bool.or_true, Bool.true_or, Bool.and_true, Bool.true_and, Bool.and_false, Bool.false_and, Bool.or_false, Bool.false_or, Bool.not_true, Bool.not_false, Bool.or_self, Bool.and_self, Bool.not_not, if_true, if_false, and_self, true_and, and_true, and_false, false_and, or_true, true_or, or_false, false_or, not_true_eq_false, not_false_eq_true, decide_true, decide_false, eq_self, if_pos, if_neg, mx_eq, mn_eq, pendulumref30_Combine.b1, rd_pk, rdistance_eq (fit_nar (h.2 m hm)) ho]
    rfl
  have := loop_to (fun m : Nat => (l, z, (m : Int), (0 : Int), (0 : Int), (0 : Int), o, (0 : Int), jit l o m, ())) step
  refine this.trans ?_
  rw [pendulumref30_Combine.q1]
  simp (disch := omega) only [smallI_t, inB_t, wrap64, dec_t, dec_f, dec_not, dec_and, dec_or, cond_ite, cond_true, cond_false, Option.bind_some, Option.bind_none, Bool.or_true, Bool.true_or, Bool.and_true, Bool.true_and, Bool.and_false, Bool.false_and, Bool.or_false, Bool.false_or, Bool.not_true, Bool.not_false, Bool.or_self, Bool.and_self, Bool.not_not, if_true, if_false, and_self, true_and, and_true, and_false, false_and, or_true, true_or, or_false, false_or, not_true_eq_false, not_false_eq_true, decide_true, decide_false, eq_self, if_pos, if_neg, mx_eq, mn_eq, pendulumref30_Combine.b1]
theorem rcombine_eq {l : List Peer} (h : fitL l) (h0 : 0 < l.length) : pendulumref30_Combine.run .lim (l, ()) = some (comb l, 0, ()) := by
  have h10 := h.1
  have h1 := wall_bd h (Nat.le_refl _)
  have h2 := wsum_bd h (Nat.le_refl _)
  have h3 := off_fit h h0
  have h4 := flr_eq (s := wsum l l.length) (a := wall l l.length) (by omega)
  have h5 := root_bd h (z := 140737488355328) (by decide) (Nat.le_refl _)
  have h6 := jit_bd l (off l) l.length
  have h7 := root_first h h0 (Nat.le_refl _)
  have h8 := h7.2 h0
  have h9 : root l (pk l 0).2.1 l.length = root l 140737488355328 l.length := by omega
  change _ = off l at h4
  have ho : nar (off l) := by unfold nar; omega
  have hf : pendulumref30_floor.run .lim (wsum l l.length, wall l l.length, ()) = some (off l) := by
    simp (disch := omega) only [smallI_t, inB_t, wrap64, dec_t, dec_f, dec_not, dec_and, dec_or, cond_ite, cond_true, cond_false, Option.bind_some, Option.bind_none, Bool.or_true, Bool.true_or, Bool.and_true, Bool.true_and, Bool.and_false, Bool.false_and, Bool.or_false, Bool.false_or, Bool.not_true, Bool.not_false, Bool.or_self, Bool.and_self, Bool.not_not, if_true, if_false, and_self, true_and, and_true, and_false, false_and, or_true, true_or, or_false, false_or, not_true_eq_false, not_false_eq_true, decide_true, decide_false, eq_self, if_pos, if_neg, mx_eq, mn_eq, pendulumref30_floor.run]
    split
    · rename_i hc
      rw [if_pos hc] at h4
      rw [h4]
    · rename_i hc
      rw [if_neg hc] at h4
      rw [h4]
  simp (disch := omega) only [smallI_t, inB_t, wrap64, dec_t, dec_f, dec_not, dec_and, dec_or, cond_ite, cond_true, cond_false, Option.bind_some, Option.bind_none, Bool.or_true, Bool.true_or, Bool.and_true, Bool.true_and, Bool.and_false, Bool.false_and, Bool.or_false, Bool.false_or, Bool.not_true, Bool.not_false, Bool.or_self, Bool.and_self, Bool.not_not, if_true, if_false, and_self, true_and, and_true, and_false, false_and, or_true, true_or, or_false, false_or, not_true_eq_false, not_false_eq_true, decide_true, decide_false, eq_self, if_pos, if_neg, mx_eq, mn_eq, pendulumref30_Combine.run, rcombine0 h, hf]
  rw [show root l (rd ((0 : Int), ((0 : Int), (0 : Int))) l 0).2.1 l.length = root l 140737488355328 l.length from h9]
  simp (disch := omega) only [smallI_t, inB_t, wrap64, dec_t, dec_f, dec_not, dec_and, dec_or, cond_ite, cond_true, cond_false, Option.bind_some, Option.bind_none, Bool.or_true, Bool.true_or, Bool.and_true, Bool.true_and, Bool.and_false, Bool.false_and, Bool.or_false, Bool.false_or, Bool.not_true, Bool.not_false, Bool.or_self, Bool.and_self, Bool.not_not, if_true, if_false, and_self, true_and, and_true, and_false, false_and, or_true, true_or, or_false, false_or, not_true_eq_false, not_false_eq_true, decide_true, decide_false, eq_self, if_pos, if_neg, mx_eq, mn_eq, rcombine1 h _ ho]
  rfl
theorem rcombine_nil : pendulumref30_Combine.run .lim (([] : List Peer), ()) = some (((0 : Int), ((0 : Int), (0 : Int))), (19 : Int), ()) := by
  simp (disch := omega) only [smallI_t, inB_t, wrap64, dec_t, dec_f, dec_not, dec_and, dec_or, cond_ite, cond_true, cond_false, Option.bind_some, Option.bind_none, Bool.or_true, Bool.true_or, Bool.and_true, Bool.true_and, Bool.and_false, Bool.false_and, Bool.or_false, Bool.false_or, Bool.not_true, Bool.not_false, Bool.or_self, Bool.and_self, Bool.not_not, if_true, if_false, and_self, true_and, and_true, and_false, false_and, or_true, true_or, or_false, false_or, not_true_eq_false, not_false_eq_true, decide_true, decide_false, eq_self, if_pos, if_neg, mx_eq, mn_eq, pendulumref30_Combine.run, List.length_nil]
end Go.AM
end

section
namespace Go.AM
theorem tells_true (l : List Peer) (hl : l.length ≤ 9223372036854775807) (k : Int) : pendulumlaw30_CombTells.run .lim (l, k, ()) = some true := by
  rcases fit_eq l hl with h | ⟨h1, h⟩
  · simp (disch := omega) only [smallI_t, inB_t, wrap64, dec_t, dec_f, dec_not, dec_and, dec_or, cond_ite, cond_true, cond_false, Option.bind_some, Option.bind_none, Bool.or_true, Bool.true_or, Bool.and_true, Bool.true_and, Bool.and_false, Bool.false_and, Bool.or_false, Bool.false_or, Bool.not_true, Bool.not_false, Bool.or_self, Bool.and_self, Bool.not_not, if_true, if_false, and_self, true_and, and_true, and_false, false_and, or_true, true_or, or_false, false_or, not_true_eq_false, not_false_eq_true, decide_true, decide_false, eq_self, if_pos, if_neg, mx_eq, mn_eq, pendulumlaw30_CombTells.run, h]
  · have h10 := h.1
    have step : ∀ m, m < l.length → pendulumlaw30_CombTells.l0 .lim (l, k, l, (l.length : Int), (m : Int), ()) = pendulumlaw30_CombTells.l0 .lim (l, k, l, (l.length : Int), ((m + 1 : Nat) : Int), ()) := by
      intro m hm
      rw [pendulumlaw30_CombTells.q0]
      simp (disch := omega) only [smallI_t, inB_t, wrap64, dec_t, dec_f, dec_not, dec_and, dec_or, cond_ite, cond_true, cond_false, Option.bind_some, Option.bind_none, Bool.or_true, Bool.true_or, Bool.and_true, Bool.true_and, Bool.and_false, Bool.false_and, Bool.or_false, Bool.false_or, Bool.not_true, Bool.not_false, Bool.or_self, Bool.and_self, Bool.not_not, if_true, if_false, and_self, true_and, and_true, and_false, false_and, or_true, true_or, or_false, false_or, not_true_eq_false, not_false_eq_true, decide_true, decide_false, eq_self, if_pos, if_neg, mx_eq, mn_eq, pendulumlaw30_CombTells.b0, rd_pk, weight_eq _ (h.2 m hm), rweight_eq _ (h.2 m hm)]
      rfl
    have h2 := loop_to (fun m : Nat => (l, k, l, (l.length : Int), (m : Int), ())) step
    have h3 : pendulumlaw30_CombTells.l0 .lim (l, k, l, (l.length : Int), (0 : Int), ()) = some (.inr (l, k, ())) := by
      refine h2.trans ?_
      rw [pendulumlaw30_CombTells.q0]
      simp (disch := omega) only [smallI_t, inB_t, wrap64, dec_t, dec_f, dec_not, dec_and, dec_or, cond_ite, cond_true, cond_false, Option.bind_some, Option.bind_none, Bool.or_true, Bool.true_or, Bool.and_true, Bool.true_and, Bool.and_false, Bool.false_and, Bool.or_false, Bool.false_or, Bool.not_true, Bool.not_false, Bool.or_self, Bool.and_self, Bool.not_not, if_true, if_false, and_self, true_and, and_true, and_false, false_and, or_true, true_or, or_false, false_or, not_true_eq_false, not_false_eq_true, decide_true, decide_false, eq_self, if_pos, if_neg, mx_eq, mn_eq, pendulumlaw30_CombTells.b0]
    by_cases h0 : 0 < l.length
    · simp (disch := omega) only [smallI_t, inB_t, wrap64, dec_t, dec_f, dec_not, dec_and, dec_or, cond_ite, cond_true, cond_false, Option.bind_some, Option.bind_none, Bool.or_true, Bool.true_or, Bool.and_true, Bool.true_and, Bool.and_false, Bool.false_and, Bool.or_false, Bool.false_or, Bool.not_true, Bool.not_false, Bool.or_self, Bool.and_self, Bool.not_not, if_true, if_false, and_self, true_and, and_true, and_false, false_and, or_true, true_or, or_false, false_or, not_true_eq_false, not_false_eq_true, decide_true, decide_false, eq_self, if_pos, if_neg, mx_eq, mn_eq, pendulumlaw30_CombTells.run, h1, h3, combine_eq h h0, rcombine_eq h h0, far_eq h, rfar_eq h]
    · have : l = [] := List.length_eq_zero_iff.1 (by omega)
      subst this
      rw [List.length_nil] at h3
      simp (disch := omega) only [smallI_t, inB_t, wrap64, dec_t, dec_f, dec_not, dec_and, dec_or, cond_ite, cond_true, cond_false, Option.bind_some, Option.bind_none, Bool.or_true, Bool.true_or, Bool.and_true, Bool.true_and, Bool.and_false, Bool.false_and, Bool.or_false, Bool.false_or, Bool.not_true, Bool.not_false, Bool.or_self, Bool.and_self, Bool.not_not, if_true, if_false, and_self, true_and, and_true, and_false, false_and, or_true, true_or, or_false, false_or, not_true_eq_false, not_false_eq_true, decide_true, decide_false, eq_self, if_pos, if_neg, mx_eq, mn_eq, pendulumlaw30_CombTells.run, h1, h3, combine_nil, rcombine_nil, far_eq h, rfar_eq h, List.length_nil]
theorem tells_ok : ∀ x, oks [.one (.lst (.pair (.int .i64) (.pair (.int .i64) (.int .i64)))), .one (.int .i64)] x → pendulumlaw30_CombTells.run .lim x = some true := by
  intro x h
  match x with
  | (l, k, ()) => exact tells_true l h.1.1 k
end Go.AM
end

section
namespace Go.Proofs.Ytbkblmaplmbicaa.combTells
open Go.ChangeShapes Go.WideShapes Go.ChangeAt Go.RowKit
set_option linter.unusedVariables false
theorem own : ownKnob Try.prog.godebug = none := by kernel_rfl
theorem laidOut : laidOutB Try.prog = true := by kernel_rfl
set_option maxRecDepth 100000 in
theorem lifted (os : Os) (started : os.Started) (H : Type) (enc : TypeId × Value → H) :
    ReturnsInHanded {} Try.checked os 3 .any (Rows.combTellsSpec.pre6 enc Try.prog Try.f3 Rows.combTellsRow.domain false) (Rows.combTellsSpec.post enc Try.prog Try.f3 false true false false) := by
  refine returnsInHanded_of_change_sized (C := Try.checked) own started (by kernel_rfl) Try.func3
    (ChangeSpec.witness6 (enc := enc) (C := Try.checked) false ⟨#[], #[.slice none 0 0, .int .i64 0], []⟩ 8 (by kernel_rfl) (by kernel_rfl) (by kernel_rfl) (by kernel_rfl)) ?_
  intro W base args ds gs before hval hW _ _ _
  exact Go.AM.law_contract (enc := enc) laidOut (Go.AM.pendulumlaw30_CombTells.ok .lim) (by kernel_rfl) (by rfl) (by kernel_rfl) rfl (by kernel_rfl) rfl (fun ds h => by match ds, h with | [a, b], _ => rfl) Go.AM.tells_ok W base args ds gs before hval hW
theorem over : Rows.combTellsRow.holds Try.pinned (OpenSpec.ofChange Rows.combTellsSpec) :=
  OpenClaim.holds_of_wide 3 Try.f3 rfl rfl rfl rfl rfl rfl rfl ⟨rfl, rfl, rfl, rfl, rfl⟩ rfl rfl rfl rfl rfl (by kernel_rfl) Try.func3 (by kernel_rfl)
    (of_decide_eq_true (by kernel_rfl)) (by unfold Func.isWrapper; first | (rw [if_pos (by decide +kernel)]; kernel_rfl) | (rw [if_neg (by decide +kernel)]; exact ⟨rfl, rfl⟩))
    (fun os started H enc _ => lifted os started H enc)
theorem proved : Rows.CombTellsSaid := over
end Go.Proofs.Ytbkblmaplmbicaa.combTells
namespace Go.Proofs.Ytbkblmaplmbicaa
/-- The row, under a short name, for the claim. -/
theorem combTells_holds : Rows.CombTellsSaid := combTells.proved
end Go.Proofs.Ytbkblmaplmbicaa
end
