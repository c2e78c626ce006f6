import Derived.Test.YtaicfpkjdobfoaaPart2

/-! The functions that the laws of this seat reach, as plain functions, and what these answer; no condition. -/
set_option linter.unusedSimpArgs false
set_option linter.unusedVariables false

section
namespace Go.AM
structure MostW (l : List Peer) (m low high : Int) : Prop where
  at_low : (cnt l low : Int) = m
  begins : ∃ p ∈ l, lo p = low
  le : ∀ p ∈ l, (cnt l (lo p) : Int) ≤ m
  first : ∀ p ∈ l, (cnt l (lo p) : Int) = m → low ≤ lo p
  ends : ∃ p ∈ l, hi p = high ∧ lo p ≤ low ∧ low ≤ hi p
  least : ∀ p ∈ l, lo p ≤ low → low ≤ hi p → high ≤ hi p
theorem MostS.toW {l : List Peer} {m low high : Int} (h : MostS l m low high) : MostW l m low high := ⟨h.1, h.2, h.3, h.4, h.5, fun p hp _ => h.6 p hp⟩
theorem MostW.unique {l : List Peer} {m low high m' low' high' : Int} (h : MostW l m low high) (h' : MostW l m' low' high') : m = m' ∧ low = low' ∧ high = high' := by
  obtain ⟨p, hp, e⟩ := h.begins
  obtain ⟨q, hq, e'⟩ := h'.begins
  have h1 := h.le q hq
  have h2 := h'.le p hp
  have h3 := h.at_low
  have h4 := h'.at_low
  rw [e'] at h1; rw [e] at h2
  have hm : m = m' := by omega
  have h5 := h.first q hq (by rw [e']; omega)
  have h6 := h'.first p hp (by rw [e]; omega)
  have hl : low = low' := by omega
  subst hl
  obtain ⟨u, hu, u1, u2, u3⟩ := h.ends
  obtain ⟨v, hv, v1, v2, v3⟩ := h'.ends
  have h7 := h.least v hv v2 v3
  have h8 := h'.least u hu u2 u3
  exact ⟨hm, rfl, by omega⟩
theorem cnt_perm {l l' : List Peer} (h : l.Perm l') (t : Int) : cnt l t = cnt l' t := h.countP_eq _
theorem MostW.perm {l l' : List Peer} {m low high : Int} (hp : l.Perm l') (h : MostW l m low high) : MostW l' m low high := by
  obtain ⟨p, hp1, e⟩ := h.begins
  obtain ⟨u, hu, u1, u2, u3⟩ := h.ends
  exact ⟨by rw [← cnt_perm hp]; exact h.at_low, ⟨p, hp.mem_iff.1 hp1, e⟩, fun q hq => by rw [← cnt_perm hp]; exact h.le q (hp.mem_iff.2 hq),
    fun q hq => by rw [← cnt_perm hp]; exact h.first q (hp.mem_iff.2 hq), ⟨u, hp.mem_iff.1 hu, u1, u2, u3⟩, fun q hq => h.least q (hp.mem_iff.2 hq)⟩
theorem MostW.lh {l : List Peer} {m low high : Int} (h : MostW l m low high) : low ≤ high := by
  obtain ⟨u, hu, u1, u2, u3⟩ := h.ends; omega
/-- no point is reached by more -/
theorem MostW.any {l : List Peer} {m low high : Int} (h : MostW l m low high) (t : Int) : (cnt l t : Int) ≤ m := by
  by_cases h0 : cnt l t = 0
  · have := h.at_low; omega
  · have hpos : 0 < l.countP (reachB t) := by unfold cnt at h0; omega
    -- the one that begins last of those that reach t
    have : ∀ L : List Peer, (∃ p ∈ L, reachB t p = true) → ∃ p ∈ L, reachB t p = true ∧ ∀ q ∈ L, reachB t q = true → lo q ≤ lo p := by
      intro L
      induction L with
      | nil => rintro ⟨p, hp, -⟩; cases hp
      | cons x r ih =>
        rintro ⟨p, hp, hr⟩
        by_cases hrr : ∃ p ∈ r, reachB t p = true
        · obtain ⟨q, hq, hqr, hmax⟩ := ih hrr
          by_cases hx : reachB t x = true ∧ lo q < lo x
          · refine ⟨x, by simp, hx.1, fun y hy hyr => ?_⟩
            rcases List.mem_cons.1 hy with rfl | hy
            · omega
            · have := hmax y hy hyr; omega
          · refine ⟨q, by simp [hq], hqr, fun y hy hyr => ?_⟩
            rcases List.mem_cons.1 hy with rfl | hy
            · have : ¬ lo q < lo y := fun hc => hx ⟨hyr, hc⟩
              omega
            · exact hmax y hy hyr
        · rcases List.mem_cons.1 hp with rfl | hp
          · refine ⟨p, by simp, hr, fun y hy hyr => ?_⟩
            rcases List.mem_cons.1 hy with rfl | hy
            · omega
            · exact absurd ⟨y, hy, hyr⟩ hrr
          · exact absurd ⟨p, hp, hr⟩ hrr
    obtain ⟨p, hp, hpr, hmax⟩ := this l (List.countP_pos_iff.1 hpos)
    have h1 : cnt l t ≤ cnt l (lo p) := by
      apply List.countP_mono_left
      intro q hq hqr
      have := hmax q hq hqr
      unfold reachB at *
      simp only [Bool.and_eq_true, decide_eq_true_eq] at *
      omega
    have := h.le p hp
    omega
theorem cnt_pos {l : List Peer} (hl : ∀ p ∈ l, 0 ≤ p.2.1) {p : Peer} (hp : p ∈ l) : 0 < cnt l (lo p) := by
  unfold cnt
  rw [List.countP_pos_iff]
  exact ⟨p, hp, by have := hl p hp; unfold reachB lo hi; simp; omega⟩
/-! the document's -/
def best (l : List Peer) (k : Nat) (m t : Int) : Prop := (k = 0 ∧ m = 0 ∧ t = 0) ∨ (∃ j, j < k ∧ lo (rd zP l (j : Int)) = t) ∧ (cnt l t : Int) = m ∧ ∀ j : Nat, j < k → (cnt l (lo (rd zP l (j : Int))) : Int) ≤ m ∧ ((cnt l (lo (rd zP l (j : Int))) : Int) = m → t ≤ lo (rd zP l (j : Int)))
theorem rmost0 {l : List Peer} (h : fitL l) : ∃ m t, pendulumref29_Most.l0 .lim (l, (0 : Int), (0 : Int), (0 : Int), ()) = some (l, m, t, ()) ∧ best l l.length m t := by
  have h10 := h.1
  have hl : ∀ p ∈ l, 0 ≤ p.2.1 := fun p hp => (fit_mem h hp).2.2.1
  have main : ∀ k, k ≤ l.length → ∃ m t, pendulumref29_Most.l0 .lim (l, (0 : Int), (0 : Int), (0 : Int), ()) = pendulumref29_Most.l0 .lim (l, m, t, (k : Int), ()) ∧ best l k m t := by
    intro k
    induction k with
    | zero => intro _; exact ⟨0, 0, rfl, .inl ⟨rfl, rfl, rfl⟩⟩
    | succ k ih =>
      intro hk
      obtain ⟨m, t, e, hb⟩ := ih (by omega)
      rw [e, pendulumref29_Most.q0]
      have hf := h.2 k (by omega)
      have hmem := rd_mem (d := zP) (xs := l) (i := (k : Int)) (by omega) (by omega)
      have hpos := cnt_pos hl hmem
      simp only [pendulumref29_Most.b0, Prod.eta]
      rw [cond_pos (by simp (disch := omega) only [smallI_t, inB_t, cutB_t, wrap64, dec_t, dec_f, dec_not, dec_and, dec_or, cond_ite, cond_true, cond_false, Option.bind_some, Option.bind_none, Bool.or_true, Bool.true_or, Bool.and_true, Bool.true_and, Bool.and_false, Bool.false_and, Bool.or_false, Bool.false_or, Bool.not_true, Bool.not_false, Bool.or_self, Bool.and_self, Bool.not_not, if_true, if_false, and_self, true_and, and_true, and_false, false_and, or_true, true_or, or_false, false_or, not_true_eq_false, not_false_eq_true, decide_true, decide_false, eq_self, if_pos, if_neg, mx_eq, mn_eq]), cond_pos (by simp (disch := omega) only [smallI_t, inB_t, cutB_t, wrap64, dec_t, dec_f, dec_not, dec_and, dec_or, cond_ite, cond_true, cond_false, Option.bind_some, Option.bind_none, Bool.or_true, Bool.true_or, Bool.and_true, Bool.true_and, Bool.and_false, Bool.false_and, Bool.or_false, Bool.false_or, Bool.not_true, Bool.not_false, Bool.or_self, Bool.and_self, Bool.not_not, if_true, if_false, and_self, true_and, and_true, and_false, false_and, or_true, true_or, or_false, false_or, not_true_eq_false, not_false_eq_true, decide_true, decide_false, eq_self, if_pos, if_neg, mx_eq, mn_eq]), cond_pos (by simp (disch := omega) only [smallI_t, inB_t, cutB_t, wrap64, dec_t, dec_f, dec_not, dec_and, dec_or, cond_ite, cond_true, cond_false, Option.bind_some, Option.bind_none, Bool.or_true, Bool.true_or, Bool.and_true, Bool.true_and, Bool.and_false, Bool.false_and, Bool.or_false, Bool.false_or, Bool.not_true, Bool.not_false, Bool.or_self, Bool.and_self, Bool.not_not, if_true, if_false, and_self, true_and, and_true, and_false, false_and, or_true, true_or, or_false, false_or, not_true_eq_false, not_false_eq_true, decide_true, decide_false, eq_self, if_pos, if_neg, mx_eq, mn_eq]), rreach_eq hf, Option.bind_some]
      simp only []
      rw [rcount_eq h, Option.bind_some]
      generalize hp : rd zP l (k : Int) = p at *
      by_cases hc : (cnt l (lo p) : Int) > m ∨ (cnt l (lo p) : Int) = m ∧ lo p < t
      · refine ⟨cnt l (lo p), lo p, ?_, .inr ⟨⟨k, by omega, by rw [hp]⟩, rfl, ?_⟩⟩
        · rw [cond_pos (by simp (disch := omega) only [smallI_t, inB_t, cutB_t, wrap64, dec_t, dec_f, dec_not, dec_and, dec_or, cond_ite, cond_true, cond_false, Option.bind_some, Option.bind_none, Bool.or_true, Bool.true_or, Bool.and_true, Bool.true_and, Bool.and_false, Bool.false_and, Bool.or_false, Bool.false_or, Bool.not_true, Bool.not_false, Bool.or_self, Bool.and_self, Bool.not_not, if_true, if_false, and_self, true_and, and_true, and_false, false_and, or_true, true_or, or_false, false_or, not_true_eq_false, not_false_eq_true, decide_true, decide_false, eq_self, if_pos, if_neg, mx_eq, mn_eq])]; simp (disch := omega) only [smallI_t, inB_t, cutB_t, wrap64, dec_t, dec_f, dec_not, dec_and, dec_or, cond_ite, cond_true, cond_false, Option.bind_some, Option.bind_none, Bool.or_true, Bool.true_or, Bool.and_true, Bool.true_and, Bool.and_false, Bool.false_and, Bool.or_false, Bool.false_or, Bool.not_true, Bool.not_false, Bool.or_self, Bool.and_self, Bool.not_not, if_true, if_false, and_self, true_and, and_true, and_false, false_and, or_true, true_or, or_false, false_or, not_true_eq_false, not_false_eq_true, decide_true, decide_false, eq_self, if_pos, if_neg, mx_eq, mn_eq]; rfl
        · intro j hj
          by_cases hjk : j = k
          · subst hjk; rw [hp]; omega
          · rcases hb with ⟨rfl, hb⟩ | ⟨-, -, hb⟩
            · omega
            · have := hb j (by omega); omega
      · refine ⟨m, t, ?_, .inr ?_⟩
        · rw [cond_neg (by simp (disch := omega) only [smallI_t, inB_t, cutB_t, wrap64, dec_t, dec_f, dec_not, dec_and, dec_or, cond_ite, cond_true, cond_false, Option.bind_some, Option.bind_none, Bool.or_true, Bool.true_or, Bool.and_true, Bool.true_and, Bool.and_false, Bool.false_and, Bool.or_false, Bool.false_or, Bool.not_true, Bool.not_false, Bool.or_self, Bool.and_self, Bool.not_not, if_true, if_false, and_self, true_and, and_true, and_false, false_and, or_true, true_or, or_false, false_or, not_true_eq_false, not_false_eq_true, decide_true, decide_false, eq_self, if_pos, if_neg, mx_eq, mn_eq])]; simp (disch := omega) only [smallI_t, inB_t, cutB_t, wrap64, dec_t, dec_f, dec_not, dec_and, dec_or, cond_ite, cond_true, cond_false, Option.bind_some, Option.bind_none, Bool.or_true, Bool.true_or, Bool.and_true, Bool.true_and, Bool.and_false, Bool.false_and, Bool.or_false, Bool.false_or, Bool.not_true, Bool.not_false, Bool.or_self, Bool.and_self, Bool.not_not, if_true, if_false, and_self, true_and, and_true, and_false, false_and, or_true, true_or, or_false, false_or, not_true_eq_false, not_false_eq_true, decide_true, decide_false, eq_self, if_pos, if_neg, mx_eq, mn_eq]; rfl
        · rcases hb with ⟨rfl, rfl, rfl⟩ | ⟨⟨j, hj, hj'⟩, h2, hb⟩
          · exact absurd (.inl (by omega)) hc
          · refine ⟨⟨j, by omega, hj'⟩, h2, fun i hi => ?_⟩
            by_cases hik : i = k
            · subst hik; rw [hp]; omega
            · exact hb i (by omega)
  obtain ⟨m, t, e, hb⟩ := main l.length (Nat.le_refl _)
  refine ⟨m, t, ?_, hb⟩
  rw [e, pendulumref29_Most.q0]
  simp (disch := omega) only [smallI_t, inB_t, cutB_t, wrap64, dec_t, dec_f, dec_not, dec_and, dec_or, cond_ite, cond_true, cond_false, Option.bind_some, Option.bind_none, Bool.or_true, Bool.true_or, Bool.and_true, Bool.true_and, Bool.and_false, Bool.false_and, Bool.or_false, Bool.false_or, Bool.not_true, Bool.not_false, Bool.or_self, Bool.and_self, Bool.not_not, if_true, if_false, and_self, true_and, and_true, and_false, false_and, or_true, true_or, or_false, false_or, not_true_eq_false, not_false_eq_true, decide_true, decide_false, eq_self, if_pos, if_neg, mx_eq, mn_eq, pendulumref29_Most.b0]
def least (l : List Peer) (t : Int) (k : Nat) (e : Int) (f : Bool) : Prop := (f = true ∧ ∀ j : Nat, j < k → reachB t (rd zP l (j : Int)) = false) ∨ (f = false ∧ (∃ j, j < k ∧ reachB t (rd zP l (j : Int)) = true ∧ hi (rd zP l (j : Int)) = e) ∧ ∀ j : Nat, j < k → reachB t (rd zP l (j : Int)) = true → e ≤ hi (rd zP l (j : Int)))
theorem rmost1 {l : List Peer} (h : fitL l) (m t : Int) : ∃ e f, pendulumref29_Most.l1 .lim (l, m, t, (0 : Int), true, (0 : Int), ()) = some (m, t, e, ()) ∧ least l t l.length e f := by
  have h10 := h.1
  have main : ∀ k, k ≤ l.length → ∃ e f, pendulumref29_Most.l1 .lim (l, m, t, (0 : Int), true, (0 : Int), ()) = pendulumref29_Most.l1 .lim (l, m, t, e, f, (k : Int), ()) ∧ least l t k e f := by
    intro k
    induction k with
    | zero => intro _; exact ⟨0, true, rfl, .inl ⟨rfl, fun j hj => absurd hj (by omega)⟩⟩
    | succ k ih =>
      intro hk
      obtain ⟨e, f, he, hb⟩ := ih (by omega)
      rw [he, pendulumref29_Most.q1]
      have hf := h.2 k (by omega)
      simp only [pendulumref29_Most.b1, Prod.eta]
      rw [cond_pos (by simp (disch := omega) only [smallI_t, inB_t, cutB_t, wrap64, dec_t, dec_f, dec_not, dec_and, dec_or, cond_ite, cond_true, cond_false, Option.bind_some, Option.bind_none, Bool.or_true, Bool.true_or, Bool.and_true, Bool.true_and, Bool.and_false, Bool.false_and, Bool.or_false, Bool.false_or, Bool.not_true, Bool.not_false, Bool.or_self, Bool.and_self, Bool.not_not, if_true, if_false, and_self, true_and, and_true, and_false, false_and, or_true, true_or, or_false, false_or, not_true_eq_false, not_false_eq_true, decide_true, decide_false, eq_self, if_pos, if_neg, mx_eq, mn_eq]), cond_pos (by simp (disch := omega) only [smallI_t, inB_t, cutB_t, wrap64, dec_t, dec_f, dec_not, dec_and, dec_or, cond_ite, cond_true, cond_false, Option.bind_some, Option.bind_none, Bool.or_true, Bool.true_or, Bool.and_true, Bool.true_and, Bool.and_false, Bool.false_and, Bool.or_false, Bool.false_or, Bool.not_true, Bool.not_false, Bool.or_self, Bool.and_self, Bool.not_not, if_true, if_false, and_self, true_and, and_true, and_false, false_and, or_true, true_or, or_false, false_or, not_true_eq_false, not_false_eq_true, decide_true, decide_false, eq_self, if_pos, if_neg, mx_eq, mn_eq]), cond_pos (by simp (disch := omega) only [smallI_t, inB_t, cutB_t, wrap64, dec_t, dec_f, dec_not, dec_and, dec_or, cond_ite, cond_true, cond_false, Option.bind_some, Option.bind_none, Bool.or_true, Bool.true_or, Bool.and_true, Bool.true_and, Bool.and_false, Bool.false_and, Bool.or_false, Bool.false_or, Bool.not_true, Bool.not_false, Bool.or_self, Bool.and_self, Bool.not_not, if_true, if_false, and_self, true_and, and_true, and_false, false_and, or_true, true_or, or_false, false_or, not_true_eq_false, not_false_eq_true, decide_true, decide_false, eq_self, if_pos, if_neg, mx_eq, mn_eq]), rreach_eq hf, Option.bind_some]
      simp only []
      rw [show (decide (lo (rd zP l (k : Int)) ≤ t) && decide (t ≤ hi (rd zP l (k : Int)))) = reachB t (rd zP l (k : Int)) from rfl]
      have w : IntKind.i64.wrap ((k : Int) + 1) = ((k + 1 : Nat) : Int) := by simp (disch := omega) only [smallI_t, inB_t, cutB_t, wrap64, dec_t, dec_f, dec_not, dec_and, dec_or, cond_ite, cond_true, cond_false, Option.bind_some, Option.bind_none, Bool.or_true, Bool.true_or, Bool.and_true, Bool.true_and, Bool.and_false, Bool.false_and, Bool.or_false, Bool.false_or, Bool.not_true, Bool.not_false, Bool.or_self, Bool.and_self, Bool.not_not, if_true, if_false, and_self, true_and, and_true, and_false, false_and, or_true, true_or, or_false, false_or, not_true_eq_false, not_false_eq_true, decide_true, decide_false, eq_self, if_pos, if_neg, mx_eq, mn_eq]; rfl
      rw [w]
      cases hr : reachB t (rd zP l (k : Int)) with
      | false =>
        refine ⟨e, f, by simp, ?_⟩
        rcases hb with ⟨h1, h2⟩ | ⟨h1, ⟨j, hj, hj'⟩, h2⟩
        · refine .inl ⟨h1, fun j hj => ?_⟩
          by_cases hjk : j = k
          · subst hjk; exact hr
          · exact h2 j (by omega)
        · refine .inr ⟨h1, ⟨j, by omega, hj'⟩, fun i hi hi' => ?_⟩
          by_cases hik : i = k
          · subst hik; rw [hr] at hi'; cases hi'
          · exact h2 i (by omega) hi'
      | true =>
        rcases hb with ⟨h1, h2⟩ | ⟨h1, ⟨j, hj, hj', hje⟩, h2⟩
        · subst h1
          refine ⟨hi (rd zP l (k : Int)), false, by simp, .inr ⟨rfl, ⟨k, by omega, hr, rfl⟩, fun i hi' hi2 => ?_⟩⟩
          by_cases hik : i = k
          · subst hik; omega
          · have := h2 i (by omega); rw [this] at hi2; cases hi2
        · subst h1
          by_cases hc : hi (rd zP l (k : Int)) < e
          · refine ⟨hi (rd zP l (k : Int)), false, by simp [hc], .inr ⟨rfl, ⟨k, by omega, hr, rfl⟩, fun i hi' hi2 => ?_⟩⟩
            by_cases hik : i = k
            · subst hik; omega
            · have := h2 i (by omega) hi2; omega
          · refine ⟨e, false, by simp [hc], .inr ⟨rfl, ⟨j, by omega, hj', hje⟩, fun i hi' hi2 => ?_⟩⟩
            by_cases hik : i = k
            · subst hik; omega
            · exact h2 i (by omega) hi2
  obtain ⟨e, f, he, hb⟩ := main l.length (Nat.le_refl _)
  refine ⟨e, f, ?_, hb⟩
  rw [he, pendulumref29_Most.q1]
  simp (disch := omega) only [smallI_t, inB_t, cutB_t, wrap64, dec_t, dec_f, dec_not, dec_and, dec_or, cond_ite, cond_true, cond_false, Option.bind_some, Option.bind_none, Bool.or_true, Bool.true_or, Bool.and_true, Bool.true_and, Bool.and_false, Bool.false_and, Bool.or_false, Bool.false_or, Bool.not_true, Bool.not_false, Bool.or_self, Bool.and_self, Bool.not_not, if_true, if_false, and_self, true_and, and_true, and_false, false_and, or_true, true_or, or_false, false_or, not_true_eq_false, not_false_eq_true, decide_true, decide_false, eq_self, if_pos, if_neg, mx_eq, mn_eq, pendulumref29_Most.b1]
theorem mem_rd {l : List Peer} {p : Peer} (h : p ∈ l) : ∃ j : Nat, j < l.length ∧ rd zP l (j : Int) = p := by
  obtain ⟨k, hk, rfl⟩ := List.getElem_of_mem h
  exact ⟨k, hk, rd_ix hk⟩
theorem rmost_spec {l : List Peer} (h : fitL l) (hne : l ≠ []) : ∃ m low high, pendulumref29_Most.run .lim (l, ()) = some (m, low, high, ()) ∧ MostW l m low high := by
  have hl : ∀ p ∈ l, 0 ≤ p.2.1 := fun p hp => (fit_mem h hp).2.2.1
  obtain ⟨m, t, e0, hb⟩ := rmost0 h
  obtain ⟨e, f, e1, hlst⟩ := rmost1 h m t
  have hlen : 0 < l.length := List.length_pos_iff.2 hne
  rcases hb with ⟨h0, -⟩ | ⟨⟨j, hj, hj'⟩, h2, hb⟩
  · omega
  · have hjm := rd_mem (d := zP) (xs := l) (i := (j : Int)) (by omega) (by omega)
    have hpos := cnt_pos hl hjm
    rw [hj'] at hpos
    have hrj : reachB t (rd zP l (j : Int)) = true := by
      have := hl _ hjm
      rw [← hj']
      unfold reachB lo hi; simp; omega
    refine ⟨m, t, e, ?_, ⟨h2, ⟨_, hjm, hj'⟩, ?_, ?_, ?_, ?_⟩⟩
    · simp only [pendulumref29_Most.run]
      rw [e0, Option.bind_some]
      simp only []
      rw [cond_neg (by simp (disch := omega) only [smallI_t, inB_t, cutB_t, wrap64, dec_t, dec_f, dec_not, dec_and, dec_or, cond_ite, cond_true, cond_false, Option.bind_some, Option.bind_none, Bool.or_true, Bool.true_or, Bool.and_true, Bool.true_and, Bool.and_false, Bool.false_and, Bool.or_false, Bool.false_or, Bool.not_true, Bool.not_false, Bool.or_self, Bool.and_self, Bool.not_not, if_true, if_false, and_self, true_and, and_true, and_false, false_and, or_true, true_or, or_false, false_or, not_true_eq_false, not_false_eq_true, decide_true, decide_false, eq_self, if_pos, if_neg, mx_eq, mn_eq]), e1]
      rfl
    · intro p hp
      obtain ⟨i, hi, rfl⟩ := mem_rd hp
      exact (hb i hi).1
    · intro p hp
      obtain ⟨i, hi, rfl⟩ := mem_rd hp
      exact (hb i hi).2
    · rcases hlst with ⟨-, h3⟩ | ⟨-, ⟨i, hi', hr, he⟩, h3⟩
      · rw [h3 j hj] at hrj; cases hrj
      · unfold reachB at hr
        simp only [Bool.and_eq_true, decide_eq_true_eq] at hr
        exact ⟨_, rd_mem (d := zP) (by omega) (by omega), he, hr.1, hr.2⟩
    · intro p hp h4 h5
      obtain ⟨i, hi', rfl⟩ := mem_rd hp
      rcases hlst with ⟨-, h3⟩ | ⟨-, -, h3⟩
      · rw [h3 j hj] at hrj; cases hrj
      · exact h3 i hi' (by unfold reachB; simp [h4, h5])
theorem rmost_nil : pendulumref29_Most.run .lim (([] : List Peer), ()) = some (0, 0, 0, ()) := by
  have h : fitL [] := ⟨by simp, fun k hk => by simp at hk⟩
  obtain ⟨m, t, e0, hb⟩ := rmost0 h
  rcases hb with ⟨-, rfl, rfl⟩ | ⟨⟨j, hj, -⟩, -⟩
  · simp only [pendulumref29_Most.run]
    rw [e0]
    rfl
  · exact absurd hj (by simp)
/-- the same -/
theorem most_same {l : List Peer} (h : fitL l) : ∃ m low high, sel_Most.run .lim (l, ()) = some (m, low, high, ()) ∧ pendulumref29_Most.run .lim (l, ()) = some (m, low, high, ()) ∧ (l = [] ∧ m = 0 ∧ low = 0 ∧ high = 0 ∨ l ≠ [] ∧ MostW l m low high) := by
  by_cases hne : l = []
  · subst hne
    exact ⟨0, 0, 0, most_nil, rmost_nil, .inl ⟨rfl, rfl, rfl, rfl⟩⟩
  · obtain ⟨m, low, high, h1, h2⟩ := most_spec h hne
    obtain ⟨m', low', high', h3, h4⟩ := rmost_spec h hne
    obtain ⟨rfl, rfl, rfl⟩ := h2.toW.unique h4
    exact ⟨_, _, _, h1, h3, .inr ⟨hne, h4⟩⟩
end Go.AM
end
section
namespace Go.AM
/-! what can be -/
def fitD (p : Peer) : Bool := decide (-140737488355328 ≤ p.1 ∧ p.1 ≤ 140737488355328) && (decide (0 ≤ p.2.1 ∧ p.2.1 ≤ 140737488355328) && decide (0 ≤ p.2.2 ∧ p.2.2 ≤ 140737488355328))
theorem fitD_iff (p : Peer) : fitD p = true ↔ fitP p := by
  unfold fitD fitP
  simp only [Bool.and_eq_true, decide_eq_true_eq]
  omega
theorem within_eq (n a b : Int) : sel_within.run .lim (n, a, b, ()) = some (decide (a ≤ n ∧ n ≤ b)) := by
  simp [sel_within.run]
theorem rwithin_eq (n a b : Int) : pendulumref29_within.run .lim (n, a, b, ()) = some (decide (a ≤ n ∧ n ≤ b)) := by
  simp [pendulumref29_within.run]
theorem fit1_eq (p : Peer) : sel_Fit_1.run .lim (p, ()) = some (!fitD p) := by
  unfold fitD
  simp only [sel_Fit_1.run, within_eq, Option.bind_some, Bool.not_not]
  cases decide (-140737488355328 ≤ p.1 ∧ p.1 ≤ 140737488355328) with
  | false => rfl
  | true =>
    cases decide (0 ≤ p.2.1 ∧ p.2.1 ≤ 140737488355328) with
    | false => rfl
    | true =>
      cases decide (0 ≤ p.2.2 ∧ p.2.2 ≤ 140737488355328) <;> rfl
def fitB (l : List Peer) : Bool := decide (l.length ≤ 10) && l.all fitD
theorem fitB_iff (l : List Peer) : fitB l = true ↔ fitL l := by
  unfold fitB fitL
  rw [Bool.and_eq_true, decide_eq_true_iff, List.all_eq_true]
  constructor
  · rintro ⟨h1, h2⟩
    exact ⟨h1, fun k hk => (fitD_iff _).1 (h2 _ (rd_mem (by omega) (by omega)))⟩
  · rintro ⟨h1, h2⟩
    refine ⟨h1, fun p hp => ?_⟩
    obtain ⟨k, hk, rfl⟩ := mem_rd hp
    exact (fitD_iff _).2 (h2 k hk)
theorem fit_run (l : List Peer) (hl : l.length ≤ 9223372036854775807) : sel_Fit.run .lim (l, ()) = some (fitB l) := by
  by_cases h10 : l.length ≤ 10
  · have step : ∀ k, k < l.length → sel_Fit.l0 .lim (l, (l.length : Int), (k : Int), true, ()) = bif !fitD (rd zP l (k : Int)) then some (.inl ((k : Int), true, ())) else sel_Fit.l0 .lim (l, (l.length : Int), ((k + 1 : Nat) : Int), true, ()) := by
      intro k hk
      rw [sel_Fit.q0]
      simp only [sel_Fit.b0, Prod.eta]
      rw [cond_pos (by simp (disch := omega) only [smallI_t, inB_t, cutB_t, wrap64, dec_t, dec_f, dec_not, dec_and, dec_or, cond_ite, cond_true, cond_false, Option.bind_some, Option.bind_none, Bool.or_true, Bool.true_or, Bool.and_true, Bool.true_and, Bool.and_false, Bool.false_and, Bool.or_false, Bool.false_or, Bool.not_true, Bool.not_false, Bool.or_self, Bool.and_self, Bool.not_not, if_true, if_false, and_self, true_and, and_true, and_false, false_and, or_true, true_or, or_false, false_or, not_true_eq_false, not_false_eq_true, decide_true, decide_false, eq_self, if_pos, if_neg, mx_eq, mn_eq]), cond_pos (by simp (disch := omega) only [smallI_t, inB_t, cutB_t, wrap64, dec_t, dec_f, dec_not, dec_and, dec_or, cond_ite, cond_true, cond_false, Option.bind_some, Option.bind_none, Bool.or_true, Bool.true_or, Bool.and_true, Bool.true_and, Bool.and_false, Bool.false_and, Bool.or_false, Bool.false_or, Bool.not_true, Bool.not_false, Bool.or_self, Bool.and_self, Bool.not_not, if_true, if_false, and_self, true_and, and_true, and_false, false_and, or_true, true_or, or_false, false_or, not_true_eq_false, not_false_eq_true, decide_true, decide_false, eq_self, if_pos, if_neg, mx_eq, mn_eq]), fit1_eq, Option.bind_some]
      simp (disch := omega) only [smallI_t, inB_t, cutB_t, wrap64, dec_t, dec_f, dec_not, dec_and, dec_or, cond_ite, cond_true, cond_false, Option.bind_some, Option.bind_none, Bool.or_true, Bool.true_or, Bool.and_true, Bool.true_and, Bool.and_false, Bool.false_and, Bool.or_false, Bool.false_or, Bool.not_true, Bool.not_false, Bool.or_self, Bool.and_self, Bool.not_not, if_true, if_false, and_self, true_and, and_true, and_false, false_and, or_true, true_or, or_false, false_or, not_true_eq_false, not_false_eq_true, decide_true, decide_false, eq_self, if_pos, if_neg, mx_eq, mn_eq]; rfl
    simp only [sel_Fit.run]
    rw [cond_pos (by simp (disch := omega) only [smallI_t, inB_t, cutB_t, wrap64, dec_t, dec_f, dec_not, dec_and, dec_or, cond_ite, cond_true, cond_false, Option.bind_some, Option.bind_none, Bool.or_true, Bool.true_or, Bool.and_true, Bool.true_and, Bool.and_false, Bool.false_and, Bool.or_false, Bool.false_or, Bool.not_true, Bool.not_false, Bool.or_self, Bool.and_self, Bool.not_not, if_true, if_false, and_self, true_and, and_true, and_false, false_and, or_true, true_or, or_false, false_or, not_true_eq_false, not_false_eq_true, decide_true, decide_false, eq_self, if_pos, if_neg, mx_eq, mn_eq]), cond_pos (by simp (disch := omega) only [smallI_t, inB_t, cutB_t, wrap64, dec_t, dec_f, dec_not, dec_and, dec_or, cond_ite, cond_true, cond_false, Option.bind_some, Option.bind_none, Bool.or_true, Bool.true_or, Bool.and_true, Bool.true_and, Bool.and_false, Bool.false_and, Bool.or_false, Bool.false_or, Bool.not_true, Bool.not_false, Bool.or_self, Bool.and_self, Bool.not_not, if_true, if_false, and_self, true_and, and_true, and_false, false_and, or_true, true_or, or_false, false_or, not_true_eq_false, not_false_eq_true, decide_true, decide_false, eq_self, if_pos, if_neg, mx_eq, mn_eq]), cond_pos (by simp (disch := omega) only [smallI_t, inB_t, cutB_t, wrap64, dec_t, dec_f, dec_not, dec_and, dec_or, cond_ite, cond_true, cond_false, Option.bind_some, Option.bind_none, Bool.or_true, Bool.true_or, Bool.and_true, Bool.true_and, Bool.and_false, Bool.false_and, Bool.or_false, Bool.false_or, Bool.not_true, Bool.not_false, Bool.or_self, Bool.and_self, Bool.not_not, if_true, if_false, and_self, true_and, and_true, and_false, false_and, or_true, true_or, or_false, false_or, not_true_eq_false, not_false_eq_true, decide_true, decide_false, eq_self, if_pos, if_neg, mx_eq, mn_eq]), show decide ((l.length : Int) ≤ 10) = true by simp (disch := omega) only [smallI_t, inB_t, cutB_t, wrap64, dec_t, dec_f, dec_not, dec_and, dec_or, cond_ite, cond_true, cond_false, Option.bind_some, Option.bind_none, Bool.or_true, Bool.true_or, Bool.and_true, Bool.true_and, Bool.and_false, Bool.false_and, Bool.or_false, Bool.false_or, Bool.not_true, Bool.not_false, Bool.or_self, Bool.and_self, Bool.not_not, if_true, if_false, and_self, true_and, and_true, and_false, false_and, or_true, true_or, or_false, false_or, not_true_eq_false, not_false_eq_true, decide_true, decide_false, eq_self, if_pos, if_neg, mx_eq, mn_eq]]
    rcases loop_or (fun k : Nat => (l, (l.length : Int), (k : Int), true, ())) step with ⟨h1, h2⟩ | ⟨k, hk, h1, h2, h3⟩
    · rw [show (l, (l.length : Int), (0 : Int), true, ()) = (l, (l.length : Int), ((0 : Nat) : Int), true, ()) from rfl, h1, sel_Fit.q0]
      have : fitB l = true := (fitB_iff l).2 ⟨h10, fun k hk => by have := h2 k hk; exact (fitD_iff _).1 (by simpa using this)⟩
      rw [this]
      simp (disch := omega) only [smallI_t, inB_t, cutB_t, wrap64, dec_t, dec_f, dec_not, dec_and, dec_or, cond_ite, cond_true, cond_false, Option.bind_some, Option.bind_none, Bool.or_true, Bool.true_or, Bool.and_true, Bool.true_and, Bool.and_false, Bool.false_and, Bool.or_false, Bool.false_or, Bool.not_true, Bool.not_false, Bool.or_self, Bool.and_self, Bool.not_not, if_true, if_false, and_self, true_and, and_true, and_false, false_and, or_true, true_or, or_false, false_or, not_true_eq_false, not_false_eq_true, decide_true, decide_false, eq_self, if_pos, if_neg, mx_eq, mn_eq, sel_Fit.b0]
    · rw [show (l, (l.length : Int), (0 : Int), true, ()) = (l, (l.length : Int), ((0 : Nat) : Int), true, ()) from rfl, h3]
      have : fitB l = false := by
        cases hc : fitB l with
        | false => rfl
        | true => have := (fitD_iff _).2 (((fitB_iff l).1 hc).2 k hk); simp [this] at h1
      rw [this]
      simp only [Option.bind_some]
      rw [show decide ((k : Int) ≥ 0) = true by simp (disch := omega) only [smallI_t, inB_t, cutB_t, wrap64, dec_t, dec_f, dec_not, dec_and, dec_or, cond_ite, cond_true, cond_false, Option.bind_some, Option.bind_none, Bool.or_true, Bool.true_or, Bool.and_true, Bool.true_and, Bool.and_false, Bool.false_and, Bool.or_false, Bool.false_or, Bool.not_true, Bool.not_false, Bool.or_self, Bool.and_self, Bool.not_not, if_true, if_false, and_self, true_and, and_true, and_false, false_and, or_true, true_or, or_false, false_or, not_true_eq_false, not_false_eq_true, decide_true, decide_false, eq_self, if_pos, if_neg, mx_eq, mn_eq]]
      rfl
  · have : fitB l = false := by unfold fitB; simp [h10]
    rw [this]
    simp (disch := omega) only [smallI_t, inB_t, cutB_t, wrap64, dec_t, dec_f, dec_not, dec_and, dec_or, cond_ite, cond_true, cond_false, Option.bind_some, Option.bind_none, Bool.or_true, Bool.true_or, Bool.and_true, Bool.true_and, Bool.and_false, Bool.false_and, Bool.or_false, Bool.false_or, Bool.not_true, Bool.not_false, Bool.or_self, Bool.and_self, Bool.not_not, if_true, if_false, and_self, true_and, and_true, and_false, false_and, or_true, true_or, or_false, false_or, not_true_eq_false, not_false_eq_true, decide_true, decide_false, eq_self, if_pos, if_neg, mx_eq, mn_eq, sel_Fit.run]
theorem rfit_run (l : List Peer) (hl : l.length ≤ 9223372036854775807) : pendulumref29_Fit.run .lim (l, ()) = some (fitB l) := by
  by_cases h10 : l.length ≤ 10
  · have step : ∀ k, k < l.length → pendulumref29_Fit.l0 .lim (l, (k : Int), ()) = bif !fitD (rd zP l (k : Int)) then some (.inl (false, ())) else pendulumref29_Fit.l0 .lim (l, ((k + 1 : Nat) : Int), ()) := by
      intro k hk
      rw [pendulumref29_Fit.q0]
      simp only [pendulumref29_Fit.b0, rwithin_eq, Option.bind_some, Bool.not_not]
      rw [cond_pos (by simp (disch := omega) only [smallI_t, inB_t, cutB_t, wrap64, dec_t, dec_f, dec_not, dec_and, dec_or, cond_ite, cond_true, cond_false, Option.bind_some, Option.bind_none, Bool.or_true, Bool.true_or, Bool.and_true, Bool.true_and, Bool.and_false, Bool.false_and, Bool.or_false, Bool.false_or, Bool.not_true, Bool.not_false, Bool.or_self, Bool.and_self, Bool.not_not, if_true, if_false, and_self, true_and, and_true, and_false, false_and, or_true, true_or, or_false, false_or, not_true_eq_false, not_false_eq_true, decide_true, decide_false, eq_self, if_pos, if_neg, mx_eq, mn_eq]), cond_pos (by simp (disch := omega) only [smallI_t, inB_t, cutB_t, wrap64, dec_t, dec_f, dec_not, dec_and, dec_or, cond_ite, cond_true, cond_false, Option.bind_some, Option.bind_none, Bool.or_true, Bool.true_or, Bool.and_true, Bool.true_and, Bool.and_false, Bool.false_and, Bool.or_false, Bool.false_or, Bool.not_true, Bool.not_false, Bool.or_self, Bool.and_self, Bool.not_not, if_true, if_false, and_self, true_and, and_true, and_false, false_and, or_true, true_or, or_false, false_or, not_true_eq_false, not_false_eq_true, decide_true, decide_false, eq_self, if_pos, if_neg, mx_eq, mn_eq]), cond_pos (by simp (disch := omega) only [smallI_t, inB_t, cutB_t, wrap64, dec_t, dec_f, dec_not, dec_and, dec_or, cond_ite, cond_true, cond_false, Option.bind_some, Option.bind_none, Bool.or_true, Bool.true_or, Bool.and_true, Bool.true_and, Bool.and_false, Bool.false_and, Bool.or_false, Bool.false_or, Bool.not_true, Bool.not_false, Bool.or_self, Bool.and_self, Bool.not_not, if_true, if_false, and_self, true_and, and_true, and_false, false_and, or_true, true_or, or_false, false_or, not_true_eq_false, not_false_eq_true, decide_true, decide_false, eq_self, if_pos, if_neg, mx_eq, mn_eq])]
      have w : IntKind.i64.wrap ((k : Int) + 1) = ((k + 1 : Nat) : Int) := by simp (disch := omega) only [smallI_t, inB_t, cutB_t, wrap64, dec_t, dec_f, dec_not, dec_and, dec_or, cond_ite, cond_true, cond_false, Option.bind_some, Option.bind_none, Bool.or_true, Bool.true_or, Bool.and_true, Bool.true_and, Bool.and_false, Bool.false_and, Bool.or_false, Bool.false_or, Bool.not_true, Bool.not_false, Bool.or_self, Bool.and_self, Bool.not_not, if_true, if_false, and_self, true_and, and_true, and_false, false_and, or_true, true_or, or_false, false_or, not_true_eq_false, not_false_eq_true, decide_true, decide_false, eq_self, if_pos, if_neg, mx_eq, mn_eq]; rfl
      have hi : inB (k : Int) (l.length : Int) = true := by simp (disch := omega) only [smallI_t, inB_t, cutB_t, wrap64, dec_t, dec_f, dec_not, dec_and, dec_or, cond_ite, cond_true, cond_false, Option.bind_some, Option.bind_none, Bool.or_true, Bool.true_or, Bool.and_true, Bool.true_and, Bool.and_false, Bool.false_and, Bool.or_false, Bool.false_or, Bool.not_true, Bool.not_false, Bool.or_self, Bool.and_self, Bool.not_not, if_true, if_false, and_self, true_and, and_true, and_false, false_and, or_true, true_or, or_false, false_or, not_true_eq_false, not_false_eq_true, decide_true, decide_false, eq_self, if_pos, if_neg, mx_eq, mn_eq]
      rw [w, hi]
      unfold fitD
      cases decide (-140737488355328 ≤ (rd zP l (k : Int)).1 ∧ (rd zP l (k : Int)).1 ≤ 140737488355328) with
      | false => rfl
      | true =>
        cases decide (0 ≤ (rd zP l (k : Int)).2.1 ∧ (rd zP l (k : Int)).2.1 ≤ 140737488355328) with
        | false => rfl
        | true =>
          cases decide (0 ≤ (rd zP l (k : Int)).2.2 ∧ (rd zP l (k : Int)).2.2 ≤ 140737488355328) <;> rfl
    simp only [pendulumref29_Fit.run]
    rw [cond_pos (by simp (disch := omega) only [smallI_t, inB_t, cutB_t, wrap64, dec_t, dec_f, dec_not, dec_and, dec_or, cond_ite, cond_true, cond_false, Option.bind_some, Option.bind_none, Bool.or_true, Bool.true_or, Bool.and_true, Bool.true_and, Bool.and_false, Bool.false_and, Bool.or_false, Bool.false_or, Bool.not_true, Bool.not_false, Bool.or_self, Bool.and_self, Bool.not_not, if_true, if_false, and_self, true_and, and_true, and_false, false_and, or_true, true_or, or_false, false_or, not_true_eq_false, not_false_eq_true, decide_true, decide_false, eq_self, if_pos, if_neg, mx_eq, mn_eq]), cond_neg (by simp (disch := omega) only [smallI_t, inB_t, cutB_t, wrap64, dec_t, dec_f, dec_not, dec_and, dec_or, cond_ite, cond_true, cond_false, Option.bind_some, Option.bind_none, Bool.or_true, Bool.true_or, Bool.and_true, Bool.true_and, Bool.and_false, Bool.false_and, Bool.or_false, Bool.false_or, Bool.not_true, Bool.not_false, Bool.or_self, Bool.and_self, Bool.not_not, if_true, if_false, and_self, true_and, and_true, and_false, false_and, or_true, true_or, or_false, false_or, not_true_eq_false, not_false_eq_true, decide_true, decide_false, eq_self, if_pos, if_neg, mx_eq, mn_eq])]
    rcases loop_or (fun k : Nat => (l, (k : Int), ())) step with ⟨h1, h2⟩ | ⟨k, hk, h1, h2, h3⟩
    · rw [show (l, (0 : Int), ()) = (l, ((0 : Nat) : Int), ()) from rfl, h1, pendulumref29_Fit.q0]
      have : fitB l = true := (fitB_iff l).2 ⟨h10, fun k hk => by have := h2 k hk; exact (fitD_iff _).1 (by simpa using this)⟩
      rw [this]
      simp (disch := omega) only [smallI_t, inB_t, cutB_t, wrap64, dec_t, dec_f, dec_not, dec_and, dec_or, cond_ite, cond_true, cond_false, Option.bind_some, Option.bind_none, Bool.or_true, Bool.true_or, Bool.and_true, Bool.true_and, Bool.and_false, Bool.false_and, Bool.or_false, Bool.false_or, Bool.not_true, Bool.not_false, Bool.or_self, Bool.and_self, Bool.not_not, if_true, if_false, and_self, true_and, and_true, and_false, false_and, or_true, true_or, or_false, false_or, not_true_eq_false, not_false_eq_true, decide_true, decide_false, eq_self, if_pos, if_neg, mx_eq, mn_eq, pendulumref29_Fit.b0]
    · rw [show (l, (0 : Int), ()) = (l, ((0 : Nat) : Int), ()) from rfl, h3]
      have : fitB l = false := by
        cases hc : fitB l with
        | false => rfl
        | true => have := (fitD_iff _).2 (((fitB_iff l).1 hc).2 k hk); simp [this] at h1
      rw [this]
      rfl
  · have : fitB l = false := by unfold fitB; simp [h10]
    rw [this]
    simp (disch := omega) only [smallI_t, inB_t, cutB_t, wrap64, dec_t, dec_f, dec_not, dec_and, dec_or, cond_ite, cond_true, cond_false, Option.bind_some, Option.bind_none, Bool.or_true, Bool.true_or, Bool.and_true, Bool.true_and, Bool.and_false, Bool.false_and, Bool.or_false, Bool.false_or, Bool.not_true, Bool.not_false, Bool.or_self, Bool.and_self, Bool.not_not, if_true, if_false, and_self, true_and, and_true, and_false, false_and, or_true, true_or, or_false, false_or, not_true_eq_false, not_false_eq_true, decide_true, decide_false, eq_self, if_pos, if_neg, mx_eq, mn_eq, pendulumref29_Fit.run]
/-! the selected -/
def pick (l : List Peer) (t : Int) : Nat → List Int
  | 0 => []
  | k + 1 => if reachB t (rd zP l (k : Int)) = true then pick l t k ++ [(k : Int)] else pick l t k
theorem pick_len (l : List Peer) (t : Int) : ∀ k, k ≤ l.length → (pick l t k).length = cnt (l.take k) t ∧ (pick l t k).length ≤ k := by
  intro k
  induction k with
  | zero => intro _; exact ⟨rfl, Nat.le_refl _⟩
  | succ k ih =>
    intro hk
    obtain ⟨h1, h2⟩ := ih (by omega)
    have h3 := cnt_take t (show k < l.length by omega)
    rw [pick]
    split
    · rename_i hr; rw [if_pos hr] at h3; simp only [List.length_append, List.length_singleton]; omega
    · rename_i hr; rw [if_neg hr] at h3; omega
theorem pick_mem (l : List Peer) (t : Int) : ∀ k x, x ∈ pick l t k ↔ ∃ j : Nat, j < k ∧ x = (j : Int) ∧ reachB t (rd zP l (j : Int)) = true := by
  intro k
  induction k with
  | zero => intro x; simp [pick]
  | succ k ih =>
    intro x
    rw [pick]
    split
    · rename_i hr
      rw [List.mem_append, ih, List.mem_singleton]
      constructor
      · rintro (⟨j, hj, e, h⟩ | e)
        · exact ⟨j, by omega, e, h⟩
        · exact ⟨k, by omega, e, hr⟩
      · rintro ⟨j, hj, e, h⟩
        by_cases hjk : j = k
        · subst hjk; exact .inr e
        · exact .inl ⟨j, by omega, e, h⟩
    · rename_i hr
      rw [ih]
      constructor
      · rintro ⟨j, hj, e, h⟩; exact ⟨j, by omega, e, h⟩
      · rintro ⟨j, hj, e, h⟩
        by_cases hjk : j = k
        · subst hjk; exact absurd h hr
        · exact ⟨j, by omega, e, h⟩
theorem sel_loop {l : List Peer} (h : fitL l) (low high : Int) : sel_Select.l0 .lim (low, high, l, (l.length : Int), (0 : Int), ([] : List Int), ()) = some (low, high, pick l low l.length, ()) := by
  have h10 := h.1
  have step : ∀ k, k < l.length → sel_Select.l0 .lim (low, high, l, (l.length : Int), (k : Int), pick l low k, ()) = sel_Select.l0 .lim (low, high, l, (l.length : Int), ((k + 1 : Nat) : Int), pick l low (k + 1), ()) := by
    intro k hk
    have hpl := (pick_len l low k (by omega)).2
    rw [sel_Select.q0, pick]
    simp only [sel_Select.b0, Prod.eta]
    rw [cond_pos (by simp (disch := omega) only [smallI_t, inB_t, cutB_t, wrap64, dec_t, dec_f, dec_not, dec_and, dec_or, cond_ite, cond_true, cond_false, Option.bind_some, Option.bind_none, Bool.or_true, Bool.true_or, Bool.and_true, Bool.true_and, Bool.and_false, Bool.false_and, Bool.or_false, Bool.false_or, Bool.not_true, Bool.not_false, Bool.or_self, Bool.and_self, Bool.not_not, if_true, if_false, and_self, true_and, and_true, and_false, false_and, or_true, true_or, or_false, false_or, not_true_eq_false, not_false_eq_true, decide_true, decide_false, eq_self, if_pos, if_neg, mx_eq, mn_eq]), cond_pos (by simp (disch := omega) only [smallI_t, inB_t, cutB_t, wrap64, dec_t, dec_f, dec_not, dec_and, dec_or, cond_ite, cond_true, cond_false, Option.bind_some, Option.bind_none, Bool.or_true, Bool.true_or, Bool.and_true, Bool.true_and, Bool.and_false, Bool.false_and, Bool.or_false, Bool.false_or, Bool.not_true, Bool.not_false, Bool.or_self, Bool.and_self, Bool.not_not, if_true, if_false, and_self, true_and, and_true, and_false, false_and, or_true, true_or, or_false, false_or, not_true_eq_false, not_false_eq_true, decide_true, decide_false, eq_self, if_pos, if_neg, mx_eq, mn_eq]), reaches_eq (h.2 k hk), Option.bind_some]
    cases hr : reachB low (rd zP l (k : Int)) with
    | true => simp (disch := omega) only [smallI_t, inB_t, cutB_t, wrap64, dec_t, dec_f, dec_not, dec_and, dec_or, cond_ite, cond_true, cond_false, Option.bind_some, Option.bind_none, Bool.or_true, Bool.true_or, Bool.and_true, Bool.true_and, Bool.and_false, Bool.false_and, Bool.or_false, Bool.false_or, Bool.not_true, Bool.not_false, Bool.or_self, Bool.and_self, Bool.not_not, if_true, if_false, and_self, true_and, and_true, and_false, false_and, or_true, true_or, or_false, false_or, not_true_eq_false, not_false_eq_true, decide_true, decide_false, eq_self, if_pos, if_neg, mx_eq, mn_eq, List.length_singleton]; rfl
    | false => simp (disch := omega) only [smallI_t, inB_t, cutB_t, wrap64, dec_t, dec_f, dec_not, dec_and, dec_or, cond_ite, cond_true, cond_false, Option.bind_some, Option.bind_none, Bool.or_true, Bool.true_or, Bool.and_true, Bool.true_and, Bool.and_false, Bool.false_and, Bool.or_false, Bool.false_or, Bool.not_true, Bool.not_false, Bool.or_self, Bool.and_self, Bool.not_not, if_true, if_false, and_self, true_and, and_true, and_false, false_and, or_true, true_or, or_false, false_or, not_true_eq_false, not_false_eq_true, decide_true, decide_false, eq_self, if_pos, if_neg, mx_eq, mn_eq, Bool.false_eq_true]; rfl
  refine (loop_to (fun k : Nat => (low, high, l, (l.length : Int), (k : Int), pick l low k, ())) step).trans ?_
  rw [sel_Select.q0]
  simp (disch := omega) only [smallI_t, inB_t, cutB_t, wrap64, dec_t, dec_f, dec_not, dec_and, dec_or, cond_ite, cond_true, cond_false, Option.bind_some, Option.bind_none, Bool.or_true, Bool.true_or, Bool.and_true, Bool.true_and, Bool.and_false, Bool.false_and, Bool.or_false, Bool.false_or, Bool.not_true, Bool.not_false, Bool.or_self, Bool.and_self, Bool.not_not, if_true, if_false, and_self, true_and, and_true, and_false, false_and, or_true, true_or, or_false, false_or, not_true_eq_false, not_false_eq_true, decide_true, decide_false, eq_self, if_pos, if_neg, mx_eq, mn_eq, sel_Select.b0]
theorem rsel_loop {l : List Peer} (h : fitL l) {m low high : Int} (hm : MostW l m low high) : pendulumref29_Select.l0 .lim (l, low, high, (0 : Int), ([] : List Int), ()) = some (low, high, pick l low l.length, ()) := by
  have h10 := h.1
  have hlh := hm.lh
  have step : ∀ k, k < l.length → pendulumref29_Select.l0 .lim (l, low, high, (k : Int), pick l low k, ()) = pendulumref29_Select.l0 .lim (l, low, high, ((k + 1 : Nat) : Int), pick l low (k + 1), ()) := by
    intro k hk
    have hpl := (pick_len l low k (by omega)).2
    rw [pendulumref29_Select.q0, pick]
    simp only [pendulumref29_Select.b0, Prod.eta]
    rw [cond_pos (by simp (disch := omega) only [smallI_t, inB_t, cutB_t, wrap64, dec_t, dec_f, dec_not, dec_and, dec_or, cond_ite, cond_true, cond_false, Option.bind_some, Option.bind_none, Bool.or_true, Bool.true_or, Bool.and_true, Bool.true_and, Bool.and_false, Bool.false_and, Bool.or_false, Bool.false_or, Bool.not_true, Bool.not_false, Bool.or_self, Bool.and_self, Bool.not_not, if_true, if_false, and_self, true_and, and_true, and_false, false_and, or_true, true_or, or_false, false_or, not_true_eq_false, not_false_eq_true, decide_true, decide_false, eq_self, if_pos, if_neg, mx_eq, mn_eq]), cond_pos (by simp (disch := omega) only [smallI_t, inB_t, cutB_t, wrap64, dec_t, dec_f, dec_not, dec_and, dec_or, cond_ite, cond_true, cond_false, Option.bind_some, Option.bind_none, Bool.or_true, Bool.true_or, Bool.and_true, Bool.true_and, Bool.and_false, Bool.false_and, Bool.or_false, Bool.false_or, Bool.not_true, Bool.not_false, Bool.or_self, Bool.and_self, Bool.not_not, if_true, if_false, and_self, true_and, and_true, and_false, false_and, or_true, true_or, or_false, false_or, not_true_eq_false, not_false_eq_true, decide_true, decide_false, eq_self, if_pos, if_neg, mx_eq, mn_eq]), cond_pos (by simp (disch := omega) only [smallI_t, inB_t, cutB_t, wrap64, dec_t, dec_f, dec_not, dec_and, dec_or, cond_ite, cond_true, cond_false, Option.bind_some, Option.bind_none, Bool.or_true, Bool.true_or, Bool.and_true, Bool.true_and, Bool.and_false, Bool.false_and, Bool.or_false, Bool.false_or, Bool.not_true, Bool.not_false, Bool.or_self, Bool.and_self, Bool.not_not, if_true, if_false, and_self, true_and, and_true, and_false, false_and, or_true, true_or, or_false, false_or, not_true_eq_false, not_false_eq_true, decide_true, decide_false, eq_self, if_pos, if_neg, mx_eq, mn_eq]), rreach_eq (h.2 k hk), Option.bind_some]
    simp only []
    have hle := hm.least _ (rd_mem (d := zP) (xs := l) (i := (k : Int)) (by omega) (by omega))
    have : (decide (lo (rd zP l (k : Int)) ≤ low) && decide (high ≤ hi (rd zP l (k : Int)))) = reachB low (rd zP l (k : Int)) := by
      unfold reachB
      by_cases h1 : lo (rd zP l (k : Int)) ≤ low
      · have hle := hle h1
        by_cases h2 : low ≤ hi (rd zP l (k : Int))
        · simp [h1, h2, hle h2]
        · simp [h1, h2]; omega
      · simp [h1]
    rw [this]
    cases hr : reachB low (rd zP l (k : Int)) with
    | true => simp (disch := omega) only [smallI_t, inB_t, cutB_t, wrap64, dec_t, dec_f, dec_not, dec_and, dec_or, cond_ite, cond_true, cond_false, Option.bind_some, Option.bind_none, Bool.or_true, Bool.true_or, Bool.and_true, Bool.true_and, Bool.and_false, Bool.false_and, Bool.or_false, Bool.false_or, Bool.not_true, Bool.not_false, Bool.or_self, Bool.and_self, Bool.not_not, if_true, if_false, and_self, true_and, and_true, and_false, false_and, or_true, true_or, or_false, false_or, not_true_eq_false, not_false_eq_true, decide_true, decide_false, eq_self, if_pos, if_neg, mx_eq, mn_eq, List.length_singleton]; rfl
    | false => simp (disch := omega) only [smallI_t, inB_t, cutB_t, wrap64, dec_t, dec_f, dec_not, dec_and, dec_or, cond_ite, cond_true, cond_false, Option.bind_some, Option.bind_none, Bool.or_true, Bool.true_or, Bool.and_true, Bool.true_and, Bool.and_false, Bool.false_and, Bool.or_false, Bool.false_or, Bool.not_true, Bool.not_false, Bool.or_self, Bool.and_self, Bool.not_not, if_true, if_false, and_self, true_and, and_true, and_false, false_and, or_true, true_or, or_false, false_or, not_true_eq_false, not_false_eq_true, decide_true, decide_false, eq_self, if_pos, if_neg, mx_eq, mn_eq, Bool.false_eq_true]; rfl
  refine (loop_to (fun k : Nat => (l, low, high, (k : Int), pick l low k, ())) step).trans ?_
  rw [pendulumref29_Select.q0]
  simp (disch := omega) only [smallI_t, inB_t, cutB_t, wrap64, dec_t, dec_f, dec_not, dec_and, dec_or, cond_ite, cond_true, cond_false, Option.bind_some, Option.bind_none, Bool.or_true, Bool.true_or, Bool.and_true, Bool.true_and, Bool.and_false, Bool.false_and, Bool.or_false, Bool.false_or, Bool.not_true, Bool.not_false, Bool.or_self, Bool.and_self, Bool.not_not, if_true, if_false, and_self, true_and, and_true, and_false, false_and, or_true, true_or, or_false, false_or, not_true_eq_false, not_false_eq_true, decide_true, decide_false, eq_self, if_pos, if_neg, mx_eq, mn_eq, pendulumref29_Select.b0]
def selOf (l : List Peer) (m low high : Int) : List Int × Int × Int × Int × Unit :=
  if l.length = 0 then ([], 0, 0, 19, ()) else if 2 * m ≤ l.length then ([], 0, 0, 22, ()) else (pick l low l.length, low, high, 0, ())
theorem cnt_bd {l : List Peer} (h : fitL l) {m low high : Int} (hm : l = [] ∧ m = 0 ∧ low = 0 ∧ high = 0 ∨ l ≠ [] ∧ MostW l m low high) : 0 ≤ m ∧ m ≤ 10 := by
  rcases hm with ⟨-, rfl, -⟩ | ⟨-, hm⟩
  · omega
  · have := hm.at_low; have := cnt_le l low; have := h.1; omega
theorem select_run {l : List Peer} (h : fitL l) {m low high : Int} (hr : sel_Most.run .lim (l, ()) = some (m, low, high, ())) (hm : l = [] ∧ m = 0 ∧ low = 0 ∧ high = 0 ∨ l ≠ [] ∧ MostW l m low high) :
    sel_Select.run .lim (l, ()) = some (selOf l m low high) := by
  have h10 := h.1
  have hb := cnt_bd h hm
  unfold selOf
  simp only [sel_Select.run]
  rw [hr, Option.bind_some]
  simp only []
  rw [cond_pos (by simp (disch := omega) only [smallI_t, inB_t, cutB_t, wrap64, dec_t, dec_f, dec_not, dec_and, dec_or, cond_ite, cond_true, cond_false, Option.bind_some, Option.bind_none, Bool.or_true, Bool.true_or, Bool.and_true, Bool.true_and, Bool.and_false, Bool.false_and, Bool.or_false, Bool.false_or, Bool.not_true, Bool.not_false, Bool.or_self, Bool.and_self, Bool.not_not, if_true, if_false, and_self, true_and, and_true, and_false, false_and, or_true, true_or, or_false, false_or, not_true_eq_false, not_false_eq_true, decide_true, decide_false, eq_self, if_pos, if_neg, mx_eq, mn_eq])]
  by_cases h0 : l.length = 0
  · rw [cond_pos (by simp (disch := omega) only [smallI_t, inB_t, cutB_t, wrap64, dec_t, dec_f, dec_not, dec_and, dec_or, cond_ite, cond_true, cond_false, Option.bind_some, Option.bind_none, Bool.or_true, Bool.true_or, Bool.and_true, Bool.true_and, Bool.and_false, Bool.false_and, Bool.or_false, Bool.false_or, Bool.not_true, Bool.not_false, Bool.or_self, Bool.and_self, Bool.not_not, if_true, if_false, and_self, true_and, and_true, and_false, false_and, or_true, true_or, or_false, false_or, not_true_eq_false, not_false_eq_true, decide_true, decide_false, eq_self, if_pos, if_neg, mx_eq, mn_eq]), if_pos h0]
  · rw [cond_neg (by simp (disch := omega) only [smallI_t, inB_t, cutB_t, wrap64, dec_t, dec_f, dec_not, dec_and, dec_or, cond_ite, cond_true, cond_false, Option.bind_some, Option.bind_none, Bool.or_true, Bool.true_or, Bool.and_true, Bool.true_and, Bool.and_false, Bool.false_and, Bool.or_false, Bool.false_or, Bool.not_true, Bool.not_false, Bool.or_self, Bool.and_self, Bool.not_not, if_true, if_false, and_self, true_and, and_true, and_false, false_and, or_true, true_or, or_false, false_or, not_true_eq_false, not_false_eq_true, decide_true, decide_false, eq_self, if_pos, if_neg, mx_eq, mn_eq]), if_neg h0, cond_pos (by simp (disch := omega) only [smallI_t, inB_t, cutB_t, wrap64, dec_t, dec_f, dec_not, dec_and, dec_or, cond_ite, cond_true, cond_false, Option.bind_some, Option.bind_none, Bool.or_true, Bool.true_or, Bool.and_true, Bool.true_and, Bool.and_false, Bool.false_and, Bool.or_false, Bool.false_or, Bool.not_true, Bool.not_false, Bool.or_self, Bool.and_self, Bool.not_not, if_true, if_false, and_self, true_and, and_true, and_false, false_and, or_true, true_or, or_false, false_or, not_true_eq_false, not_false_eq_true, decide_true, decide_false, eq_self, if_pos, if_neg, mx_eq, mn_eq])]
    by_cases h2 : 2 * m ≤ l.length
    · rw [cond_pos (by simp (disch := omega) only [smallI_t, inB_t, cutB_t, wrap64, dec_t, dec_f, dec_not, dec_and, dec_or, cond_ite, cond_true, cond_false, Option.bind_some, Option.bind_none, Bool.or_true, Bool.true_or, Bool.and_true, Bool.true_and, Bool.and_false, Bool.false_and, Bool.or_false, Bool.false_or, Bool.not_true, Bool.not_false, Bool.or_self, Bool.and_self, Bool.not_not, if_true, if_false, and_self, true_and, and_true, and_false, false_and, or_true, true_or, or_false, false_or, not_true_eq_false, not_false_eq_true, decide_true, decide_false, eq_self, if_pos, if_neg, mx_eq, mn_eq]), if_pos h2]
    · rw [cond_neg (by simp (disch := omega) only [smallI_t, inB_t, cutB_t, wrap64, dec_t, dec_f, dec_not, dec_and, dec_or, cond_ite, cond_true, cond_false, Option.bind_some, Option.bind_none, Bool.or_true, Bool.true_or, Bool.and_true, Bool.true_and, Bool.and_false, Bool.false_and, Bool.or_false, Bool.false_or, Bool.not_true, Bool.not_false, Bool.or_self, Bool.and_self, Bool.not_not, if_true, if_false, and_self, true_and, and_true, and_false, false_and, or_true, true_or, or_false, false_or, not_true_eq_false, not_false_eq_true, decide_true, decide_false, eq_self, if_pos, if_neg, mx_eq, mn_eq]), if_neg h2, cond_pos (by simp (disch := omega) only [smallI_t, inB_t, cutB_t, wrap64, dec_t, dec_f, dec_not, dec_and, dec_or, cond_ite, cond_true, cond_false, Option.bind_some, Option.bind_none, Bool.or_true, Bool.true_or, Bool.and_true, Bool.true_and, Bool.and_false, Bool.false_and, Bool.or_false, Bool.false_or, Bool.not_true, Bool.not_false, Bool.or_self, Bool.and_self, Bool.not_not, if_true, if_false, and_self, true_and, and_true, and_false, false_and, or_true, true_or, or_false, false_or, not_true_eq_false, not_false_eq_true, decide_true, decide_false, eq_self, if_pos, if_neg, mx_eq, mn_eq]), sel_loop h]
      rfl
theorem rselect_run {l : List Peer} (h : fitL l) {m low high : Int} (hr : pendulumref29_Most.run .lim (l, ()) = some (m, low, high, ())) (hm : l = [] ∧ m = 0 ∧ low = 0 ∧ high = 0 ∨ l ≠ [] ∧ MostW l m low high) :
    pendulumref29_Select.run .lim (l, ()) = some (selOf l m low high) := by
  have h10 := h.1
  have hb := cnt_bd h hm
  unfold selOf
  simp only [pendulumref29_Select.run]
  rw [cond_pos (by simp (disch := omega) only [smallI_t, inB_t, cutB_t, wrap64, dec_t, dec_f, dec_not, dec_and, dec_or, cond_ite, cond_true, cond_false, Option.bind_some, Option.bind_none, Bool.or_true, Bool.true_or, Bool.and_true, Bool.true_and, Bool.and_false, Bool.false_and, Bool.or_false, Bool.false_or, Bool.not_true, Bool.not_false, Bool.or_self, Bool.and_self, Bool.not_not, if_true, if_false, and_self, true_and, and_true, and_false, false_and, or_true, true_or, or_false, false_or, not_true_eq_false, not_false_eq_true, decide_true, decide_false, eq_self, if_pos, if_neg, mx_eq, mn_eq])]
  by_cases h0 : l.length = 0
  · rw [cond_pos (by simp (disch := omega) only [smallI_t, inB_t, cutB_t, wrap64, dec_t, dec_f, dec_not, dec_and, dec_or, cond_ite, cond_true, cond_false, Option.bind_some, Option.bind_none, Bool.or_true, Bool.true_or, Bool.and_true, Bool.true_and, Bool.and_false, Bool.false_and, Bool.or_false, Bool.false_or, Bool.not_true, Bool.not_false, Bool.or_self, Bool.and_self, Bool.not_not, if_true, if_false, and_self, true_and, and_true, and_false, false_and, or_true, true_or, or_false, false_or, not_true_eq_false, not_false_eq_true, decide_true, decide_false, eq_self, if_pos, if_neg, mx_eq, mn_eq]), if_pos h0]
  · rw [cond_neg (by simp (disch := omega) only [smallI_t, inB_t, cutB_t, wrap64, dec_t, dec_f, dec_not, dec_and, dec_or, cond_ite, cond_true, cond_false, Option.bind_some, Option.bind_none, Bool.or_true, Bool.true_or, Bool.and_true, Bool.true_and, Bool.and_false, Bool.false_and, Bool.or_false, Bool.false_or, Bool.not_true, Bool.not_false, Bool.or_self, Bool.and_self, Bool.not_not, if_true, if_false, and_self, true_and, and_true, and_false, false_and, or_true, true_or, or_false, false_or, not_true_eq_false, not_false_eq_true, decide_true, decide_false, eq_self, if_pos, if_neg, mx_eq, mn_eq]), if_neg h0, hr, Option.bind_some]
    simp only []
    rw [cond_pos (by simp (disch := omega) only [smallI_t, inB_t, cutB_t, wrap64, dec_t, dec_f, dec_not, dec_and, dec_or, cond_ite, cond_true, cond_false, Option.bind_some, Option.bind_none, Bool.or_true, Bool.true_or, Bool.and_true, Bool.true_and, Bool.and_false, Bool.false_and, Bool.or_false, Bool.false_or, Bool.not_true, Bool.not_false, Bool.or_self, Bool.and_self, Bool.not_not, if_true, if_false, and_self, true_and, and_true, and_false, false_and, or_true, true_or, or_false, false_or, not_true_eq_false, not_false_eq_true, decide_true, decide_false, eq_self, if_pos, if_neg, mx_eq, mn_eq])]
    by_cases h2 : 2 * m ≤ l.length
    · rw [cond_pos (by simp (disch := omega) only [smallI_t, inB_t, cutB_t, wrap64, dec_t, dec_f, dec_not, dec_and, dec_or, cond_ite, cond_true, cond_false, Option.bind_some, Option.bind_none, Bool.or_true, Bool.true_or, Bool.and_true, Bool.true_and, Bool.and_false, Bool.false_and, Bool.or_false, Bool.false_or, Bool.not_true, Bool.not_false, Bool.or_self, Bool.and_self, Bool.not_not, if_true, if_false, and_self, true_and, and_true, and_false, false_and, or_true, true_or, or_false, false_or, not_true_eq_false, not_false_eq_true, decide_true, decide_false, eq_self, if_pos, if_neg, mx_eq, mn_eq]), if_pos h2]
    · rcases hm with ⟨rfl, -⟩ | ⟨-, hm⟩
      · exact absurd rfl h0
      · rw [cond_neg (by simp (disch := omega) only [smallI_t, inB_t, cutB_t, wrap64, dec_t, dec_f, dec_not, dec_and, dec_or, cond_ite, cond_true, cond_false, Option.bind_some, Option.bind_none, Bool.or_true, Bool.true_or, Bool.and_true, Bool.true_and, Bool.and_false, Bool.false_and, Bool.or_false, Bool.false_or, Bool.not_true, Bool.not_false, Bool.or_self, Bool.and_self, Bool.not_not, if_true, if_false, and_self, true_and, and_true, and_false, false_and, or_true, true_or, or_false, false_or, not_true_eq_false, not_false_eq_true, decide_true, decide_false, eq_self, if_pos, if_neg, mx_eq, mn_eq]), if_neg h2, rsel_loop h hm]
        rfl
theorem ints_self (a : List Int) (ha : a.length ≤ 10) : pendulumlaw29_ints.run .lim (a, a, ()) = some true := by
  have step : ∀ k, k < a.length → pendulumlaw29_ints.l0 .lim (a, a, (a.length : Int), (k : Int), ()) = pendulumlaw29_ints.l0 .lim (a, a, (a.length : Int), ((k + 1 : Nat) : Int), ()) := by
    intro k hk
    rw [pendulumlaw29_ints.q0]
    simp (disch := omega) only [smallI_t, inB_t, cutB_t, wrap64, dec_t, dec_f, dec_not, dec_and, dec_or, cond_ite, cond_true, cond_false, Option.bind_some, Option.bind_none, Bool.or_true, Bool.true_or, Bool.and_true, Bool.true_and, Bool.and_false, Bool.false_and, Bool.or_false, Bool.false_or, Bool.not_true, Bool.not_false, Bool.or_self, Bool.and_self, Bool.not_not, if_true, if_false, and_self, true_and, and_true, and_false, false_and, or_true, true_or, or_false, false_or, not_true_eq_false, not_false_eq_true, decide_true, decide_false, eq_self, if_pos, if_neg, mx_eq, mn_eq, pendulumlaw29_ints.b0]
    rfl
  have e0 : pendulumlaw29_ints.l0 .lim (a, a, (a.length : Int), (0 : Int), ()) = some (.inr ()) := by
    refine (loop_to (fun k : Nat => (a, a, (a.length : Int), (k : Int), ())) step).trans ?_
    rw [pendulumlaw29_ints.q0]
    simp (disch := omega) only [smallI_t, inB_t, cutB_t, wrap64, dec_t, dec_f, dec_not, dec_and, dec_or, cond_ite, cond_true, cond_false, Option.bind_some, Option.bind_none, Bool.or_true, Bool.true_or, Bool.and_true, Bool.true_and, Bool.and_false, Bool.false_and, Bool.or_false, Bool.false_or, Bool.not_true, Bool.not_false, Bool.or_self, Bool.and_self, Bool.not_not, if_true, if_false, and_self, true_and, and_true, and_false, false_and, or_true, true_or, or_false, false_or, not_true_eq_false, not_false_eq_true, decide_true, decide_false, eq_self, if_pos, if_neg, mx_eq, mn_eq, pendulumlaw29_ints.b0]
  simp (disch := omega) only [smallI_t, inB_t, cutB_t, wrap64, dec_t, dec_f, dec_not, dec_and, dec_or, cond_ite, cond_true, cond_false, Option.bind_some, Option.bind_none, Bool.or_true, Bool.true_or, Bool.and_true, Bool.true_and, Bool.and_false, Bool.false_and, Bool.or_false, Bool.false_or, Bool.not_true, Bool.not_false, Bool.or_self, Bool.and_self, Bool.not_not, if_true, if_false, and_self, true_and, and_true, and_false, false_and, or_true, true_or, or_false, false_or, not_true_eq_false, not_false_eq_true, decide_true, decide_false, eq_self, if_pos, if_neg, mx_eq, mn_eq, pendulumlaw29_ints.run, e0]
end Go.AM
end
section
namespace Go.AM
theorem selOf_len (l : List Peer) (h : fitL l) (m low high : Int) : (selOf l m low high).1.length ≤ 10 := by
  have h10 := h.1
  unfold selOf
  split
  · exact Nat.zero_le _
  · split
    · exact Nat.zero_le _
    · have := (pick_len l low l.length (Nat.le_refl _)).2; show (pick l low l.length).length ≤ 10; omega
theorem selects_true (l : List Peer) (hl : l.length ≤ 9223372036854775807) : pendulumlaw29_SelSelects.run .lim (l, ()) = some true := by
  simp only [pendulumlaw29_SelSelects.run]
  rw [rfit_run l hl, Option.bind_some]
  cases hf : fitB l with
  | false => rfl
  | true =>
    have h := (fitB_iff l).1 hf
    obtain ⟨m, low, high, h1, h2, h3⟩ := most_same h
    rw [select_run h h1 h3, rselect_run h h2 h3]
    have := selOf_len l h m low high
    generalize selOf l m low high = s at *
    obtain ⟨a, b, c, d, ⟨⟩⟩ := s
    simp only [Bool.not_true, cond_false, Option.bind_some]
    rw [ints_self a this]
    simp
theorem tells_true (l : List Peer) (hl : l.length ≤ 9223372036854775807) (t : Int) : pendulumlaw29_SelTells.run .lim (l, t, ()) = some true := by
  simp only [pendulumlaw29_SelTells.run]
  rw [cond_pos (by simp (disch := omega) only [smallI_t, inB_t, cutB_t, wrap64, dec_t, dec_f, dec_not, dec_and, dec_or, cond_ite, cond_true, cond_false, Option.bind_some, Option.bind_none, Bool.or_true, Bool.true_or, Bool.and_true, Bool.true_and, Bool.and_false, Bool.false_and, Bool.or_false, Bool.false_or, Bool.not_true, Bool.not_false, Bool.or_self, Bool.and_self, Bool.not_not, if_true, if_false, and_self, true_and, and_true, and_false, false_and, or_true, true_or, or_false, false_or, not_true_eq_false, not_false_eq_true, decide_true, decide_false, eq_self, if_pos, if_neg, mx_eq, mn_eq])]
  by_cases h100 : (l.length : Int) > 100
  · rw [cond_pos (by simp (disch := omega) only [smallI_t, inB_t, cutB_t, wrap64, dec_t, dec_f, dec_not, dec_and, dec_or, cond_ite, cond_true, cond_false, Option.bind_some, Option.bind_none, Bool.or_true, Bool.true_or, Bool.and_true, Bool.true_and, Bool.and_false, Bool.false_and, Bool.or_false, Bool.false_or, Bool.not_true, Bool.not_false, Bool.or_self, Bool.and_self, Bool.not_not, if_true, if_false, and_self, true_and, and_true, and_false, false_and, or_true, true_or, or_false, false_or, not_true_eq_false, not_false_eq_true, decide_true, decide_false, eq_self, if_pos, if_neg, mx_eq, mn_eq])]; rfl
  · rw [cond_neg (by simp (disch := omega) only [smallI_t, inB_t, cutB_t, wrap64, dec_t, dec_f, dec_not, dec_and, dec_or, cond_ite, cond_true, cond_false, Option.bind_some, Option.bind_none, Bool.or_true, Bool.true_or, Bool.and_true, Bool.true_and, Bool.and_false, Bool.false_and, Bool.or_false, Bool.false_or, Bool.not_true, Bool.not_false, Bool.or_self, Bool.and_self, Bool.not_not, if_true, if_false, and_self, true_and, and_true, and_false, false_and, or_true, true_or, or_false, false_or, not_true_eq_false, not_false_eq_true, decide_true, decide_false, eq_self, if_pos, if_neg, mx_eq, mn_eq]), fit_run l hl, rfit_run l hl]
    simp only [Option.bind_some]
    cases hf : fitB l with
    | false => rfl
    | true =>
      have h := (fitB_iff l).1 hf
      have h10 := h.1
      simp only [beq_self_eq_true, Bool.not_true, cond_false, Option.bind_some]
      rw [cond_pos (by simp (disch := omega) only [smallI_t, inB_t, cutB_t, wrap64, dec_t, dec_f, dec_not, dec_and, dec_or, cond_ite, cond_true, cond_false, Option.bind_some, Option.bind_none, Bool.or_true, Bool.true_or, Bool.and_true, Bool.true_and, Bool.and_false, Bool.false_and, Bool.or_false, Bool.false_or, Bool.not_true, Bool.not_false, Bool.or_self, Bool.and_self, Bool.not_not, if_true, if_false, and_self, true_and, and_true, and_false, false_and, or_true, true_or, or_false, false_or, not_true_eq_false, not_false_eq_true, decide_true, decide_false, eq_self, if_pos, if_neg, mx_eq, mn_eq])]
      have step : ∀ k, k < l.length → pendulumlaw29_SelTells.l0 .lim (l, t, l, (l.length : Int), (k : Int), ()) = pendulumlaw29_SelTells.l0 .lim (l, t, l, (l.length : Int), ((k + 1 : Nat) : Int), ()) := by
        intro k hk
        rw [pendulumlaw29_SelTells.q0]
        simp only [pendulumlaw29_SelTells.b0, Prod.eta]
        rw [cond_pos (by simp (disch := omega) only [smallI_t, inB_t, cutB_t, wrap64, dec_t, dec_f, dec_not, dec_and, dec_or, cond_ite, cond_true, cond_false, Option.bind_some, Option.bind_none, Bool.or_true, Bool.true_or, Bool.and_true, Bool.true_and, Bool.and_false, Bool.false_and, Bool.or_false, Bool.false_or, Bool.not_true, Bool.not_false, Bool.or_self, Bool.and_self, Bool.not_not, if_true, if_false, and_self, true_and, and_true, and_false, false_and, or_true, true_or, or_false, false_or, not_true_eq_false, not_false_eq_true, decide_true, decide_false, eq_self, if_pos, if_neg, mx_eq, mn_eq]), cond_pos (by simp (disch := omega) only [smallI_t, inB_t, cutB_t, wrap64, dec_t, dec_f, dec_not, dec_and, dec_or, cond_ite, cond_true, cond_false, Option.bind_some, Option.bind_none, Bool.or_true, Bool.true_or, Bool.and_true, Bool.true_and, Bool.and_false, Bool.false_and, Bool.or_false, Bool.false_or, Bool.not_true, Bool.not_false, Bool.or_self, Bool.and_self, Bool.not_not, if_true, if_false, and_self, true_and, and_true, and_false, false_and, or_true, true_or, or_false, false_or, not_true_eq_false, not_false_eq_true, decide_true, decide_false, eq_self, if_pos, if_neg, mx_eq, mn_eq]), reach_eq (h.2 k hk), rreach_eq (h.2 k hk)]
        simp (disch := omega) only [smallI_t, inB_t, cutB_t, wrap64, dec_t, dec_f, dec_not, dec_and, dec_or, cond_ite, cond_true, cond_false, Option.bind_some, Option.bind_none, Bool.or_true, Bool.true_or, Bool.and_true, Bool.true_and, Bool.and_false, Bool.false_and, Bool.or_false, Bool.false_or, Bool.not_true, Bool.not_false, Bool.or_self, Bool.and_self, Bool.not_not, if_true, if_false, and_self, true_and, and_true, and_false, false_and, or_true, true_or, or_false, false_or, not_true_eq_false, not_false_eq_true, decide_true, decide_false, eq_self, if_pos, if_neg, mx_eq, mn_eq]
        rfl
      have e0 : pendulumlaw29_SelTells.l0 .lim (l, t, l, (l.length : Int), (0 : Int), ()) = some (.inr (l, t, ())) := by
        refine (loop_to (fun k : Nat => (l, t, l, (l.length : Int), (k : Int), ())) step).trans ?_
        rw [pendulumlaw29_SelTells.q0]
        simp (disch := omega) only [smallI_t, inB_t, cutB_t, wrap64, dec_t, dec_f, dec_not, dec_and, dec_or, cond_ite, cond_true, cond_false, Option.bind_some, Option.bind_none, Bool.or_true, Bool.true_or, Bool.and_true, Bool.true_and, Bool.and_false, Bool.false_and, Bool.or_false, Bool.false_or, Bool.not_true, Bool.not_false, Bool.or_self, Bool.and_self, Bool.not_not, if_true, if_false, and_self, true_and, and_true, and_false, false_and, or_true, true_or, or_false, false_or, not_true_eq_false, not_false_eq_true, decide_true, decide_false, eq_self, if_pos, if_neg, mx_eq, mn_eq, pendulumlaw29_SelTells.b0]
      obtain ⟨m, low, high, h1, h2, h3⟩ := most_same h
      rw [e0, Option.bind_some]
      simp only []
      rw [h1, h2, count_eq h, rcount_eq h]
      simp
theorem truth_true (l : List Peer) (hl : l.length ≤ 9223372036854775807) (truth t : Int) : pendulumlaw29_SelTruth.run .lim (l, truth, t, ()) = some true := by
  simp only [pendulumlaw29_SelTruth.run]
  rw [rfit_run l hl, Option.bind_some]
  cases hf : fitB l with
  | false => rfl
  | true =>
    have h := (fitB_iff l).1 hf
    have h10 := h.1
    have hcl := cnt_le l truth
    rw [cond_pos (by simp (disch := omega) only [smallI_t, inB_t, cutB_t, wrap64, dec_t, dec_f, dec_not, dec_and, dec_or, cond_ite, cond_true, cond_false, Option.bind_some, Option.bind_none, Bool.or_true, Bool.true_or, Bool.and_true, Bool.true_and, Bool.and_false, Bool.false_and, Bool.or_false, Bool.false_or, Bool.not_true, Bool.not_false, Bool.or_self, Bool.and_self, Bool.not_not, if_true, if_false, and_self, true_and, and_true, and_false, false_and, or_true, true_or, or_false, false_or, not_true_eq_false, not_false_eq_true, decide_true, decide_false, eq_self, if_pos, if_neg, mx_eq, mn_eq])]
    by_cases h0 : l.length = 0
    · rw [show decide ((l.length : Int) = 0) = true by simp (disch := omega) only [smallI_t, inB_t, cutB_t, wrap64, dec_t, dec_f, dec_not, dec_and, dec_or, cond_ite, cond_true, cond_false, Option.bind_some, Option.bind_none, Bool.or_true, Bool.true_or, Bool.and_true, Bool.true_and, Bool.and_false, Bool.false_and, Bool.or_false, Bool.false_or, Bool.not_true, Bool.not_false, Bool.or_self, Bool.and_self, Bool.not_not, if_true, if_false, and_self, true_and, and_true, and_false, false_and, or_true, true_or, or_false, false_or, not_true_eq_false, not_false_eq_true, decide_true, decide_false, eq_self, if_pos, if_neg, mx_eq, mn_eq]]
      rfl
    · rw [show decide ((l.length : Int) = 0) = false by simp (disch := omega) only [smallI_t, inB_t, cutB_t, wrap64, dec_t, dec_f, dec_not, dec_and, dec_or, cond_ite, cond_true, cond_false, Option.bind_some, Option.bind_none, Bool.or_true, Bool.true_or, Bool.and_true, Bool.true_and, Bool.and_false, Bool.false_and, Bool.or_false, Bool.false_or, Bool.not_true, Bool.not_false, Bool.or_self, Bool.and_self, Bool.not_not, if_true, if_false, and_self, true_and, and_true, and_false, false_and, or_true, true_or, or_false, false_or, not_true_eq_false, not_false_eq_true, decide_true, decide_false, eq_self, if_pos, if_neg, mx_eq, mn_eq]]
      simp only [Bool.not_true, Bool.or_false, Bool.not_false, cond_true, Bool.false_or]
      rw [rcount_eq h, Option.bind_some, cond_pos (by simp (disch := omega) only [smallI_t, inB_t, cutB_t, wrap64, dec_t, dec_f, dec_not, dec_and, dec_or, cond_ite, cond_true, cond_false, Option.bind_some, Option.bind_none, Bool.or_true, Bool.true_or, Bool.and_true, Bool.true_and, Bool.and_false, Bool.false_and, Bool.or_false, Bool.false_or, Bool.not_true, Bool.not_false, Bool.or_self, Bool.and_self, Bool.not_not, if_true, if_false, and_self, true_and, and_true, and_false, false_and, or_true, true_or, or_false, false_or, not_true_eq_false, not_false_eq_true, decide_true, decide_false, eq_self, if_pos, if_neg, mx_eq, mn_eq])]
      by_cases hc : 2 * (cnt l truth : Int) ≤ l.length
      · rw [cond_pos (by simp (disch := omega) only [smallI_t, inB_t, cutB_t, wrap64, dec_t, dec_f, dec_not, dec_and, dec_or, cond_ite, cond_true, cond_false, Option.bind_some, Option.bind_none, Bool.or_true, Bool.true_or, Bool.and_true, Bool.true_and, Bool.and_false, Bool.false_and, Bool.or_false, Bool.false_or, Bool.not_true, Bool.not_false, Bool.or_self, Bool.and_self, Bool.not_not, if_true, if_false, and_self, true_and, and_true, and_false, false_and, or_true, true_or, or_false, false_or, not_true_eq_false, not_false_eq_true, decide_true, decide_false, eq_self, if_pos, if_neg, mx_eq, mn_eq])]; rfl
      · rw [cond_neg (by simp (disch := omega) only [smallI_t, inB_t, cutB_t, wrap64, dec_t, dec_f, dec_not, dec_and, dec_or, cond_ite, cond_true, cond_false, Option.bind_some, Option.bind_none, Bool.or_true, Bool.true_or, Bool.and_true, Bool.true_and, Bool.and_false, Bool.false_and, Bool.or_false, Bool.false_or, Bool.not_true, Bool.not_false, Bool.or_self, Bool.and_self, Bool.not_not, if_true, if_false, and_self, true_and, and_true, and_false, false_and, or_true, true_or, or_false, false_or, not_true_eq_false, not_false_eq_true, decide_true, decide_false, eq_self, if_pos, if_neg, mx_eq, mn_eq])]
        obtain ⟨m, low, high, h1, h2, h3⟩ := most_same h
        have h3' := h3
        rcases h3 with ⟨rfl, -⟩ | ⟨hne, hm⟩
        · exact absurd rfl h0
        · have hany := hm.any truth
          have hlh := hm.lh
          have hat := hm.at_low
          rw [select_run h h1 h3', selOf, if_neg h0, if_neg (by omega), Option.bind_some]
          simp only []
          obtain ⟨hp1, hp2⟩ := pick_len l low l.length (Nat.le_refl _)
          rw [List.take_length] at hp1
          have hpm := pick_mem l low l.length
          generalize pick l low l.length = s at *
          rw [cond_pos (by simp (disch := omega) only [smallI_t, inB_t, cutB_t, wrap64, dec_t, dec_f, dec_not, dec_and, dec_or, cond_ite, cond_true, cond_false, Option.bind_some, Option.bind_none, Bool.or_true, Bool.true_or, Bool.and_true, Bool.true_and, Bool.and_false, Bool.false_and, Bool.or_false, Bool.false_or, Bool.not_true, Bool.not_false, Bool.or_self, Bool.and_self, Bool.not_not, if_true, if_false, and_self, true_and, and_true, and_false, false_and, or_true, true_or, or_false, false_or, not_true_eq_false, not_false_eq_true, decide_true, decide_false, eq_self, if_pos, if_neg, mx_eq, mn_eq]), cond_pos (by simp (disch := omega) only [smallI_t, inB_t, cutB_t, wrap64, dec_t, dec_f, dec_not, dec_and, dec_or, cond_ite, cond_true, cond_false, Option.bind_some, Option.bind_none, Bool.or_true, Bool.true_or, Bool.and_true, Bool.true_and, Bool.and_false, Bool.false_and, Bool.or_false, Bool.false_or, Bool.not_true, Bool.not_false, Bool.or_self, Bool.and_self, Bool.not_not, if_true, if_false, and_self, true_and, and_true, and_false, false_and, or_true, true_or, or_false, false_or, not_true_eq_false, not_false_eq_true, decide_true, decide_false, eq_self, if_pos, if_neg, mx_eq, mn_eq]), cond_neg (by simp (disch := omega) only [smallI_t, inB_t, cutB_t, wrap64, dec_t, dec_f, dec_not, dec_and, dec_or, cond_ite, cond_true, cond_false, Option.bind_some, Option.bind_none, Bool.or_true, Bool.true_or, Bool.and_true, Bool.true_and, Bool.and_false, Bool.false_and, Bool.or_false, Bool.false_or, Bool.not_true, Bool.not_false, Bool.or_self, Bool.and_self, Bool.not_not, if_true, if_false, and_self, true_and, and_true, and_false, false_and, or_true, true_or, or_false, false_or, not_true_eq_false, not_false_eq_true, decide_true, decide_false, eq_self, if_pos, if_neg, mx_eq, mn_eq]), cond_pos (by simp (disch := omega) only [smallI_t, inB_t, cutB_t, wrap64, dec_t, dec_f, dec_not, dec_and, dec_or, cond_ite, cond_true, cond_false, Option.bind_some, Option.bind_none, Bool.or_true, Bool.true_or, Bool.and_true, Bool.true_and, Bool.and_false, Bool.false_and, Bool.or_false, Bool.false_or, Bool.not_true, Bool.not_false, Bool.or_self, Bool.and_self, Bool.not_not, if_true, if_false, and_self, true_and, and_true, and_false, false_and, or_true, true_or, or_false, false_or, not_true_eq_false, not_false_eq_true, decide_true, decide_false, eq_self, if_pos, if_neg, mx_eq, mn_eq])]
          have hpt : low ≤ mn (mx t low) high ∧ mn (mx t low) high ≤ high := by rw [mx_eq, mn_eq]; omega
          generalize mn (mx t low) high = point at *
          -- the loop
          have hin : ∀ k, k < s.length → ∃ j : Nat, j < l.length ∧ rd (0 : Int) s (k : Int) = (j : Int) ∧ reachB low (rd zP l (j : Int)) = true := by
            intro k hk
            exact (hpm _).1 (rd_mem (d := (0 : Int)) (xs := s) (i := (k : Int)) (by omega) (by omega))
          have main : ∀ k, k ≤ s.length → ∃ f, pendulumlaw29_SelTruth.l0 .lim (l, truth, low, high, point, false, (s.length : Int), (0 : Int), s, ()) = pendulumlaw29_SelTruth.l0 .lim (l, truth, low, high, point, f, (s.length : Int), (k : Int), s, ()) ∧
              (f = true ∨ ∀ i : Nat, i < k → reachB truth (rd zP l (rd (0 : Int) s (i : Int))) = false) := by
            intro k
            induction k with
            | zero => intro _; exact ⟨false, rfl, .inr fun i hi => absurd hi (by omega)⟩
            | succ k ih =>
              intro hk
              obtain ⟨f, e, hb⟩ := ih (by omega)
              obtain ⟨j, hj, hrj, hr⟩ := hin k (by omega)
              have hfj := h.2 j hj
              have hmem := rd_mem (d := zP) (xs := l) (i := (j : Int)) (by omega) (by omega)
              have hlst := hm.least _ hmem
              rw [e, pendulumlaw29_SelTruth.q0]
              simp only [pendulumlaw29_SelTruth.b0, Prod.eta]
              rw [cond_pos (by simp (disch := omega) only [smallI_t, inB_t, cutB_t, wrap64, dec_t, dec_f, dec_not, dec_and, dec_or, cond_ite, cond_true, cond_false, Option.bind_some, Option.bind_none, Bool.or_true, Bool.true_or, Bool.and_true, Bool.true_and, Bool.and_false, Bool.false_and, Bool.or_false, Bool.false_or, Bool.not_true, Bool.not_false, Bool.or_self, Bool.and_self, Bool.not_not, if_true, if_false, and_self, true_and, and_true, and_false, false_and, or_true, true_or, or_false, false_or, not_true_eq_false, not_false_eq_true, decide_true, decide_false, eq_self, if_pos, if_neg, mx_eq, mn_eq]), cond_pos (by simp (disch := omega) only [smallI_t, inB_t, cutB_t, wrap64, dec_t, dec_f, dec_not, dec_and, dec_or, cond_ite, cond_true, cond_false, Option.bind_some, Option.bind_none, Bool.or_true, Bool.true_or, Bool.and_true, Bool.true_and, Bool.and_false, Bool.false_and, Bool.or_false, Bool.false_or, Bool.not_true, Bool.not_false, Bool.or_self, Bool.and_self, Bool.not_not, if_true, if_false, and_self, true_and, and_true, and_false, false_and, or_true, true_or, or_false, false_or, not_true_eq_false, not_false_eq_true, decide_true, decide_false, eq_self, if_pos, if_neg, mx_eq, mn_eq]), hrj, cond_pos (by simp (disch := omega) only [smallI_t, inB_t, cutB_t, wrap64, dec_t, dec_f, dec_not, dec_and, dec_or, cond_ite, cond_true, cond_false, Option.bind_some, Option.bind_none, Bool.or_true, Bool.true_or, Bool.and_true, Bool.true_and, Bool.and_false, Bool.false_and, Bool.or_false, Bool.false_or, Bool.not_true, Bool.not_false, Bool.or_self, Bool.and_self, Bool.not_not, if_true, if_false, and_self, true_and, and_true, and_false, false_and, or_true, true_or, or_false, false_or, not_true_eq_false, not_false_eq_true, decide_true, decide_false, eq_self, if_pos, if_neg, mx_eq, mn_eq]), cond_neg (by simp (disch := omega) only [smallI_t, inB_t, cutB_t, wrap64, dec_t, dec_f, dec_not, dec_and, dec_or, cond_ite, cond_true, cond_false, Option.bind_some, Option.bind_none, Bool.or_true, Bool.true_or, Bool.and_true, Bool.true_and, Bool.and_false, Bool.false_and, Bool.or_false, Bool.false_or, Bool.not_true, Bool.not_false, Bool.or_self, Bool.and_self, Bool.not_not, if_true, if_false, and_self, true_and, and_true, and_false, false_and, or_true, true_or, or_false, false_or, not_true_eq_false, not_false_eq_true, decide_true, decide_false, eq_self, if_pos, if_neg, mx_eq, mn_eq]), cond_pos (by simp (disch := omega) only [smallI_t, inB_t, cutB_t, wrap64, dec_t, dec_f, dec_not, dec_and, dec_or, cond_ite, cond_true, cond_false, Option.bind_some, Option.bind_none, Bool.or_true, Bool.true_or, Bool.and_true, Bool.true_and, Bool.and_false, Bool.false_and, Bool.or_false, Bool.false_or, Bool.not_true, Bool.not_false, Bool.or_self, Bool.and_self, Bool.not_not, if_true, if_false, and_self, true_and, and_true, and_false, false_and, or_true, true_or, or_false, false_or, not_true_eq_false, not_false_eq_true, decide_true, decide_false, eq_self, if_pos, if_neg, mx_eq, mn_eq]), rreach_eq hfj, Option.bind_some]
              simp only []
              unfold reachB at hr
              simp only [Bool.and_eq_true, decide_eq_true_eq] at hr
              have hlst := hlst hr.1 hr.2
              rw [cond_neg (by simp (disch := omega) only [smallI_t, inB_t, cutB_t, wrap64, dec_t, dec_f, dec_not, dec_and, dec_or, cond_ite, cond_true, cond_false, Option.bind_some, Option.bind_none, Bool.or_true, Bool.true_or, Bool.and_true, Bool.true_and, Bool.and_false, Bool.false_and, Bool.or_false, Bool.false_or, Bool.not_true, Bool.not_false, Bool.or_self, Bool.and_self, Bool.not_not, if_true, if_false, and_self, true_and, and_true, and_false, false_and, or_true, true_or, or_false, false_or, not_true_eq_false, not_false_eq_true, decide_true, decide_false, eq_self, if_pos, if_neg, mx_eq, mn_eq])]
              rw [show (decide (lo (rd zP l (j : Int)) ≤ truth) && decide (truth ≤ hi (rd zP l (j : Int)))) = reachB truth (rd zP l (j : Int)) from rfl]
              have w : IntKind.i64.wrap ((k : Int) + 1) = ((k + 1 : Nat) : Int) := by simp (disch := omega) only [smallI_t, inB_t, cutB_t, wrap64, dec_t, dec_f, dec_not, dec_and, dec_or, cond_ite, cond_true, cond_false, Option.bind_some, Option.bind_none, Bool.or_true, Bool.true_or, Bool.and_true, Bool.true_and, Bool.and_false, Bool.false_and, Bool.or_false, Bool.false_or, Bool.not_true, Bool.not_false, Bool.or_self, Bool.and_self, Bool.not_not, if_true, if_false, and_self, true_and, and_true, and_false, false_and, or_true, true_or, or_false, false_or, not_true_eq_false, not_false_eq_true, decide_true, decide_false, eq_self, if_pos, if_neg, mx_eq, mn_eq]; rfl
              rw [w]
              cases ht : reachB truth (rd zP l (j : Int)) with
              | true =>
                refine ⟨true, ?_, .inl rfl⟩
                unfold reachB at ht
                simp only [Bool.and_eq_true, decide_eq_true_eq] at ht
                unfold fitP at hfj
                have hlo : lo (rd zP l (j : Int)) = (rd zP l (j : Int)).1 - (rd zP l (j : Int)).2.1 := rfl
                have hhi : hi (rd zP l (j : Int)) = (rd zP l (j : Int)).1 + (rd zP l (j : Int)).2.1 := rfl
                rw [cond_true, cond_pos (by simp (disch := omega) only [smallI_t, inB_t, cutB_t, wrap64, dec_t, dec_f, dec_not, dec_and, dec_or, cond_ite, cond_true, cond_false, Option.bind_some, Option.bind_none, Bool.or_true, Bool.true_or, Bool.and_true, Bool.true_and, Bool.and_false, Bool.false_and, Bool.or_false, Bool.false_or, Bool.not_true, Bool.not_false, Bool.or_self, Bool.and_self, Bool.not_not, if_true, if_false, and_self, true_and, and_true, and_false, false_and, or_true, true_or, or_false, false_or, not_true_eq_false, not_false_eq_true, decide_true, decide_false, eq_self, if_pos, if_neg, mx_eq, mn_eq]), cond_neg (by
                  have hz : (rd ((0 : Int), ((0 : Int), (0 : Int))) l (j : Int)).2.1 = (rd zP l (j : Int)).2.1 := rfl
                  generalize (rd ((0 : Int), ((0 : Int), (0 : Int))) l (j : Int)).2.1 = root at *
                  rw [wrap64 (by omega) (by omega), wrap64 (by omega) (by omega), wrap64 (by omega) (by omega), mx_eq]; simp (disch := omega) only [smallI_t, inB_t, cutB_t, wrap64, dec_t, dec_f, dec_not, dec_and, dec_or, cond_ite, cond_true, cond_false, Option.bind_some, Option.bind_none, Bool.or_true, Bool.true_or, Bool.and_true, Bool.true_and, Bool.and_false, Bool.false_and, Bool.or_false, Bool.false_or, Bool.not_true, Bool.not_false, Bool.or_self, Bool.and_self, Bool.not_not, if_true, if_false, and_self, true_and, and_true, and_false, false_and, or_true, true_or, or_false, false_or, not_true_eq_false, not_false_eq_true, decide_true, decide_false, eq_self, if_pos, if_neg, mx_eq, mn_eq])]
              | false =>
                refine ⟨f, rfl, ?_⟩
                rcases hb with hb | hb
                · exact .inl hb
                · refine .inr fun i hi => ?_
                  by_cases hik : i = k
                  · subst hik; rw [hrj]; exact ht
                  · exact hb i (by omega)
          obtain ⟨f, e, hb⟩ := main s.length (Nat.le_refl _)
          have hf : f = true := by
            rcases hb with hb | hb
            · exact hb
            · exfalso
              have hdis : ∀ p ∈ l, ¬ (reachB low p = true ∧ reachB truth p = true) := by
                rintro p hp ⟨r1, r2⟩
                obtain ⟨j, hj, rfl⟩ := mem_rd hp
                have hms := (hpm (j : Int)).2 ⟨j, hj, rfl, r1⟩
                obtain ⟨i, hi, hij⟩ := List.getElem_of_mem hms
                have := hb i hi
                rw [rd_ix hi, hij, r2] at this
                cases this
              have hsum : ∀ L : List Peer, (∀ p ∈ L, ¬ (reachB low p = true ∧ reachB truth p = true)) → L.countP (reachB low) + L.countP (reachB truth) ≤ L.length := by
                intro L
                induction L with
                | nil => intro _; simp
                | cons p r ih =>
                  intro hd
                  have h4 := ih fun q hq => hd q (by simp [hq])
                  have h5 := hd p (by simp)
                  simp only [List.countP_cons, List.length_cons]
                  cases h6 : reachB low p <;> cases h7 : reachB truth p
                  · simp; omega
                  · simp; omega
                  · simp; omega
                  · exact absurd ⟨h6, h7⟩ h5
              have := hsum l hdis
              unfold cnt at *
              omega
          subst hf
          rw [e, pendulumlaw29_SelTruth.q0]
          simp (disch := omega) only [smallI_t, inB_t, cutB_t, wrap64, dec_t, dec_f, dec_not, dec_and, dec_or, cond_ite, cond_true, cond_false, Option.bind_some, Option.bind_none, Bool.or_true, Bool.true_or, Bool.and_true, Bool.true_and, Bool.and_false, Bool.false_and, Bool.or_false, Bool.false_or, Bool.not_true, Bool.not_false, Bool.or_self, Bool.and_self, Bool.not_not, if_true, if_false, and_self, true_and, and_true, and_false, false_and, or_true, true_or, or_false, false_or, not_true_eq_false, not_false_eq_true, decide_true, decide_false, eq_self, if_pos, if_neg, mx_eq, mn_eq, pendulumlaw29_SelTruth.b0]
theorem rev_rd {l : List Peer} {k : Nat} (hk : k < l.length) : l.reverse.take (k + 1) = l.reverse.take k ++ [rd zP l ((l.length : Int) - 1 - (k : Int))] := by
  rw [take_rd (d := zP) (by simpa using hk), rd_ix (by simpa using hk)]
  have : (l.length : Int) - 1 - (k : Int) = ((l.length - 1 - k : Nat) : Int) := by omega
  rw [this, rd_ix (by omega), List.getElem_reverse]
theorem mostlaw_true (l : List Peer) (hl : l.length ≤ 9223372036854775807) (p : Peer) (t : Int) : pendulumlaw29_SelMost.run .lim (l, p, t, ()) = some true := by
  simp only [pendulumlaw29_SelMost.run]
  rw [rfit_run l hl, Option.bind_some]
  cases hf : fitB l with
  | false => rfl
  | true =>
    have h := (fitB_iff l).1 hf
    have h10 := h.1
    obtain ⟨m, low, high, h1, h2, h3⟩ := most_same h
    have hb := cnt_bd h h3
    have step : ∀ k, k < l.length → pendulumlaw29_SelMost.l0 .lim (l, t, m, low, high, (l.length : Int), (k : Int), p.1, p.2.1, p.2.2, l.reverse.take k, ()) = pendulumlaw29_SelMost.l0 .lim (l, t, m, low, high, (l.length : Int), ((k + 1 : Nat) : Int), p.1, p.2.1, p.2.2, l.reverse.take (k + 1), ()) := by
      intro k hk
      rw [pendulumlaw29_SelMost.q0, rev_rd hk]
      have w1 : IntKind.i64.wrap (IntKind.i64.wrap ((l.length : Int) - 1) - (k : Int)) = (l.length : Int) - 1 - (k : Int) := by simp (disch := omega) only [smallI_t, inB_t, cutB_t, wrap64, dec_t, dec_f, dec_not, dec_and, dec_or, cond_ite, cond_true, cond_false, Option.bind_some, Option.bind_none, Bool.or_true, Bool.true_or, Bool.and_true, Bool.true_and, Bool.and_false, Bool.false_and, Bool.or_false, Bool.false_or, Bool.not_true, Bool.not_false, Bool.or_self, Bool.and_self, Bool.not_not, if_true, if_false, and_self, true_and, and_true, and_false, false_and, or_true, true_or, or_false, false_or, not_true_eq_false, not_false_eq_true, decide_true, decide_false, eq_self, if_pos, if_neg, mx_eq, mn_eq]
      have w : IntKind.i64.wrap ((k : Int) + 1) = ((k + 1 : Nat) : Int) := by simp (disch := omega) only [smallI_t, inB_t, cutB_t, wrap64, dec_t, dec_f, dec_not, dec_and, dec_or, cond_ite, cond_true, cond_false, Option.bind_some, Option.bind_none, Bool.or_true, Bool.true_or, Bool.and_true, Bool.true_and, Bool.and_false, Bool.false_and, Bool.or_false, Bool.false_or, Bool.not_true, Bool.not_false, Bool.or_self, Bool.and_self, Bool.not_not, if_true, if_false, and_self, true_and, and_true, and_false, false_and, or_true, true_or, or_false, false_or, not_true_eq_false, not_false_eq_true, decide_true, decide_false, eq_self, if_pos, if_neg, mx_eq, mn_eq]; rfl
      simp only [pendulumlaw29_SelMost.b0, Prod.eta]
      rw [w1, w, cond_pos (by simp (disch := omega) only [smallI_t, inB_t, cutB_t, wrap64, dec_t, dec_f, dec_not, dec_and, dec_or, cond_ite, cond_true, cond_false, Option.bind_some, Option.bind_none, Bool.or_true, Bool.true_or, Bool.and_true, Bool.true_and, Bool.and_false, Bool.false_and, Bool.or_false, Bool.false_or, Bool.not_true, Bool.not_false, Bool.or_self, Bool.and_self, Bool.not_not, if_true, if_false, and_self, true_and, and_true, and_false, false_and, or_true, true_or, or_false, false_or, not_true_eq_false, not_false_eq_true, decide_true, decide_false, eq_self, if_pos, if_neg, mx_eq, mn_eq]), cond_pos (by simp (disch := omega) only [smallI_t, inB_t, cutB_t, wrap64, dec_t, dec_f, dec_not, dec_and, dec_or, cond_ite, cond_true, cond_false, Option.bind_some, Option.bind_none, Bool.or_true, Bool.true_or, Bool.and_true, Bool.true_and, Bool.and_false, Bool.false_and, Bool.or_false, Bool.false_or, Bool.not_true, Bool.not_false, Bool.or_self, Bool.and_self, Bool.not_not, if_true, if_false, and_self, true_and, and_true, and_false, false_and, or_true, true_or, or_false, false_or, not_true_eq_false, not_false_eq_true, decide_true, decide_false, eq_self, if_pos, if_neg, mx_eq, mn_eq]), cond_pos (by simp (disch := omega) only [smallI_t, inB_t, cutB_t, wrap64, dec_t, dec_f, dec_not, dec_and, dec_or, cond_ite, cond_true, cond_false, Option.bind_some, Option.bind_none, Bool.or_true, Bool.true_or, Bool.and_true, Bool.true_and, Bool.and_false, Bool.false_and, Bool.or_false, Bool.false_or, Bool.not_true, Bool.not_false, Bool.or_self, Bool.and_self, Bool.not_not, if_true, if_false, and_self, true_and, and_true, and_false, false_and, or_true, true_or, or_false, false_or, not_true_eq_false, not_false_eq_true, decide_true, decide_false, eq_self, if_pos, if_neg, mx_eq, mn_eq]), cond_pos (by rw [List.length_take, List.length_singleton]; simp (disch := omega) only [smallI_t, inB_t, cutB_t, wrap64, dec_t, dec_f, dec_not, dec_and, dec_or, cond_ite, cond_true, cond_false, Option.bind_some, Option.bind_none, Bool.or_true, Bool.true_or, Bool.and_true, Bool.true_and, Bool.and_false, Bool.false_and, Bool.or_false, Bool.false_or, Bool.not_true, Bool.not_false, Bool.or_self, Bool.and_self, Bool.not_not, if_true, if_false, and_self, true_and, and_true, and_false, false_and, or_true, true_or, or_false, false_or, not_true_eq_false, not_false_eq_true, decide_true, decide_false, eq_self, if_pos, if_neg, mx_eq, mn_eq])]
    have e0 : pendulumlaw29_SelMost.l0 .lim (l, t, m, low, high, (l.length : Int), (0 : Int), p.1, p.2.1, p.2.2, ([] : List Peer), ()) = some (l, t, m, low, high, p.1, p.2.1, p.2.2, l.reverse, ()) := by
      refine (loop_to (fun k : Nat => (l, t, m, low, high, (l.length : Int), (k : Int), p.1, p.2.1, p.2.2, l.reverse.take k, ())) step).trans ?_
      rw [pendulumlaw29_SelMost.q0, List.take_of_length_le (by simp)]
      simp (disch := omega) only [smallI_t, inB_t, cutB_t, wrap64, dec_t, dec_f, dec_not, dec_and, dec_or, cond_ite, cond_true, cond_false, Option.bind_some, Option.bind_none, Bool.or_true, Bool.true_or, Bool.and_true, Bool.true_and, Bool.and_false, Bool.false_and, Bool.or_false, Bool.false_or, Bool.not_true, Bool.not_false, Bool.or_self, Bool.and_self, Bool.not_not, if_true, if_false, and_self, true_and, and_true, and_false, false_and, or_true, true_or, or_false, false_or, not_true_eq_false, not_false_eq_true, decide_true, decide_false, eq_self, if_pos, if_neg, mx_eq, mn_eq, pendulumlaw29_SelMost.b0]
    have hrev : fitL l.reverse := ⟨by simpa using h10, fun k hk => fit_mem h (by
      have := rd_mem (d := zP) (xs := l.reverse) (i := (k : Int)) (by omega) (by omega)
      simpa using this)⟩
    obtain ⟨m', low', high', r1, -, r3⟩ := most_same hrev
    have hsame : m = m' ∧ low = low' ∧ high = high' := by
      rcases h3 with ⟨rfl, rfl, rfl, rfl⟩ | ⟨hne, hm⟩
      · rcases r3 with ⟨-, rfl, rfl, rfl⟩ | ⟨hne, -⟩
        · exact ⟨rfl, rfl, rfl⟩
        · exact absurd rfl hne
      · rcases r3 with ⟨he, -⟩ | ⟨-, hm'⟩
        · exact absurd (List.reverse_eq_nil_iff.1 he) hne
        · exact hm.unique (hm'.perm (List.reverse_perm l))
    obtain ⟨rfl, rfl, rfl⟩ := hsame
    simp only [Bool.not_true, cond_false]
    rw [h1, Option.bind_some]
    simp only []
    rw [cond_pos (by simp (disch := omega) only [smallI_t, inB_t, cutB_t, wrap64, dec_t, dec_f, dec_not, dec_and, dec_or, cond_ite, cond_true, cond_false, Option.bind_some, Option.bind_none, Bool.or_true, Bool.true_or, Bool.and_true, Bool.true_and, Bool.and_false, Bool.false_and, Bool.or_false, Bool.false_or, Bool.not_true, Bool.not_false, Bool.or_self, Bool.and_self, Bool.not_not, if_true, if_false, and_self, true_and, and_true, and_false, false_and, or_true, true_or, or_false, false_or, not_true_eq_false, not_false_eq_true, decide_true, decide_false, eq_self, if_pos, if_neg, mx_eq, mn_eq]), e0, Option.bind_some]
    simp only []
    rw [r1, Option.bind_some]
    simp only [decide_true, Bool.not_true, Bool.or_self, Bool.not_false, cond_true, Bool.false_or]
    rw [rcount_eq h, Option.bind_some]
    have ht : (cnt l t : Int) ≤ m := by
      rcases h3 with ⟨rfl, rfl, -⟩ | ⟨-, hm⟩
      · exact Int.le_refl _
      · exact hm.any t
    have hlen : smallI (l.length : Int) = true := by simp (disch := omega) only [smallI_t, inB_t, cutB_t, wrap64, dec_t, dec_f, dec_not, dec_and, dec_or, cond_ite, cond_true, cond_false, Option.bind_some, Option.bind_none, Bool.or_true, Bool.true_or, Bool.and_true, Bool.true_and, Bool.and_false, Bool.false_and, Bool.or_false, Bool.false_or, Bool.not_true, Bool.not_false, Bool.or_self, Bool.and_self, Bool.not_not, if_true, if_false, and_self, true_and, and_true, and_false, false_and, or_true, true_or, or_false, false_or, not_true_eq_false, not_false_eq_true, decide_true, decide_false, eq_self, if_pos, if_neg, mx_eq, mn_eq]
    rw [hlen, Bool.or_true, cond_true, show decide ((cnt l t : Int) > m) = false by simp (disch := omega) only [smallI_t, inB_t, cutB_t, wrap64, dec_t, dec_f, dec_not, dec_and, dec_or, cond_ite, cond_true, cond_false, Option.bind_some, Option.bind_none, Bool.or_true, Bool.true_or, Bool.and_true, Bool.true_and, Bool.and_false, Bool.false_and, Bool.or_false, Bool.false_or, Bool.not_true, Bool.not_false, Bool.or_self, Bool.and_self, Bool.not_not, if_true, if_false, and_self, true_and, and_true, and_false, false_and, or_true, true_or, or_false, false_or, not_true_eq_false, not_false_eq_true, decide_true, decide_false, eq_self, if_pos, if_neg, mx_eq, mn_eq]]
    simp only [Bool.not_false, Bool.true_and, Bool.false_or]
    have hmore : ∀ (b : Bool), ((bif decide (([] : List Peer).length + l.length < 2932031007402) then
      bif decide ((([] : List Peer) ++ l).length + ([(p.1, (p.2.1, p.2.2))] : List Peer).length < 2932031007402) then
      (pendulumref29_Fit.run .lim (((([] : List Peer) ++ l) ++ ([(p.1, (p.2.1, p.2.2))] : List Peer)), ())).bind fun r11 =>
      bif !r11 then
        (some true).bind fun r12 =>
        some r12
      else
        (sel_Most.run .lim (((([] : List Peer) ++ l) ++ ([(p.1, (p.2.1, p.2.2))] : List Peer)), ())).bind fun (r13, r14, r15, ()) =>
        ((bif (((decide (r13 ≥ m)) && (decide (r13 ≤ (IntKind.i64.wrap (m + (1 : Int)))))) && (decide (r13 ≥ (1 : Int)))) then some true else some false)).bind fun r16 =>
        some ((((decide (r13 ≥ m)) && (decide (r13 ≤ (IntKind.i64.wrap (m + (1 : Int)))))) && (decide (r13 ≥ (1 : Int)))) && r16)
      else none
      else none) = some true) := by
      intro _
      rw [List.nil_append, List.length_nil, List.length_singleton, cond_pos (by simp (disch := omega) only [smallI_t, inB_t, cutB_t, wrap64, dec_t, dec_f, dec_not, dec_and, dec_or, cond_ite, cond_true, cond_false, Option.bind_some, Option.bind_none, Bool.or_true, Bool.true_or, Bool.and_true, Bool.true_and, Bool.and_false, Bool.false_and, Bool.or_false, Bool.false_or, Bool.not_true, Bool.not_false, Bool.or_self, Bool.and_self, Bool.not_not, if_true, if_false, and_self, true_and, and_true, and_false, false_and, or_true, true_or, or_false, false_or, not_true_eq_false, not_false_eq_true, decide_true, decide_false, eq_self, if_pos, if_neg, mx_eq, mn_eq]), cond_pos (by simp (disch := omega) only [smallI_t, inB_t, cutB_t, wrap64, dec_t, dec_f, dec_not, dec_and, dec_or, cond_ite, cond_true, cond_false, Option.bind_some, Option.bind_none, Bool.or_true, Bool.true_or, Bool.and_true, Bool.true_and, Bool.and_false, Bool.false_and, Bool.or_false, Bool.false_or, Bool.not_true, Bool.not_false, Bool.or_self, Bool.and_self, Bool.not_not, if_true, if_false, and_self, true_and, and_true, and_false, false_and, or_true, true_or, or_false, false_or, not_true_eq_false, not_false_eq_true, decide_true, decide_false, eq_self, if_pos, if_neg, mx_eq, mn_eq]), rfit_run _ (by simp; omega), Option.bind_some]
      simp only [Prod.eta]
      cases hf2 : fitB (l ++ [p]) with
      | false => rfl
      | true =>
        have g := (fitB_iff _).1 hf2
        obtain ⟨k, lw, hg, g1, -, g3⟩ := most_same g
        rw [g1]
        simp only [Bool.not_true, cond_false, Option.bind_some]
        rcases g3 with ⟨hnil, -⟩ | ⟨-, gm⟩
        · simp at hnil
        · have hcnt : ∀ u, (cnt (l ++ [p]) u : Int) = cnt l u + if reachB u p = true then 1 else 0 := by
            intro u; unfold cnt; rw [List.countP_append, List.countP_singleton]; split <;> simp
          have a1 : k ≤ m + 1 := by
            have := gm.at_low
            have h6 := hcnt lw
            have h7 : (cnt l lw : Int) ≤ m := by
              rcases h3 with ⟨rfl, rfl, -⟩ | ⟨-, hm⟩
              · exact Int.le_refl _
              · exact hm.any lw
            split at h6 <;> omega
          have a2 : m ≤ k := by
            rcases h3 with ⟨rfl, rfl, -⟩ | ⟨-, hm⟩
            · have := gm.at_low; omega
            · have h6 := gm.any low
              have h7 := hcnt low
              have h8 := hm.at_low
              split at h7 <;> omega
          have a3 : 1 ≤ k := by
            obtain ⟨q, hq, e⟩ := gm.begins
            have h6 := cnt_pos (fun x hx => (fit_mem g hx).2.2.1) hq
            rw [e] at h6
            have := gm.at_low
            omega
          rw [wrap64 (by omega) (by omega)]
          simp (disch := omega) only [smallI_t, inB_t, cutB_t, wrap64, dec_t, dec_f, dec_not, dec_and, dec_or, cond_ite, cond_true, cond_false, Option.bind_some, Option.bind_none, Bool.or_true, Bool.true_or, Bool.and_true, Bool.true_and, Bool.and_false, Bool.false_and, Bool.or_false, Bool.false_or, Bool.not_true, Bool.not_false, Bool.or_self, Bool.and_self, Bool.not_not, if_true, if_false, and_self, true_and, and_true, and_false, false_and, or_true, true_or, or_false, false_or, not_true_eq_false, not_false_eq_true, decide_true, decide_false, eq_self, if_pos, if_neg, mx_eq, mn_eq]
    rcases h3 with ⟨rfl, rfl, rfl, rfl⟩ | ⟨hne, hm⟩
    · exact hmore true
    · have hlp : 0 < l.length := List.length_pos_iff.2 hne
      have hlh := hm.lh
      have hhigh : (cnt l high : Int) ≥ m := by
        have h4 : cnt l low ≤ cnt l high := by
          apply List.countP_mono_left
          intro q hq hqr
          unfold reachB at *
          simp only [Bool.and_eq_true, decide_eq_true_eq] at *
          have := hm.least q hq hqr.1 hqr.2
          omega
        have := hm.at_low
        omega
      rw [show decide ((l.length : Int) > 0) = true by simp (disch := omega) only [smallI_t, inB_t, cutB_t, wrap64, dec_t, dec_f, dec_not, dec_and, dec_or, cond_ite, cond_true, cond_false, Option.bind_some, Option.bind_none, Bool.or_true, Bool.true_or, Bool.and_true, Bool.true_and, Bool.and_false, Bool.false_and, Bool.or_false, Bool.false_or, Bool.not_true, Bool.not_false, Bool.or_self, Bool.and_self, Bool.not_not, if_true, if_false, and_self, true_and, and_true, and_false, false_and, or_true, true_or, or_false, false_or, not_true_eq_false, not_false_eq_true, decide_true, decide_false, eq_self, if_pos, if_neg, mx_eq, mn_eq]]
      simp only [cond_true, Bool.true_and]
      rw [rcount_eq h, Option.bind_some, hm.at_low]
      simp only [decide_true, Bool.not_true, Bool.not_false, cond_true, Bool.false_or]
      rw [rcount_eq h, Option.bind_some, cond_neg (by simp (disch := omega) only [smallI_t, inB_t, cutB_t, wrap64, dec_t, dec_f, dec_not, dec_and, dec_or, cond_ite, cond_true, cond_false, Option.bind_some, Option.bind_none, Bool.or_true, Bool.true_or, Bool.and_true, Bool.true_and, Bool.and_false, Bool.false_and, Bool.or_false, Bool.false_or, Bool.not_true, Bool.not_false, Bool.or_self, Bool.and_self, Bool.not_not, if_true, if_false, and_self, true_and, and_true, and_false, false_and, or_true, true_or, or_false, false_or, not_true_eq_false, not_false_eq_true, decide_true, decide_false, eq_self, if_pos, if_neg, mx_eq, mn_eq])]
      exact hmore true
theorem selects_ok : ∀ x, oks [.one (.lst (.pair (.int .i64) (.pair (.int .i64) (.int .i64))))] x → pendulumlaw29_SelSelects.run .lim x = some true := by
  intro x h
  match x with
  | (l, ()) => exact selects_true l h.1.1
theorem seltells_ok : ∀ x, oks [.one (.lst (.pair (.int .i64) (.pair (.int .i64) (.int .i64)))), .one (.int .i64)] x → pendulumlaw29_SelTells.run .lim x = some true := by
  intro x h
  match x with
  | (l, t, ()) => exact tells_true l h.1.1 t
theorem truth_ok : ∀ x, oks [.one (.lst (.pair (.int .i64) (.pair (.int .i64) (.int .i64)))), .one (.int .i64), .one (.int .i64)] x → pendulumlaw29_SelTruth.run .lim x = some true := by
  intro x h
  match x with
  | (l, u, t, ()) => exact truth_true l h.1.1 u t
theorem selmost_ok : ∀ x, oks [.one (.lst (.pair (.int .i64) (.pair (.int .i64) (.int .i64)))), .ag (.pair (.int .i64) (.pair (.int .i64) (.int .i64))), .one (.int .i64)] x → pendulumlaw29_SelMost.run .lim x = some true := by
  intro x h
  match x with
  | (l, p, t, ()) => exact mostlaw_true l h.1.1 p t
end Go.AM
end
