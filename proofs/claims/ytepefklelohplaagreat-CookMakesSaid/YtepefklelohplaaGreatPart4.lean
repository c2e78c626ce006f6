import Derived.Test.YtepefklelohplaaGreatPart3

/-! The functions that the laws of this seat reach, as plain functions, and what these answer; no condition. -/
set_option linter.unusedSimpArgs false
set_option linter.unusedVariables false

section
namespace Go.AM
theorem okK_new {key : List Int} {ad : List (List Int)} {plain : List Int} (T : Txts key ad plain) (hp : plain.length ≤ 65536) (n : Int) : okK (key, ad, plain, txt n plain) :=
 ⟨T.k, T.a, T.al, T.s, by simp only [txt, num16, List.length_append, List.length_map, List.length_range, List.length_replicate]; omega⟩
theorem sealE_zero {key : List Int} {ad : List (List Int)} {n : Nat} (h0 : sealE key ad n = 0) : refE (key, ad, [], []) = 0 ∧ n ≤ 65536 := by
 unfold sealE at h0
 split at h0
 ·split at h0
  ·exact absurd h0 (by decide)
  ·exact ⟨by assumption, by omega⟩
 ·exact absurd h0 (by assumption)
theorem sealI_cases (xs : List KK) (key : List Int) (ad : List (List Int)) (plain : List Int) :
  ((sealI xs key ad plain).2.2 ≠ 0 ∧ (sealI xs key ad plain).1 = xs ∧ (sealI xs key ad plain).2.1 = []) ∨
  (sealE key ad plain.length = 0 ∧ (∃ k, k < xs.length ∧ alk (rd k0 xs (k : Int)) (key, ad, plain, []) = true ∧ sealI xs key ad plain = (xs, (rd k0 xs (k : Int)).2.2.2, 0))) ∨
  (sealE key ad plain.length = 0 ∧ xs.length < 2048 ∧ (∀ k, k < xs.length → alk (rd k0 xs (k : Int)) (key, ad, plain, []) = false) ∧ sealI xs key ad plain = (xs ++ [(key, ad, plain, txt (xs.length + 1) plain)], txt (xs.length + 1) plain, 0)) := by
 unfold sealI
 by_cases h0 : sealE key ad plain.length = 0
 ·rw [if_pos h0]
  cases hq : (List.range xs.length).find? (fun j : Nat => alk (rd k0 xs (j : Int)) (key, ad, plain, [])) with
  | some k => exact .inr (.inl ⟨h0, k, List.mem_range.1 (List.mem_of_find?_eq_some hq), by simpa using List.find?_some hq, rfl⟩)
  | none =>
   simp only
   by_cases h2 : xs.length ≥ 2048
   ·rw [if_pos h2]; exact .inl ⟨show (18 : Int) ≠ 0 by decide, rfl, rfl⟩
   ·rw [if_neg h2]
    refine .inr (.inr ⟨h0, by omega, fun k hk => ?_, rfl⟩)
    have := List.find?_eq_none.1 hq k (List.mem_range.2 hk)
    simpa using this
 ·rw [if_neg h0]; exact .inl ⟨h0, rfl, rfl⟩
theorem okV_seal {v : VV} (hv : okV v) {key : List Int} {ad : List (List Int)} {plain : List Int} (T : Txts key ad plain) : okV (sealV v key ad plain).1 := by
 obtain ⟨b, xs⟩ := v
 unfold sealV
 cases b with
 | false => exact hv
 | true =>
  simp only [cond_true]
  rcases sealI_cases xs key ad plain with ⟨_, h, _⟩ | ⟨_, k, _, _, h⟩ | ⟨h0, h1, _, h⟩
  ·rw [h]; exact hv
  ·rw [h]; exact hv
  ·rw [h]
   refine ⟨by simp; omega, fun q hq => ?_⟩
   rcases List.mem_append.1 hq with hq | hq
   ·exact hv.2 q hq
   ·rw [List.mem_singleton.1 hq]; exact okK_new T (sealE_zero h0).2 _
theorem fit_bad {xs : List KK} (h : fitV (true, xs) = true) : xs.length ≤ 2048 ∧ ∀ i, i < xs.length → badK xs i = false := by
 unfold fitV at h
 simp only [cond_true, Bool.and_eq_true, decide_eq_true_eq, Bool.not_eq_true', List.any_eq_false, List.mem_range] at h
 exact ⟨h.1, fun i hi => by simpa using h.2 i hi⟩
theorem badK_app {xs : List KK} {q : KK} {i : Nat} (hi : i < xs.length) : badK (xs ++ [q]) i = badK xs i := by
 unfold badK
 rw [rd_app hi, any_congr (d := fun j => alk (rd k0 xs (j : Int)) (rd k0 xs (i : Int))) fun j hj => by rw [rd_app (by omega)]]
theorem rd_last {α : Type} {d : α} {xs : List α} {q : α} : rd d (xs ++ [q]) (xs.length : Int) = q := by
 rw [rd_ix (by simp)]; simp
theorem fit_seal {v : VV} (hf : fitV v = true) (key : List Int) (ad : List (List Int)) (plain : List Int) : fitV (sealV v key ad plain).1 = true := by
 obtain ⟨b, xs⟩ := v
 unfold sealV
 cases b with
 | false => exact hf
 | true =>
  simp only [cond_true]
  obtain ⟨f1, f2⟩ := fit_bad hf
  rcases sealI_cases xs key ad plain with ⟨_, h, _⟩ | ⟨_, k, _, _, h⟩ | ⟨h0, h1, h2, h⟩
  ·rw [h]; exact hf
  ·rw [h]; exact hf
  ·rw [h]
   obtain ⟨g1, g2⟩ := sealE_zero h0
   unfold fitV
   simp only [cond_true, Bool.and_eq_true, decide_eq_true_eq, Bool.not_eq_true', List.any_eq_false, List.mem_range, List.length_append, List.length_singleton]
   refine ⟨by omega, fun i hi => ?_⟩
   by_cases hl : i < xs.length
   ·rw [badK_app hl, f2 i hl]; simp
   ·obtain rfl : i = xs.length := by omega
    unfold badK
    rw [rd_last]
    rw [any_congr (d := fun _ => false) fun j hj => by
     rw [rd_app hj]
     have := h2 j hj
     unfold alk at this ⊢
     exact this]
    rw [refE_eq, g1, dec_t rfl, dec_f (show ¬ plain.length > 65536 by omega), dec_t rfl]
    simp
theorem byteOf_lt (n : Int) (k : Nat) : 0 ≤ byteOf n k ∧ byteOf n k < 256 := by unfold byteOf; omega
theorem txt_inj {a b : Nat} (ha : a < 65536) (hb : b < 65536) {p q : List Int} (h : txt (a : Int) p = txt (b : Int) q) : a = b ∧ p.length = q.length := by
 have h1 : num16 (a : Int) = num16 (b : Int) ∧ p.length = q.length := by
  unfold txt at h
  have hl := congrArg List.length h
  simp only [List.length_append, List.length_replicate, num16, List.length_map, List.length_range] at hl
  exact ⟨(List.append_inj h (by simp [num16])).1, by omega⟩
 refine ⟨?_, h1.2⟩
 have e := h1.1
 unfold num16 at e
 have e1 := (List.map_inj_left.1 e) 15 (by simp)
 have e2 := (List.map_inj_left.1 e) 14 (by simp)
 unfold byteOf at e1 e2
 simp only [Nat.sub_self, Int.pow_zero, Int.ediv_one] at e1
 simp only [show 15 - 14 = 1 from rfl, Int.pow_one] at e2
 omega
theorem fit_at {xs : List KK} (h : fitV (true, xs) = true) {i : Nat} (hi : i < xs.length) : (rd k0 xs (i : Int)).2.2.2 = txt ((i + 1 : Nat) : Int) (rd k0 xs (i : Int)).2.2.1 ∧ (rd k0 xs (i : Int)).2.2.1.length ≤ 65536 := by
 have := (fit_bad h).2 i hi
 unfold badK at this
 simp only [Bool.or_eq_false_iff, Bool.not_eq_false', decide_eq_true_eq, decide_eq_false_iff_not] at this
 exact ⟨by rw [this.1.2]; congr 1, by omega⟩
theorem txt_len (n : Int) (p : List Int) : (txt n p).length = p.length + 16 := by simp [txt, num16]; omega
theorem txt_B (n : Int) (p : List Int) : Bs (txt n p) := fun x hx => by
 unfold txt at hx
 rcases List.mem_append.1 hx with h | h
 ·obtain ⟨i, _, rfl⟩ := List.mem_map.1 h
  exact byteOf_lt _ _
 ·rw [(List.mem_replicate.1 h).2]; exact ⟨by decide, by decide⟩
theorem find_hit {xs : List KK} (h : fitV (true, xs) = true) {key : List Int} {ad : List (List Int)} {plain : List Int} {k : Nat} (hk : k < xs.length) (ha : alk (rd k0 xs (k : Int)) (key, ad, plain, []) = true) :
  (List.range xs.length).find? (fun j : Nat => hit key ad (rd k0 xs (k : Int)).2.2.2 (rd k0 xs (j : Int))) = some k := by
 have hl := (fit_bad h).1
 rw [List.find?_range_eq_some]
 unfold alk at ha
 simp only [Bool.and_eq_true, decide_eq_true_eq] at ha
 refine ⟨?_, List.mem_range.2 hk, fun j hj => ?_⟩
 ·unfold hit
  rw [dec_t rfl, dec_t ha.1.1, dec_t ha.2]; rfl
 ·unfold hit
  rw [dec_f]
  ·simp
  ·intro q
   rw [(fit_at h (show j < xs.length by omega)).1, (fit_at h hk).1] at q
   have := (txt_inj (by omega) (by omega) q).1
   omega
theorem openI_of {xs : List KK} (h : fitV (true, xs) = true) {key : List Int} {ad : List (List Int)} {plain : List Int} {k : Nat} (hk : k < xs.length) (ha : alk (rd k0 xs (k : Int)) (key, ad, plain, []) = true) (h0 : refE (key, ad, [], []) = 0) (hp : plain.length ≤ 65536) :
  openI xs key ad (rd k0 xs (k : Int)).2.2.2 = (plain, 0) := by
 have hf := find_hit h hk ha
 have ht := (fit_at h hk).1
 have hpl : (rd k0 xs (k : Int)).2.2.1 = plain := by
  unfold alk at ha
  simp only [Bool.and_eq_true, decide_eq_true_eq] at ha
  exact ha.1.2
 have hl : (rd k0 xs (k : Int)).2.2.2.length = plain.length + 16 := by rw [ht, txt_len, hpl]
 unfold openI
 rw [if_pos h0, if_neg (by omega), if_neg (by omega), hf]
 simp only [hpl]
end Go.AM
end
section
namespace Go.AM
def vB (v : VV) : Prop := ∀ k ∈ v.2, Bs k.2.2.1
def Ext (v w : VV) : Prop := v.1 = w.1 ∧ ∃ l, w.2 = v.2 ++ l
theorem Ext.rfl' (v : VV) : Ext v v := ⟨rfl, [], by simp⟩
theorem Ext.trans {u v w : VV} (a : Ext u v) (b : Ext v w) : Ext u w := by
 obtain ⟨l, hl⟩ := a.2; obtain ⟨m, hm⟩ := b.2
 exact ⟨a.1.trans b.1, l ++ m, by rw [hm, hl, List.append_assoc]⟩
theorem seal_no {v : VV} {key : List Int} {ad : List (List Int)} {s : List Int} (he : (sealV v key ad s).2.2 ≠ 0) : (sealV v key ad s).1 = v ∧ (sealV v key ad s).2.1 = [] := by
 obtain ⟨b, xs⟩ := v
 cases b with
 | false =>
  refine ⟨rfl, ?_⟩
  simp only [sealV, cond_false] at he ⊢
  unfold sealR at he ⊢
  by_cases h : sivE key ad = 0
  ·rw [if_pos h] at he ⊢
   by_cases h' : s.length > 65536
   ·rw [if_pos h']
   ·rw [if_neg h'] at he; exact absurd rfl he
  ·rw [if_neg h]
 | true =>
  simp only [sealV, cond_true] at he ⊢
  rcases sealI_cases xs key ad s with ⟨_, h, h'⟩ | ⟨_, _, _, _, h⟩ | ⟨_, _, _, h⟩
  ·rw [h, h']; exact ⟨rfl, rfl⟩
  ·rw [h] at he; exact absurd rfl he
  ·rw [h] at he; exact absurd rfl he
theorem seal_entry {xs : List KK} {key : List Int} {ad : List (List Int)} {s : List Int} (hf : fitV (true, xs) = true) (he : (sealI xs key ad s).2.2 = 0) :
  sealE key ad s.length = 0 ∧ ∃ k, k < (sealI xs key ad s).1.length ∧ rd k0 (sealI xs key ad s).1 (k : Int) = (key, ad, s, (sealI xs key ad s).2.1) := by
 rcases sealI_cases xs key ad s with ⟨h, _, _⟩ | ⟨h0, k, hk, ha, h⟩ | ⟨h0, h1, h2, h⟩
 ·exact absurd he h
 ·rw [h]
  refine ⟨h0, k, hk, ?_⟩
  unfold alk at ha
  simp only [Bool.and_eq_true, decide_eq_true_eq] at ha
  obtain ⟨⟨a1, a2⟩, a3⟩ := ha
  rw [← a1, ← a2, ← a3]
 ·rw [h]
  exact ⟨h0, xs.length, by simp, rd_last⟩
theorem alk_self (key : List Int) (ad : List (List Int)) (s t : List Int) : alk (key, ad, s, t) (key, ad, s, []) = true := by unfold alk; simp
theorem seal_yes {v : VV} {key : List Int} {ad : List (List Int)} {s : List Int} (hf : fitV v = true) (he : (sealV v key ad s).2.2 = 0) :
  refE (key, ad, [], []) = 0 ∧ s.length ≤ 65536 ∧ (sealV v key ad s).2.1.length = s.length + 16 ∧ Bs (sealV v key ad s).2.1 := by
 have hfw := fit_seal hf key ad s
 obtain ⟨b, xs⟩ := v
 cases b with
 | false =>
  simp only [sealV, cond_false] at he ⊢
  have h0 : sivE key ad = 0 ∧ s.length ≤ 65536 := by
   unfold sealR at he
   by_cases h : sivE key ad = 0
   ·rw [if_pos h] at he
    by_cases h' : s.length > 65536
    ·rw [if_pos h'] at he; exact absurd he (by decide)
    ·exact ⟨h, by omega⟩
   ·rw [if_neg h] at he; exact absurd he h
  have hr : sealR key ad s = (sealS key ad s, 0) := by unfold sealR; rw [if_pos h0.1, if_neg (by omega)]
  rw [hr]
  exact ⟨by rw [← refE_siv]; exact h0.1, h0.2, sealS_len _ _ _, sealS_B _ _ _⟩
 | true =>
  simp only [sealV, cond_true] at he hfw ⊢
  obtain ⟨h0, k, hk, e⟩ := seal_entry hf he
  obtain ⟨g1, g2⟩ := sealE_zero h0
  have ht := (fit_at hfw hk).1
  rw [e] at ht
  simp only at ht
  refine ⟨g1, g2, by rw [ht, txt_len], by rw [ht]; exact txt_B _ _⟩
theorem seal_open {v w : VV} {key : List Int} {ad : List (List Int)} {s : List Int} (hf : fitV v = true) (he : (sealV v key ad s).2.2 = 0) (hsb : Bs s) (x : Ext (sealV v key ad s).1 w) (hw : fitV w = true) :
  openV' w key ad (sealV v key ad s).2.1 = (s, 0) := by
 obtain ⟨g1, g2, _, _⟩ := seal_yes hf he
 obtain ⟨b, xs⟩ := v
 obtain ⟨b', ys⟩ := w
 obtain ⟨x1, l, x2⟩ := x
 cases b with
 | false =>
  simp only [sealV, cond_false] at he x1 x2 ⊢
  subst x1
  have h0 : sivE key ad = 0 := by rw [refE_siv]; exact g1
  have hr : sealR key ad s = (sealS key ad s, 0) := by unfold sealR; rw [if_pos h0, if_neg (by omega)]
  rw [hr]
  exact open_seal h0 g2 hsb
 | true =>
  simp only [sealV, cond_true] at he x1 x2 ⊢
  subst x1
  subst x2
  obtain ⟨h0, k, hk, e⟩ := seal_entry hf he
  have e' : rd k0 ((sealI xs key ad s).1 ++ l) (k : Int) = (key, ad, s, (sealI xs key ad s).2.1) := by rw [← e]; exact rd_app hk
  have := openI_of hw (k := k) (key := key) (ad := ad) (plain := s) (by simp; omega) (by rw [e']; exact alk_self _ _ _ _) g1 g2
  rw [e'] at this
  exact this
theorem open_entry {xs : List KK} {key : List Int} {ad : List (List Int)} {t : List Int} (h : (openI xs key ad t).2 = 0) :
  ∃ k, k < xs.length ∧ rd k0 xs (k : Int) = (key, ad, (openI xs key ad t).1, t) := by
 unfold openI at h ⊢
 by_cases h0 : refE (key, ad, [], []) = 0
 ·rw [if_pos h0] at h ⊢
  by_cases h1 : t.length < 16
  ·rw [if_pos h1] at h; exact absurd h (by decide)
  ·rw [if_neg h1] at h ⊢
   by_cases h2 : t.length > 65552
   ·rw [if_pos h2] at h; exact absurd h (by decide)
   ·rw [if_neg h2] at h ⊢
    cases hq : (List.range xs.length).find? (fun j : Nat => hit key ad t (rd k0 xs (j : Int))) with
    | none => rw [hq] at h; exact absurd h (show (17 : Int) ≠ 0 by decide)
    | some k =>
     have hh : hit key ad t (rd k0 xs (k : Int)) = true := by simpa using List.find?_some hq
     unfold hit at hh
     simp only [Bool.and_eq_true, decide_eq_true_eq] at hh
     obtain ⟨⟨a1, a2⟩, a3⟩ := hh
     refine ⟨k, List.mem_range.1 (List.mem_of_find?_eq_some hq), ?_⟩
     simp only
     rw [← a1, ← a2, ← a3]
 ·rw [if_neg h0] at h; exact absurd h h0
theorem open_yes {v : VV} {key : List Int} {ad : List (List Int)} {t : List Int} (hf : fitV v = true) (hb : vB v) (h : (openV' v key ad t).2 = 0) :
  refE (key, ad, [], []) = 0 ∧ (openV' v key ad t).1.length ≤ 65536 ∧ t.length = (openV' v key ad t).1.length + 16 ∧ Bs (openV' v key ad t).1 := by
 obtain ⟨b, xs⟩ := v
 cases b with
 | false =>
  simp only [openV', cond_false] at h ⊢
  unfold openR at h ⊢
  by_cases h0 : sivE key ad = 0
  ·rw [if_pos h0] at h ⊢
   by_cases h1 : t.length < 16
   ·rw [if_pos h1] at h; exact absurd h (by decide)
   ·rw [if_neg h1] at h ⊢
    by_cases h2 : t.length > 65552
    ·rw [if_pos h2] at h; exact absurd h (by decide)
    ·rw [if_neg h2] at h ⊢
     split at h
     ·rename_i q
      rw [if_pos q]
      have hl : (openS key t).length = t.length - 16 := by unfold openS; rw [strmS_len, List.length_drop]
      refine ⟨by rw [← refE_siv]; exact h0, by rw [hl]; omega, by rw [hl]; omega, ?_⟩
      unfold openS; exact strmS_B _ _ _
     ·exact absurd h (by decide)
  ·rw [if_neg h0] at h; exact absurd h h0
 | true =>
  simp only [openV', cond_true] at h ⊢
  obtain ⟨k, hk, e⟩ := open_entry h
  obtain ⟨f1, f2⟩ := fit_at hf hk
  rw [e] at f1 f2
  simp only at f1 f2
  refine ⟨?_, f2, (congrArg List.length f1).trans (txt_len _ _), ?_⟩
  ·unfold openI at h
   by_cases h0 : refE (key, ad, [], []) = 0
   ·exact h0
   ·rw [if_neg h0] at h; exact absurd h h0
  ·have := hb (rd k0 xs (k : Int)) (rd_mem (by omega) (by show (k : Int) < (xs.length : Int); omega))
   rw [e] at this
   exact this
end Go.AM
end
section
namespace Go.AM
abbrev RK := Int × List Int × Int
abbrev r0 : RK := (0, ([], 0))
abbrev RR := List RK × Int
abbrev CK := Int × List Int × List Int
def keySz (a : Int) : Int := if a = 15 then 32 else if a = 17 then 64 else 0
theorem keysz_eq (a : Int) : nego_KeySize.run .lim (a, ()) = some (keySz a) := by
 simp only [nego_KeySize.run]
 unfold keySz
 by_cases h : a = 15
 ·rw [dec_t h, if_pos h]; rfl
 ·rw [dec_f h, if_neg h]
  by_cases h2 : a = 17
  ·rw [dec_t h2, if_pos h2]; rfl
  ·rw [dec_f h2, if_neg h2]; rfl
theorem rkeysz_eq (a : Int) : pendulumref19_KeySize.run .lim (a, ()) = some (keySz a) := by
 simp only [pendulumref19_KeySize.run]
 unfold keySz
 by_cases h : a = 15
 ·rw [dec_t h, if_pos h]; rfl
 ·rw [dec_f h, if_neg h]
  by_cases h2 : a = 17
  ·rw [dec_t h2, if_pos h2]; rfl
  ·rw [dec_f h2, if_neg h2]; rfl
def fitK (k : CK) : Bool := decide (keySz k.1 > 0) && decide ((k.2.1.length : Int) = keySz k.1) && decide ((k.2.2.length : Int) = keySz k.1)
structure KOk (k : CK) : Prop where
 a : k.2.1.length < lim63
 b : k.2.2.length < lim63
theorem cfit_eq {k : CK} (h : KOk k) : cook_Fit.run .lim (k, ()) = some (fitK k) := by
 have h1 : k.2.1.length < 9223372036854775808 := h.a
 have h2 : k.2.2.length < 9223372036854775808 := h.b
 simp only [cook_Fit.run, keysz_eq, Option.bind_some, smallN h1, smallN h2, Bool.or_true, cond_true]
 rfl
theorem rcfit_eq {k : CK} (h : KOk k) : pendulumref25_Fit.run .lim (k, ()) = some (fitK k) := by
 have h1 : k.2.1.length < 9223372036854775808 := h.a
 have h2 : k.2.2.length < 9223372036854775808 := h.b
 simp only [pendulumref25_Fit.run, rkeysz_eq, Option.bind_some, smallN h1, smallN h2, Bool.or_true, cond_true]
 rfl
theorem fitK_spec {k : CK} (h : fitK k = true) : (k.1 = 15 ∧ k.2.1.length = 32 ∧ k.2.2.length = 32) ∨ (k.1 = 17 ∧ k.2.1.length = 64 ∧ k.2.2.length = 64) := by
 unfold fitK keySz at h
 simp only [Bool.and_eq_true, decide_eq_true_eq] at h
 by_cases h1 : k.1 = 15
 ·rw [if_pos h1] at h; omega
 ·rw [if_neg h1] at h
  by_cases h2 : k.1 = 17
  ·rw [if_pos h2] at h; omega
  ·rw [if_neg h2] at h; omega
def plainS (k : CK) : List Int := [0, k.1, 0, 0] ++ k.2.1 ++ k.2.2
theorem plainS_len {k : CK} : (plainS k).length = 4 + k.2.1.length + k.2.2.length := by simp [plainS]; omega
theorem cplain_eq {k : CK} (h : fitK k = true) : cook_plain.run .lim (k, ()) = some (plainS k) := by
 have hs := fitK_spec h
 simp only [cook_plain.run]
 have e1 : IntKind.u8.wrap (ishr .i64 k.1 8) = 0 := by rcases hs with ⟨q, _⟩ | ⟨q, _⟩ <;> rw [q] <;> decide
 have e2 : IntKind.u8.wrap k.1 = k.1 := by rcases hs with ⟨q, _⟩ | ⟨q, _⟩ <;> rw [q] <;> decide
 rw [e1, e2, cond_pos (dec_t (by unfold maxStr; simp; omega)), cond_pos (dec_t (by unfold maxStr; simp; omega))]
 rfl
theorem rcplain_eq {k : CK} (h : fitK k = true) : pendulumref25_plain.run .lim (k, ()) = some (plainS k) := by
 have hs := fitK_spec h
 simp only [pendulumref25_plain.run]
 have e1 : IntKind.u8.wrap (IntKind.i64.wrap (k.1.tdiv 256)) = 0 := by rcases hs with ⟨q, _⟩ | ⟨q, _⟩ <;> rw [q] <;> decide
 have e2 : IntKind.u8.wrap (k.1.tmod 256) = k.1 := by rcases hs with ⟨q, _⟩ | ⟨q, _⟩ <;> rw [q] <;> decide
 rw [e1, e2, cond_pos (dec_t (by unfold maxStr; simp; omega)), cond_pos (dec_t (by unfold maxStr; simp; omega))]
 rfl
def idS (id : Int) : List Int := [IntKind.u8.wrap (ishr .u32 id 24), IntKind.u8.wrap (ishr .u32 id 16), IntKind.u8.wrap (ishr .u32 id 8), IntKind.u8.wrap id]
theorem idS_B (id : Int) : Bs (idS id) := fun x h => by
 simp only [idS, List.mem_cons, List.not_mem_nil, or_false] at h
 rcases h with rfl | rfl | rfl | rfl <;> exact wrapu8_B _
structure ROk (r : RR) : Prop where
 len : 1 ≤ r.1.length ∧ r.1.length ≤ 8
 key : ∀ k ∈ r.1, k.2.1.length = 32
 kb : ∀ k ∈ r.1, Bs k.2.1
def lastK (r : RR) : RK := rd r0 r.1 ((r.1.length - 1 : Nat) : Int)
theorem lastK_mem {r : RR} (h : ROk r) : lastK r ∈ r.1 := rd_mem (by omega) (by have := h.len.1; omega)
noncomputable def mkS (v : VV) (m : RK) (k : CK) (nonce : List Int) : VV × List Int × Int :=
 if fitK k = true then (if nonce.length = 16 then (
   if (sealV v m.2.1 [idS m.1, nonce] (plainS k)).2.2 = 0 then ((sealV v m.2.1 [idS m.1, nonce] (plainS k)).1, (idS m.1 ++ nonce) ++ (sealV v m.2.1 [idS m.1, nonce] (plainS k)).2.1, 0)
   else (v, [], (sealV v m.2.1 [idS m.1, nonce] (plainS k)).2.2)) else (v, [], 10)) else (v, [], 13)
theorem ctxts {m : RK} (hk : m.2.1.length = 32) (hkb : Bs m.2.1) {k : CK} (hf : fitK k = true) {nonce : List Int} (hn : nonce.length = 16) : Txts m.2.1 [idS m.1, nonce] (plainS k) := by
 have := fitK_spec hf
 refine ⟨lim_of (by omega), hkb, (show (2 : Nat) < lim63 by decide), fun t ht => ?_, lim_of (by rw [plainS_len]; omega)⟩
 simp only [List.mem_cons, List.not_mem_nil, or_false] at ht
 rcases ht with rfl | rfl
 ·exact (by decide : 4 < lim63)
 ·exact lim_of (by omega)
theorem seal_len {v : VV} (hf : fitV v = true) (key : List Int) (ad : List (List Int)) (s : List Int) : (sealV v key ad s).2.1.length ≤ 65552 := by
 by_cases he : (sealV v key ad s).2.2 = 0
 ·have := seal_yes hf he; omega
 ·rw [(seal_no he).2]; exact Nat.zero_le _
theorem join_ok {id : Int} {nonce s : List Int} (hn : nonce.length = 16) (hs : s.length < 9223372036854775000) : decide ((idS id).length + nonce.length ≤ maxStr) = true ∧ decide ((idS id ++ nonce).length + s.length ≤ maxStr) = true := by
 have : (idS id).length = 4 := rfl
 exact ⟨dec_t (by rw [this]; unfold maxStr; omega), dec_t (by rw [List.length_append, this]; unfold maxStr; omega)⟩
end Go.AM
end
section
namespace Go.AM
theorem last_w {r : RR} (h : ROk r) : IntKind.i64.wrap ((r.1.length : Int) - 1) = ((r.1.length - 1 : Nat) : Int) := by have := h.len; rw [wrap64 (by omega) (by omega)]; omega
theorem make_eq {v : VV} {r : RR} {k : CK} {nonce : List Int} (hv : okV v) (hf : fitV v = true) (hr : ROk r) (hk : KOk k) (hn : nonce.length < lim63) :
  cook_Make.run .lim (v, r, k, nonce, ()) = some ((mkS v (lastK r) k nonce).1, (mkS v (lastK r) k nonce).2.1, (mkS v (lastK r) k nonce).2.2, ()) := by
 have hn63 : nonce.length < 9223372036854775808 := hn
 have hl := hr.len
 have hm := lastK_mem hr
 unfold mkS
 simp only [cook_Make.run, smallN (show r.1.length < 9223372036854775808 by omega), last_w hr, inB_t (show (0 : Int) ≤ ((r.1.length - 1 : Nat) : Int) by omega) (show ((r.1.length - 1 : Nat) : Int) < (r.1.length : Int) by omega), cond_true, cfit_eq hk, Option.bind_some, smallN hn63]
 show _ = _
 change (bif !fitK k then _ else _) = _
 by_cases h1 : fitK k = true
 ·rw [h1, if_pos rfl]
  simp only [Bool.not_true, cond_false]
  by_cases h2 : nonce.length = 16
  ·rw [dec_t (show (nonce.length : Int) = 16 by omega), if_pos h2]
   have T := ctxts (hr.key _ hm) (hr.kb _ hm) h1 h2
   have hs := seal_eq hv hf T
   have hsl : (sealV v (lastK r).2.1 [idS (lastK r).1, nonce] (plainS k)).2.1.length < 9223372036854775000 := by
    have := seal_len hf (lastK r).2.1 [idS (lastK r).1, nonce] (plainS k)
    omega
   obtain ⟨j1, j2⟩ := join_ok (id := (lastK r).1) h2 hsl
   unfold lastK idS at *
   simp only [Bool.not_true, cond_false, cplain_eq h1, Option.bind_some, hs, j1, j2, cond_true]
   by_cases h3 : (sealV v (rd r0 r.1 ((r.1.length - 1 : Nat) : Int)).2.1 [[IntKind.u8.wrap (ishr .u32 (rd r0 r.1 ((r.1.length - 1 : Nat) : Int)).1 24), IntKind.u8.wrap (ishr .u32 (rd r0 r.1 ((r.1.length - 1 : Nat) : Int)).1 16), IntKind.u8.wrap (ishr .u32 (rd r0 r.1 ((r.1.length - 1 : Nat) : Int)).1 8), IntKind.u8.wrap (rd r0 r.1 ((r.1.length - 1 : Nat) : Int)).1], nonce] (plainS k)).2.2 = 0
   ·rw [dec_t h3, if_pos h3]; rfl
   ·rw [dec_f h3, if_neg h3]; rfl
  ·rw [dec_f (show ¬ (nonce.length : Int) = 16 by omega), if_neg h2]; rfl
 ·have h1' : fitK k = false := by simpa using h1
  rw [h1', if_neg (by decide)]; rfl
end Go.AM
end
section
namespace Go.AM
theorem wrapu32 (n : Int) : IntKind.u32.wrap n = n % 4294967296 := by
 unfold IntKind.wrap; simp [IntKind.signed, IntKind.bits]
theorem or_nat {w x y : Nat} (hx : x < 2 ^ w) (hy : y < 2 ^ w) : (BitVec.ofInt w (x : Int) ||| BitVec.ofInt w (y : Int)).toNat = x ||| y := by
 rw [BitVec.toNat_or, BitVec.toNat_ofInt, BitVec.toNat_ofInt]
 have e : ∀ z : Nat, z < 2 ^ w → ((z : Int) % ((2 ^ w : Nat) : Int)).toNat = z := fun z hz => by
  rw [← Int.natCast_emod, Int.toNat_natCast, Nat.mod_eq_of_lt hz]
 rw [e x hx, e y hy]
theorem or_add {a b m : Nat} (h : b < 2 ^ m) : 2 ^ m * a ||| b = 2 ^ m * a + b := (Nat.two_pow_add_eq_or_of_lt h a).symm
theorem ior32 {a b : Nat} (m : Nat) (h : b < 2 ^ m) (hm : 2 ^ m * a + b < 4294967296) : ior .u32 ((2 ^ m * a : Nat) : Int) (b : Int) = ((2 ^ m * a + b : Nat) : Int) := by
 show IntKind.u32.wrap ((BitVec.ofInt 32 ((2 ^ m * a : Nat) : Int) ||| BitVec.ofInt 32 (b : Int)).toNat : Int) = _
 rw [or_nat (Nat.lt_of_le_of_lt (Nat.le_add_right _ _) hm) (Nat.lt_of_le_of_lt (Nat.le_add_left _ _) hm), or_add h, wrapu32]
 omega
theorem ior64 {a b : Nat} (m : Nat) (h : b < 2 ^ m) (hm : 2 ^ m * a + b < 9223372036854775808) : ior .i64 ((2 ^ m * a : Nat) : Int) (b : Int) = ((2 ^ m * a + b : Nat) : Int) := by
 show IntKind.i64.wrap ((BitVec.ofInt 64 ((2 ^ m * a : Nat) : Int) ||| BitVec.ofInt 64 (b : Int)).toNat : Int) = _
 have h1 : 2 ^ m * a < 2 ^ 64 := Nat.lt_of_le_of_lt (Nat.le_add_right _ b) (Nat.lt_of_lt_of_le hm (by decide))
 have h2 : b < 2 ^ 64 := Nat.lt_of_le_of_lt (Nat.le_add_left _ (2 ^ m * a)) (Nat.lt_of_lt_of_le hm (by decide))
 rw [or_nat h1 h2, or_add h, wrap64 (by omega) (by omega)]
theorem b8_nat {a : Int} (h : B8 a) : ∃ n : Nat, a = (n : Int) ∧ n < 256 := ⟨a.toNat, by have := h.1; omega, by have := h.1; have := h.2; omega⟩
theorem num2 {a b : Int} (ha : B8 a) (hb : B8 b) : ior .i64 (ishl .i64 (IntKind.i64.wrap a) 8) (IntKind.i64.wrap b) = a * 256 + b := by
 obtain ⟨x, rfl, hx⟩ := b8_nat ha
 obtain ⟨y, rfl, hy⟩ := b8_nat hb
 rw [wrap64 (by omega) (by omega), wrap64 (by omega) (by omega)]
 have e : ishl .i64 (x : Int) 8 = ((2 ^ 8 * x : Nat) : Int) := by
  show IntKind.i64.wrap ((x : Int) * 2 ^ 8) = _
  rw [wrap64 (by omega) (by omega)]; omega
 rw [e, ior64 8 (by omega) (by omega)]
 omega
theorem shl32 {x : Nat} (hx : x < 256) (m : Nat) (hm : m ≤ 24) : ishl .u32 (x : Int) (m : Int) = ((2 ^ m * x : Nat) : Int) := by
 show IntKind.u32.wrap ((x : Int) * 2 ^ min ((m : Int).toNat) 32) = _
 rw [Int.toNat_natCast, Nat.min_eq_left (by omega), wrapu32]
 have h1 : 2 ^ m ≤ 2 ^ 24 := Nat.pow_le_pow_right (by decide) hm
 have h2 : 2 ^ m * x < 4294967296 := Nat.lt_of_le_of_lt (Nat.mul_le_mul h1 (Nat.le_of_lt_succ (show x < 255 + 1 by omega))) (by decide)
 rw [show (x : Int) * 2 ^ m = ((2 ^ m * x : Nat) : Int) by rw [Nat.mul_comm]; simp]
 omega
theorem num4 {a b c d : Int} (ha : B8 a) (hb : B8 b) (hc : B8 c) (hd : B8 d) :
  ior .u32 (ior .u32 (ior .u32 (ishl .u32 (IntKind.u32.wrap a) 24) (ishl .u32 (IntKind.u32.wrap b) 16)) (ishl .u32 (IntKind.u32.wrap c) 8)) (IntKind.u32.wrap d) = ((a * 256 + b) * 256 + c) * 256 + d := by
 obtain ⟨x, rfl, hx⟩ := b8_nat ha
 obtain ⟨y, rfl, hy⟩ := b8_nat hb
 obtain ⟨z, rfl, hz⟩ := b8_nat hc
 obtain ⟨t, rfl, ht⟩ := b8_nat hd
 have w : ∀ n : Nat, n < 256 → IntKind.u32.wrap (n : Int) = (n : Int) := fun n hn => by rw [wrapu32]; omega
 rw [w x hx, w y hy, w z hz, w t ht, show (24 : Int) = ((24 : Nat) : Int) from rfl, show (16 : Int) = ((16 : Nat) : Int) from rfl, show (8 : Int) = ((8 : Nat) : Int) from rfl,
  shl32 hx 24 (by decide), shl32 hy 16 (by decide), shl32 hz 8 (by decide), ior32 24 (by omega) (by omega),
  show ((2 ^ 24 * x + 2 ^ 16 * y : Nat) : Int) = ((2 ^ 16 * (256 * x + y) : Nat) : Int) by omega, ior32 16 (by omega) (by omega),
  show ((2 ^ 16 * (256 * x + y) + 2 ^ 8 * z : Nat) : Int) = ((2 ^ 8 * ((256 * x + y) * 256 + z) : Nat) : Int) by omega, ior32 8 (by omega) (by omega)]
 omega
theorem shr_div (x : Int) (k m : Nat) (K : IntKind) (hm : m ≤ K.bits) : ishr K x (m : Int) = x / 2 ^ m := by
 show x.fdiv (2 ^ min ((m : Int).toNat) K.bits) = _
 rw [Int.toNat_natCast, Nat.min_eq_left hm, Int.fdiv_eq_ediv_of_nonneg _ (by exact Int.le_of_lt (Int.pow_pos (by decide)))]
end Go.AM
end
section
namespace Go.AM
theorem rmake_eq {v : VV} {r : RR} {k : CK} {nonce : List Int} (hv : okV v) (hf : fitV v = true) (hr : ROk r) (hk : KOk k) (hn : nonce.length < lim63) :
  pendulumref25_Make.run .lim (v, r, k, nonce, ()) = some ((mkS v (lastK r) k nonce).1, (mkS v (lastK r) k nonce).2.1, (mkS v (lastK r) k nonce).2.2, ()) := by
 have hn63 : nonce.length < 9223372036854775808 := hn
 have hl := hr.len
 have hm := lastK_mem hr
 unfold mkS
 simp only [pendulumref25_Make.run, smallN (show r.1.length < 9223372036854775808 by omega), last_w hr, inB_t (show (0 : Int) ≤ ((r.1.length - 1 : Nat) : Int) by omega) (show ((r.1.length - 1 : Nat) : Int) < (r.1.length : Int) by omega), cond_true, rcfit_eq hk, Option.bind_some, smallN hn63]
 by_cases h1 : fitK k = true
 ·rw [h1, if_pos rfl]
  simp only [Bool.not_true, cond_false]
  by_cases h2 : nonce.length = 16
  ·rw [dec_t (show (nonce.length : Int) = 16 by omega), if_pos h2]
   have T := ctxts (hr.key _ hm) (hr.kb _ hm) h1 h2
   have hs := rsealv_eq hv T
   have hsl : (sealV v (lastK r).2.1 [idS (lastK r).1, nonce] (plainS k)).2.1.length < 9223372036854775000 := by
    have := seal_len hf (lastK r).2.1 [idS (lastK r).1, nonce] (plainS k)
    omega
   obtain ⟨j1, j2⟩ := join_ok (id := (lastK r).1) h2 hsl
   unfold lastK idS at *
   simp only [Bool.not_true, cond_false, rcplain_eq h1, pendulumref25_number.run, Option.bind_some, hs, j1, j2, cond_true]
   by_cases h3 : (sealV v (rd r0 r.1 ((r.1.length - 1 : Nat) : Int)).2.1 [[IntKind.u8.wrap (ishr .u32 (rd r0 r.1 ((r.1.length - 1 : Nat) : Int)).1 24), IntKind.u8.wrap (ishr .u32 (rd r0 r.1 ((r.1.length - 1 : Nat) : Int)).1 16), IntKind.u8.wrap (ishr .u32 (rd r0 r.1 ((r.1.length - 1 : Nat) : Int)).1 8), IntKind.u8.wrap (rd r0 r.1 ((r.1.length - 1 : Nat) : Int)).1], nonce] (plainS k)).2.2 = 0
   ·rw [dec_t h3, if_pos h3]; rfl
   ·rw [dec_f h3, if_neg h3]; rfl
  ·rw [dec_f (show ¬ (nonce.length : Int) = 16 by omega), if_neg h2]; rfl
 ·have h1' : fitK k = false := by simpa using h1
  rw [h1', if_neg (by decide)]; rfl
def findS (xs : List RK) (id : Int) : Int := match (List.range xs.length).find? (fun j : Nat => decide ((rd r0 xs (j : Int)).1 = id)) with
 | some k => (k : Int)
 | none => -1
theorem rgf_eq {r : RR} (id : Int) (h : r.1.length < lim63) : ring_Find.run .lim (r, id, ()) = some (findS r.1 id) := by
 have h63 : r.1.length < 9223372036854775808 := h
 have e := loop_first (f := ring_Find.l0 .lim) (fun j => (r.1, (r.1.length : Int), (j : Int), id, ())) r.1.length (fun j => decide ((rd r0 r.1 (j : Int)).1 = id)) (fun j => some (.inl ((j : Int), ()))) (fun k hk => by
  rw [ring_Find.q0]
  simp only [ring_Find.b0, dec_t (show (k : Int) < (r.1.length : Int) by omega), inB_t (show (0 : Int) ≤ (k : Int) by omega) (show (k : Int) < (r.1.length : Int) by omega), cond_true, wk k (by omega)])
 rw [show ((0 : Nat) : Int) = 0 from rfl] at e
 simp only [ring_Find.run, smallN h63, cond_true, e]
 unfold findS
 cases hq : (List.range r.1.length).find? (fun j : Nat => decide ((rd r0 r.1 (j : Int)).1 = id)) with
 | some k => rfl
 | none =>
  simp only
  rw [ring_Find.q0]
  simp only [ring_Find.b0, dec_f (show ¬ (r.1.length : Int) < (r.1.length : Int) by omega), cond_false, Option.bind_some]
theorem findS_spec {xs : List RK} {id : Int} : (findS xs id = -1 ∧ ∀ k, k < xs.length → (rd r0 xs (k : Int)).1 ≠ id) ∨ ∃ k, k < xs.length ∧ findS xs id = (k : Int) ∧ (rd r0 xs (k : Int)).1 = id ∧ ∀ j, j < k → (rd r0 xs (j : Int)).1 ≠ id := by
 unfold findS
 cases hq : (List.range xs.length).find? (fun j : Nat => decide ((rd r0 xs (j : Int)).1 = id)) with
 | some k =>
  obtain ⟨h1, h2, h3⟩ := List.find?_range_eq_some.1 hq
  exact .inr ⟨k, List.mem_range.1 h2, rfl, by simpa using h1, fun j hj => by simpa using h3 j hj⟩
 | none =>
  refine .inl ⟨rfl, fun k hk => ?_⟩
  have := List.find?_eq_none.1 hq k (List.mem_range.2 hk)
  simpa using this
def numS (s : List Int) : Int := ((rd 0 s 0 * 256 + rd 0 s 1) * 256 + rd 0 s 2) * 256 + rd 0 s 3
theorem bs_rd {s : List Int} (h : Bs s) {i : Int} (h1 : 0 ≤ i) (h2 : i < s.length) : B8 (rd 0 s i) := h _ (rd_mem h1 h2)
def kOf (p : List Int) : CK := (rd 0 p 0 * 256 + rd 0 p 1, cut p 4 ((2 + p.length / 2 : Nat) : Int), cut p ((2 + p.length / 2 : Nat) : Int) (p.length : Int))
def keysS (p : List Int) : CK × Int := if 4 ≤ p.length ∧ fitK (kOf p) = true ∧ plainS (kOf p) = p then (kOf p, 0) else ((0, ([], [])), 10)
noncomputable def openC (v : VV) (r : RR) (s : List Int) : CK × Int :=
 if s.length < 20 then ((0, ([], [])), 11) else
 if findS r.1 (numS s) < 0 then ((0, ([], [])), 19) else
 if (openV' v (rd r0 r.1 (findS r.1 (numS s))).2.1 [cut s 0 4, cut s 4 20] (cut s 20 (s.length : Int))).2 = 0 then
  keysS (openV' v (rd r0 r.1 (findS r.1 (numS s))).2.1 [cut s 0 4, cut s 4 20] (cut s 20 (s.length : Int))).1
 else ((0, ([], [])), (openV' v (rd r0 r.1 (findS r.1 (numS s))).2.1 [cut s 0 4, cut s 4 20] (cut s 20 (s.length : Int))).2)
theorem cutN_len {α : Type} {s : List α} {a b : Nat} (h1 : a ≤ b) (h2 : b ≤ s.length) : (cut s (a : Int) (b : Int)).length = b - a := by
 unfold cut; simp; omega
theorem cut_bs {s : List Int} (h : Bs s) (a b : Int) : Bs (cut s a b) := fun x hx => by
 unfold cut at hx
 exact h x (List.mem_of_mem_take (List.mem_of_mem_drop hx))
theorem okK_of {p : List Int} (h : p.length < lim63) (h4 : 4 ≤ p.length) : KOk (kOf p) := by
 have h' : p.length < 9223372036854775808 := h
 unfold kOf
 refine ⟨?_, ?_⟩
 ·show (cut p ((4 : Nat) : Int) ((2 + p.length / 2 : Nat) : Int)).length < lim63
  rw [cutN_len (by omega) (by omega)]; exact lim_of (by omega)
 ·show (cut p ((2 + p.length / 2 : Nat) : Int) (p.length : Int)).length < lim63
  rw [cutN_len (by omega) (by omega)]; exact lim_of (by omega)
theorem copen_eq {v : VV} {r : RR} {s : List Int} (hv : okV v) (hf : fitV v = true) (hb : vB v) (hr : ROk r) (hs : s.length < lim63) (hsb : Bs s) :
  cook_Open.run .lim (v, r, s, ()) = some ((openC v r s).1, (openC v r s).2, ()) := by
 have hs63 : s.length < 9223372036854775808 := hs
 have hl := hr.len
 unfold openC
 simp only [cook_Open.run, smallN hs63, cond_true]
 by_cases h1 : s.length < 20
 ·rw [dec_t (show (s.length : Int) < 20 by omega), if_pos h1]; rfl
 ·rw [dec_f (show ¬ (s.length : Int) < 20 by omega), if_neg h1]
  have hi : ∀ i : Int, 0 ≤ i → i < 4 → B8 (rd 0 s i) := fun i a b => bs_rd hsb a (by omega)
  have hn : ior .u32 (ior .u32 (ior .u32 (ishl .u32 (IntKind.u32.wrap (rd 0 s 0)) 24) (ishl .u32 (IntKind.u32.wrap (rd 0 s 1)) 16)) (ishl .u32 (IntKind.u32.wrap (rd 0 s 2)) 8)) (IntKind.u32.wrap (rd 0 s 3)) = numS s :=
   num4 (hi 0 (by omega) (by omega)) (hi 1 (by omega) (by omega)) (hi 2 (by omega) (by omega)) (hi 3 (by omega) (by omega))
  simp only [cond_false, inB_t (show (0 : Int) ≤ 0 by omega) (show (0 : Int) < (s.length : Int) by omega), inB_t (show (0 : Int) ≤ 1 by omega) (show (1 : Int) < (s.length : Int) by omega), inB_t (show (0 : Int) ≤ 2 by omega) (show (2 : Int) < (s.length : Int) by omega), inB_t (show (0 : Int) ≤ 3 by omega) (show (3 : Int) < (s.length : Int) by omega), cond_true, hn, rgf_eq (numS s) (show r.1.length < lim63 from lim_of (by omega)), Option.bind_some]
  rcases findS_spec (xs := r.1) (id := numS s) with ⟨e, _⟩ | ⟨k, hk, e, _, _⟩
  ·rw [e, dec_t (show (-1 : Int) < 0 by decide), if_pos (show (-1 : Int) < 0 by decide)]; rfl
  ·rw [e, dec_f (show ¬ (k : Int) < 0 by omega), if_neg (show ¬ (k : Int) < 0 by omega)]
   have hm : rd r0 r.1 (k : Int) ∈ r.1 := rd_mem (by omega) (by omega)
   have T : Txts (rd r0 r.1 (k : Int)).2.1 [cut s 0 4, cut s 4 20] (cut s 20 (s.length : Int)) := by
    have c1 : (cut s 0 4).length = 4 := cutN_len (a := 0) (b := 4) (by omega) (by omega)
    have c2 : (cut s 4 20).length = 16 := cutN_len (a := 4) (b := 20) (by omega) (by omega)
    have c3 : (cut s 20 (s.length : Int)).length = s.length - 20 := cutN_len (a := 20) (b := s.length) (by omega) (by omega)
    refine ⟨lim_of (by rw [hr.key _ hm]; omega), hr.kb _ hm, (show (2 : Nat) < lim63 by decide), fun t ht => ?_, lim_of (by omega)⟩
    simp only [List.mem_cons, List.not_mem_nil, or_false] at ht
    rcases ht with rfl | rfl
    ·exact lim_of (by omega)
    ·exact lim_of (by omega)
   simp only [cond_false, inB_t (show (0 : Int) ≤ (k : Int) by omega) (show (k : Int) < (r.1.length : Int) by omega), cutB_t (show (0 : Int) ≤ 0 by omega) (show (0 : Int) ≤ 4 by omega) (show (4 : Int) ≤ (s.length : Int) by omega),
    cutB_t (show (0 : Int) ≤ 4 by omega) (show (4 : Int) ≤ 20 by omega) (show (20 : Int) ≤ (s.length : Int) by omega), cutB_t (show (0 : Int) ≤ 20 by omega) (show (20 : Int) ≤ (s.length : Int) by omega) (show (s.length : Int) ≤ (s.length : Int) by omega), cond_true, openv_eq hv T (cut_bs hsb _ _), Option.bind_some]
   by_cases h0 : (openV' v (rd r0 r.1 (k : Int)).2.1 [cut s 0 4, cut s 4 20] (cut s 20 (s.length : Int))).2 = 0
   ·obtain ⟨_, y2, _, y4⟩ := open_yes hf hb h0
    rw [dec_t h0, if_pos h0]
    generalize (openV' v (rd r0 r.1 (k : Int)).2.1 [cut s 0 4, cut s 4 20] (cut s 20 (s.length : Int))).1 = p at y2 y4 ⊢
    unfold keysS
    simp only [Bool.not_true, cond_false, smallN (show p.length < 9223372036854775808 by omega), cond_true]
    by_cases h4 : p.length < 4
    ·rw [dec_t (show (p.length : Int) < 4 by omega), if_neg (by omega)]; rfl
    ·have hm2 : IntKind.i64.wrap (2 + IntKind.i64.wrap ((p.length : Int).tdiv 2)) = ((2 + p.length / 2 : Nat) : Int) := by
      rw [Int.tdiv_eq_ediv_of_nonneg (by omega), wrap64 (n := (p.length : Int) / 2) (by omega) (by omega), wrap64 (by omega) (by omega)]; omega
     have hn2 := num2 (bs_rd y4 (show (0 : Int) ≤ 0 by omega) (show (0 : Int) < (p.length : Int) by omega)) (bs_rd y4 (show (0 : Int) ≤ 1 by omega) (show (1 : Int) < (p.length : Int) by omega))
     have hko := okK_of (p := p) (lim_of (by omega)) (by omega)
     rw [dec_f (show ¬ (p.length : Int) < 4 by omega)]
     simp only [cond_false, inB_t (show (0 : Int) ≤ 0 by omega) (show (0 : Int) < (p.length : Int) by omega), inB_t (show (0 : Int) ≤ 1 by omega) (show (1 : Int) < (p.length : Int) by omega), cond_true, hm2, hn2,
      cutB_t (show (0 : Int) ≤ 4 by omega) (show (4 : Int) ≤ ((2 + p.length / 2 : Nat) : Int) by omega) (show ((2 + p.length / 2 : Nat) : Int) ≤ (p.length : Int) by omega),
      cutB_t (show (0 : Int) ≤ ((2 + p.length / 2 : Nat) : Int) by omega) (show ((2 + p.length / 2 : Nat) : Int) ≤ (p.length : Int) by omega) (show (p.length : Int) ≤ (p.length : Int) by omega)]
     change (cook_Fit.run .lim (kOf p, ())).bind _ = _
     rw [cfit_eq hko, Option.bind_some]
     by_cases hq : fitK (kOf p) = true
     ·have hpl := cplain_eq hq
      unfold kOf at hq hpl ⊢
      rw [hq]
      simp only [Bool.not_true, Bool.not_false, cond_true, hpl, Option.bind_some, Bool.false_or]
      by_cases hw : plainS (rd 0 p 0 * 256 + rd 0 p 1, cut p 4 ((2 + p.length / 2 : Nat) : Int), cut p ((2 + p.length / 2 : Nat) : Int) (p.length : Int)) = p
      ·rw [dec_t hw, if_pos ⟨by omega, by first | rfl | trivial, hw⟩]; rfl
      ·rw [dec_f hw, if_neg (fun z => hw z.2.2)]; rfl
     ·have hq' : fitK (kOf p) = false := by simpa using hq
      rw [if_neg (fun z => hq z.2.1)]
      rw [hq']
      rfl
   ·rw [dec_f h0, if_neg h0]; rfl
end Go.AM
end
section
namespace Go.AM
def badR (r : RR) (i : Nat) : Bool :=
 ((!decide ((rd r0 r.1 (i : Int)).2.1.length = 32)) || (!decide ((rd r0 r.1 (i : Int)).1 = (r.2 - ((r.1.length - i : Nat) : Int)) % 4294967296))) || (decide (0 < i) && decide ((rd r0 r.1 (i : Int)).2.2 < (rd r0 r.1 ((i - 1 : Nat) : Int)).2.2))
def fitR (r : RR) : Bool := decide (1 ≤ r.1.length ∧ r.1.length ≤ 8) && !((List.range r.1.length).any (badR r))
theorem fitr_eq {r : RR} (hl : r.1.length < lim63) (hk : ∀ k ∈ r.1, k.2.1.length < lim63) : pendulumref24_Fit.run .lim (r, ()) = some (fitR r) := by
 have hl63 : r.1.length < 9223372036854775808 := hl
 simp only [pendulumref24_Fit.run, smallN hl63, cond_true]
 unfold fitR
 by_cases h : 1 ≤ r.1.length ∧ r.1.length ≤ 8
 ·have hn : (decide ((r.1.length : Int) < 1) || decide ((r.1.length : Int) > 8)) = false := by
   rw [dec_f (show ¬ (r.1.length : Int) < 1 by omega), dec_f (show ¬ (r.1.length : Int) > 8 by omega)]; rfl
  have e := loop_any (f := pendulumref24_Fit.l0 .lim) (fun j => ((r.1.length : Int), (j : Int), r.1, r.2, ())) r.1.length (badR r) (some (.inl (false, ()))) (fun k hk' => by
   have hkl := hk _ (rd_mem (d := r0) (xs := r.1) (i := (k : Int)) (by omega) (by omega))
   have hkl63 : (rd r0 r.1 (k : Int)).2.1.length < 9223372036854775808 := hkl
   rw [pendulumref24_Fit.q0]
   have hw : IntKind.u32.wrap (r.2 - IntKind.u32.wrap (IntKind.i64.wrap ((r.1.length : Int) - (k : Int)))) = (r.2 - ((r.1.length - k : Nat) : Int)) % 4294967296 := by
    rw [wrap64 (by omega) (by omega), wrapu32, wrapu32]; omega
   have hd : decide (((rd r0 r.1 (k : Int)).2.1.length : Int) = 32) = decide ((rd r0 r.1 (k : Int)).2.1.length = 32) := by
    by_cases q : (rd r0 r.1 (k : Int)).2.1.length = 32
    ·rw [dec_t q, dec_t (by omega)]
    ·rw [dec_f q, dec_f (by omega)]
   simp only [pendulumref24_Fit.b0, dec_t (show (k : Int) < (r.1.length : Int) by omega), inB_t (show (0 : Int) ≤ (k : Int) by omega) (show (k : Int) < (r.1.length : Int) by omega), cond_true, smallN hkl63, hw, hd, wk k (by omega)]
   unfold badR
   by_cases h0 : 0 < k
   ·have w1 : IntKind.i64.wrap ((k : Int) - 1) = ((k - 1 : Nat) : Int) := by rw [wrap64 (by omega) (by omega)]; omega
    rw [w1, inB_t (show (0 : Int) ≤ ((k - 1 : Nat) : Int) by omega) (show ((k - 1 : Nat) : Int) < (r.1.length : Int) by omega), dec_t h0, dec_t (show (k : Int) > 0 by omega)]
    simp only [Bool.or_true, cond_true, Bool.true_and]
   ·rw [dec_f h0, dec_f (show ¬ (k : Int) > 0 by omega)]
    simp only [Bool.and_false, Bool.not_false, Bool.true_or, cond_true, Bool.false_and, Bool.or_false])
  rw [show ((0 : Nat) : Int) = 0 from rfl] at e
  rw [hn, dec_t h]
  simp only [cond_false, Bool.true_and, e]
  cases hb : (List.range r.1.length).any (badR r) with
  | true => rfl
  | false =>
   simp only [cond_false]
   rw [pendulumref24_Fit.q0]
   simp only [pendulumref24_Fit.b0, dec_f (show ¬ (r.1.length : Int) < (r.1.length : Int) by omega), cond_false, Option.bind_some, Bool.not_false]
 ·have hn : (decide ((r.1.length : Int) < 1) || decide ((r.1.length : Int) > 8)) = true := by
   by_cases q : r.1.length < 1
   ·rw [dec_t (show (r.1.length : Int) < 1 by omega)]; rfl
   ·rw [dec_t (show (r.1.length : Int) > 8 by omega), Bool.or_true]
  rw [hn, dec_f h]; rfl
theorem fitR_spec {r : RR} (h : fitR r = true) : (1 ≤ r.1.length ∧ r.1.length ≤ 8) ∧ ∀ i, i < r.1.length → (rd r0 r.1 (i : Int)).2.1.length = 32 ∧ (rd r0 r.1 (i : Int)).1 = (r.2 - ((r.1.length - i : Nat) : Int)) % 4294967296 ∧ (0 < i → (rd r0 r.1 ((i - 1 : Nat) : Int)).2.2 ≤ (rd r0 r.1 (i : Int)).2.2) := by
 unfold fitR at h
 simp only [Bool.and_eq_true, decide_eq_true_eq, Bool.not_eq_true', List.any_eq_false, List.mem_range] at h
 refine ⟨h.1, fun i hi => ?_⟩
 have := h.2 i hi
 unfold badR at this
 simp only [Bool.or_eq_true, Bool.not_eq_true', decide_eq_false_iff_not, Bool.and_eq_true, decide_eq_true_eq, not_or, not_and, Decidable.not_not] at this
 exact ⟨this.1.1, this.1.2, fun h0 => by have := this.2 h0; omega⟩
structure RB (r : RR) : Prop where
 l : r.1.length < lim63
 k : ∀ k ∈ r.1, k.2.1.length < lim63 ∧ Bs k.2.1
theorem rOk_of {r : RR} (h : fitR r = true) (b : RB r) : ROk r := by
 obtain ⟨h1, h2⟩ := fitR_spec h
 refine ⟨h1, fun k hk => ?_, fun k hk => (b.k k hk).2⟩
 obtain ⟨i, hi, e⟩ := List.getElem_of_mem hk
 have := (h2 i hi).1
 rw [rd_ix hi, e] at this
 exact this
theorem good_eq {v : VV} {r : RR} (hv : okV v) (b : RB r) : ∃ l, pendulumref22_Light.run .lim (v, ()) = some l ∧ pendulumlaw25_good.run .lim (v, r, ()) = some ((l && fitV v) && fitR r) := by
 obtain ⟨l, e⟩ := light_some v hv
 refine ⟨l, e, ?_⟩
 simp only [pendulumlaw25_good.run, e, Option.bind_some, rfit_eq v hv, fitr_eq b.l (fun k hk => (b.k k hk).1)]
 cases l <;> cases fitV v <;> rfl
end Go.AM
end
section
namespace Go.AM
theorem numS_id {id : Int} (h0 : 0 ≤ id) (h1 : id < 4294967296) (s : List Int) : numS (idS id ++ s) = id := by
 have e : ∀ m : Nat, m ≤ 32 → ishr .u32 id (m : Int) = id / 2 ^ m := fun m hm => shr_div id 0 m .u32 hm
 unfold numS
 have r : ∀ i : Nat, i < 4 → rd 0 (idS id ++ s) (i : Int) = rd 0 (idS id) (i : Int) := fun i hi => rd_app (by exact hi)
 rw [show (0 : Int) = ((0 : Nat) : Int) from rfl, show (1 : Int) = ((1 : Nat) : Int) from rfl, show (2 : Int) = ((2 : Nat) : Int) from rfl, show (3 : Int) = ((3 : Nat) : Int) from rfl,
  show rd ((0 : Nat) : Int) (idS id ++ s) ((0 : Nat) : Int) = _ from r 0 (by omega), show rd ((0 : Nat) : Int) (idS id ++ s) ((1 : Nat) : Int) = _ from r 1 (by omega), show rd ((0 : Nat) : Int) (idS id ++ s) ((2 : Nat) : Int) = _ from r 2 (by omega), show rd ((0 : Nat) : Int) (idS id ++ s) ((3 : Nat) : Int) = _ from r 3 (by omega)]
 show ((IntKind.u8.wrap (ishr .u32 id ((24 : Nat) : Int)) * 256 + IntKind.u8.wrap (ishr .u32 id ((16 : Nat) : Int))) * 256 + IntKind.u8.wrap (ishr .u32 id ((8 : Nat) : Int))) * 256 + IntKind.u8.wrap id = id
 rw [e 24 (by omega), e 16 (by omega), e 8 (by omega), wrapu8, wrapu8, wrapu8, wrapu8]
 omega
theorem cut3 {a b c : List Int} (ha : a.length = 4) (hb : b.length = 16) :
  cut ((a ++ b) ++ c) 0 4 = a ∧ cut ((a ++ b) ++ c) 4 20 = b ∧ cut ((a ++ b) ++ c) 20 ((((a ++ b) ++ c).length : Nat) : Int) = c := by
 unfold cut
 refine ⟨?_, ?_, ?_⟩
 ·show (((a ++ b) ++ c).take 4).drop 0 = a
  rw [List.drop_zero, List.append_assoc, List.take_append_of_le_length (by omega), List.take_of_length_le (by omega)]
 ·show (((a ++ b) ++ c).take 20).drop 4 = b
  rw [List.take_append_of_le_length (by simp; omega), List.take_of_length_le (by simp; omega), List.drop_append_of_le_length (by omega), List.drop_of_length_le (by omega), List.nil_append]
 ·rw [Int.toNat_natCast, List.take_of_length_le (Nat.le_refl _)]
  show ((a ++ b) ++ c).drop 20 = c
  rw [List.drop_append_of_le_length (by simp; omega), List.drop_of_length_le (by simp; omega), List.nil_append]
structure KB (k : CK) : Prop where
 a : Bs k.2.1
 b : Bs k.2.2
theorem plainS_B {k : CK} (hf : fitK k = true) (b : KB k) : Bs (plainS k) := fun x h => by
 have hs := fitK_spec hf
 unfold plainS at h
 rcases List.mem_append.1 h with h | h
 ·rcases List.mem_append.1 h with h | h
  ·simp only [List.mem_cons, List.not_mem_nil, or_false] at h
   rcases h with rfl | rfl | rfl | rfl
   ·exact ⟨by decide, by decide⟩
   ·rcases hs with ⟨q, _⟩ | ⟨q, _⟩ <;> rw [q] <;> exact ⟨by decide, by decide⟩
   ·exact ⟨by decide, by decide⟩
   ·exact ⟨by decide, by decide⟩
  ·exact b.a x h
 ·exact b.b x h
theorem kOf_plain {k : CK} (hf : fitK k = true) : kOf (plainS k) = k := by
 have hs := fitK_spec hf
 obtain ⟨a, x, y⟩ := k
 have hxy : x.length = y.length := by rcases hs with ⟨_, p, q⟩ | ⟨_, p, q⟩ <;> exact p.trans q.symm
 have hl : (plainS (a, x, y)).length = 4 + x.length + x.length := by rw [plainS_len]; simp only; omega
 unfold kOf
 rw [hl, show 2 + (4 + x.length + x.length) / 2 = 4 + x.length by omega]
 refine Prod.ext ?_ (Prod.ext ?_ ?_)
 ·show (0 : Int) * 256 + a = a
  omega
 ·show ((([0, a, 0, 0] ++ x) ++ y).take (((4 + x.length : Nat) : Int)).toNat).drop 4 = x
  rw [Int.toNat_natCast, List.take_append_of_le_length (by simp; omega), List.take_of_length_le (by simp; omega)]
  rfl
 ·show ((([0, a, 0, 0] ++ x) ++ y).take (((4 + x.length + x.length : Nat) : Int)).toNat).drop (((4 + x.length : Nat) : Int)).toNat = y
  rw [Int.toNat_natCast, Int.toNat_natCast, List.take_of_length_le (by simp; omega), List.drop_append_of_le_length (by simp; omega), List.drop_of_length_le (by simp; omega), List.nil_append]
theorem keysS_plain {k : CK} (hf : fitK k = true) : keysS (plainS k) = (k, 0) := by
 unfold keysS
 rw [kOf_plain hf, if_pos ⟨by rw [plainS_len]; omega, hf, rfl⟩]
theorem mkS_zero {v : VV} {m : RK} {k : CK} {nonce : List Int} (h : (mkS v m k nonce).2.2 = 0) :
  fitK k = true ∧ nonce.length = 16 ∧ (sealV v m.2.1 [idS m.1, nonce] (plainS k)).2.2 = 0 ∧ mkS v m k nonce = ((sealV v m.2.1 [idS m.1, nonce] (plainS k)).1, (idS m.1 ++ nonce) ++ (sealV v m.2.1 [idS m.1, nonce] (plainS k)).2.1, 0) := by
 unfold mkS at h ⊢
 by_cases h1 : fitK k = true
 ·rw [if_pos h1] at h ⊢
  by_cases h2 : nonce.length = 16
  ·rw [if_pos h2] at h ⊢
   by_cases h3 : (sealV v m.2.1 [idS m.1, nonce] (plainS k)).2.2 = 0
   ·rw [if_pos h3]; exact ⟨h1, h2, h3, rfl⟩
   ·rw [if_neg h3] at h; exact absurd h h3
  ·rw [if_neg h2] at h; exact absurd h (show (10 : Int) ≠ 0 by decide)
 ·rw [if_neg h1] at h; exact absurd h (show (13 : Int) ≠ 0 by decide)
theorem mkS_no {v : VV} {m : RK} {k : CK} {nonce : List Int} (h : (mkS v m k nonce).2.2 ≠ 0) : (mkS v m k nonce).1 = v ∧ (mkS v m k nonce).2.1 = [] := by
 unfold mkS at h ⊢
 by_cases h1 : fitK k = true
 ·rw [if_pos h1] at h ⊢
  by_cases h2 : nonce.length = 16
  ·rw [if_pos h2] at h ⊢
   by_cases h3 : (sealV v m.2.1 [idS m.1, nonce] (plainS k)).2.2 = 0
   ·rw [if_pos h3] at h; exact absurd rfl h
   ·rw [if_neg h3]; exact ⟨rfl, rfl⟩
  ·rw [if_neg h2]; exact ⟨rfl, rfl⟩
 ·rw [if_neg h1]; exact ⟨rfl, rfl⟩
theorem mkS_len {v : VV} {m : RK} {k : CK} {nonce : List Int} (hf : fitV v = true) (h : (mkS v m k nonce).2.2 = 0) : (mkS v m k nonce).2.1.length = 40 + k.2.1.length + k.2.2.length := by
 obtain ⟨h1, h2, h3, e⟩ := mkS_zero h
 rw [e]
 have := (seal_yes hf h3).2.2.1
 simp only [List.length_append, this, plainS_len, h2]
 have : (idS m.1).length = 4 := rfl
 omega
theorem openC_made {v w : VV} {m : RK} {k : CK} {nonce : List Int} {r : RR} {i : Nat} (hf : fitV v = true) (h : (mkS v m k nonce).2.2 = 0) (kb : KB k) (h0 : 0 ≤ m.1) (h1 : m.1 < 4294967296)
  (x : Ext (mkS v m k nonce).1 w) (hw : fitV w = true) (hi : findS r.1 m.1 = (i : Int)) (hm : (rd r0 r.1 (i : Int)).2.1 = m.2.1) : openC w r (mkS v m k nonce).2.1 = (k, 0) := by
 have hl := mkS_len hf h
 obtain ⟨g1, g2, g3, e⟩ := mkS_zero h
 rw [e] at x hl ⊢
 simp only at x hl ⊢
 have hso := seal_open hf g3 (plainS_B g1 kb) x hw
 generalize (sealV v m.2.1 [idS m.1, nonce] (plainS k)).2.1 = t at hl hso ⊢
 obtain ⟨c1, c2, c3⟩ := cut3 (a := idS m.1) (b := nonce) (c := t) rfl g2
 have hn : numS ((idS m.1 ++ nonce) ++ t) = m.1 := by rw [List.append_assoc]; exact numS_id h0 h1 _
 unfold openC
 rw [if_neg (by omega), hn, hi, if_neg (by omega), hm, c1, c2, c3, hso, if_pos rfl]
 exact keysS_plain g1
end Go.AM
end
section
set_option maxRecDepth 100000
namespace Go.AM
abbrev awA_k : List Int := [107, 107, 107, 107, 107, 107, 107, 107, 107, 107, 107, 107, 107, 107, 107, 107]
theorem awA_l0 : encS awA_k z16 = [149, 35, 162, 94, 91, 120, 42, 85, 225, 107, 199, 167, 192, 89, 27, 127] := by decide +kernel
theorem awA_k1 : k1S awA_k = [42, 71, 68, 188, 182, 240, 84, 171, 194, 215, 143, 79, 128, 178, 54, 121] := (congrArg twS awA_l0).trans (by decide +kernel)
abbrev awA_c0s : List Int := [0, 0, 0, 0, 0, 0, 0, 0, 0, 0, 0, 0, 0, 0, 0, 0]
theorem awA_c0_0 : cmN awA_k awA_c0s 0 = [0, 0, 0, 0, 0, 0, 0, 0, 0, 0, 0, 0, 0, 0, 0, 0] := rfl
theorem awA_c0_l : lastS awA_k (awA_c0s.drop (16 * 0)) = [42, 71, 68, 188, 182, 240, 84, 171, 194, 215, 143, 79, 128, 178, 54, 121] := by unfold lastS; rw [if_pos (by decide), awA_k1]; decide +kernel
theorem awA_c0 : cmS awA_k awA_c0s = [138, 17, 135, 69, 125, 68, 78, 155, 36, 236, 23, 96, 235, 236, 220, 208] := by
 have e : cmS awA_k awA_c0s = encS awA_k (xorL (cmN awA_k awA_c0s 0) (lastS awA_k (awA_c0s.drop (16 * 0)))) := rfl
 rw [e, awA_c0_0, awA_c0_l, show xorL [0, 0, 0, 0, 0, 0, 0, 0, 0, 0, 0, 0, 0, 0, 0, 0] [42, 71, 68, 188, 182, 240, 84, 171, 194, 215, 143, 79, 128, 178, 54, 121] = [42, 71, 68, 188, 182, 240, 84, 171, 194, 215, 143, 79, 128, 178, 54, 121] by decide +kernel]; decide +kernel
abbrev awA_t : List (List Int) := [[0, 0, 0, 1], [110, 110, 110, 110, 110, 110, 110, 110, 110, 110, 110, 110, 110, 110, 110, 110], [0, 15, 0, 0, 107, 107, 107, 107, 107, 107, 107, 107, 107, 107, 107, 107, 107, 107, 107, 107, 107, 107, 107, 107, 107, 107, 107, 107, 107, 107, 107, 107, 107, 107, 107, 107, 107, 107, 107, 107, 107, 107, 107, 107, 107, 107, 107, 107, 107, 107, 107, 107, 107, 107, 107, 107, 107, 107, 107, 107, 107, 107, 107, 107, 107, 107, 107, 107]]
theorem awA_d0 : s2N awA_k awA_t 0 = [138, 17, 135, 69, 125, 68, 78, 155, 36, 236, 23, 96, 235, 236, 220, 208] := awA_c0
abbrev awA_c1s : List Int := [0, 0, 0, 1]
theorem awA_c1_0 : cmN awA_k awA_c1s 0 = [0, 0, 0, 0, 0, 0, 0, 0, 0, 0, 0, 0, 0, 0, 0, 0] := rfl
theorem awA_c1_l : lastS awA_k (awA_c1s.drop (16 * 0)) = [84, 142, 137, 120, 237, 224, 169, 87, 133, 175, 30, 159, 1, 100, 108, 242] := by unfold lastS; rw [if_neg (by decide), awA_k1]; decide +kernel
theorem awA_c1 : cmS awA_k awA_c1s = [138, 195, 108, 129, 163, 29, 209, 70, 191, 139, 122, 235, 137, 230, 129, 187] := by
 have e : cmS awA_k awA_c1s = encS awA_k (xorL (cmN awA_k awA_c1s 0) (lastS awA_k (awA_c1s.drop (16 * 0)))) := rfl
 rw [e, awA_c1_0, awA_c1_l, show xorL [0, 0, 0, 0, 0, 0, 0, 0, 0, 0, 0, 0, 0, 0, 0, 0] [84, 142, 137, 120, 237, 224, 169, 87, 133, 175, 30, 159, 1, 100, 108, 242] = [84, 142, 137, 120, 237, 224, 169, 87, 133, 175, 30, 159, 1, 100, 108, 242] by decide +kernel]; decide +kernel
theorem awA_d1 : s2N awA_k awA_t 1 = [158, 224, 98, 11, 89, 149, 76, 112, 246, 83, 84, 42, 94, 63, 56, 156] := by
 have e : s2N awA_k awA_t 1 = xorL (twS (s2N awA_k awA_t 0)) (cmS awA_k awA_c1s) := rfl
 rw [e, awA_d0, awA_c1]; decide +kernel
abbrev awA_c2s : List Int := [110, 110, 110, 110, 110, 110, 110, 110, 110, 110, 110, 110, 110, 110, 110, 110]
theorem awA_c2_0 : cmN awA_k awA_c2s 0 = [0, 0, 0, 0, 0, 0, 0, 0, 0, 0, 0, 0, 0, 0, 0, 0] := rfl
theorem awA_c2_l : lastS awA_k (awA_c2s.drop (16 * 0)) = [68, 41, 42, 210, 216, 158, 58, 197, 172, 185, 225, 33, 238, 220, 88, 23] := by unfold lastS; rw [if_pos (by decide), awA_k1]; decide +kernel
theorem awA_c2 : cmS awA_k awA_c2s = [206, 198, 234, 8, 192, 39, 116, 124, 62, 87, 143, 239, 202, 29, 86, 93] := by
 have e : cmS awA_k awA_c2s = encS awA_k (xorL (cmN awA_k awA_c2s 0) (lastS awA_k (awA_c2s.drop (16 * 0)))) := rfl
 rw [e, awA_c2_0, awA_c2_l, show xorL [0, 0, 0, 0, 0, 0, 0, 0, 0, 0, 0, 0, 0, 0, 0, 0] [68, 41, 42, 210, 216, 158, 58, 197, 172, 185, 225, 33, 238, 220, 88, 23] = [68, 41, 42, 210, 216, 158, 58, 197, 172, 185, 225, 33, 238, 220, 88, 23] by decide +kernel]; decide +kernel
theorem awA_d2 : s2N awA_k awA_t 2 = [243, 6, 46, 30, 115, 13, 236, 157, 210, 241, 39, 187, 118, 99, 39, 226] := by
 have e : s2N awA_k awA_t 2 = xorL (twS (s2N awA_k awA_t 1)) (cmS awA_k awA_c2s) := rfl
 rw [e, awA_d1, awA_c2]; decide +kernel
abbrev awA_p : List Int := [0, 15, 0, 0, 107, 107, 107, 107, 107, 107, 107, 107, 107, 107, 107, 107, 107, 107, 107, 107, 107, 107, 107, 107, 107, 107, 107, 107, 107, 107, 107, 107, 107, 107, 107, 107, 107, 107, 107, 107, 107, 107, 107, 107, 107, 107, 107, 107, 107, 107, 107, 107, 107, 107, 107, 107, 107, 107, 107, 107, 107, 107, 107, 107, 107, 107, 107, 107]
abbrev awA_c3s : List Int := [0, 15, 0, 0, 107, 107, 107, 107, 107, 107, 107, 107, 107, 107, 107, 107, 107, 107, 107, 107, 107, 107, 107, 107, 107, 107, 107, 107, 107, 107, 107, 107, 107, 107, 107, 107, 107, 107, 107, 107, 107, 107, 107, 107, 107, 107, 107, 107, 107, 107, 107, 107, 152, 109, 69, 117, 24, 102, 135, 246, 185, 154, 76, 208, 29, 8, 76, 137]
theorem awA_c3_0 : cmN awA_k awA_c3s 0 = [0, 0, 0, 0, 0, 0, 0, 0, 0, 0, 0, 0, 0, 0, 0, 0] := rfl
theorem awA_c3_1 : cmN awA_k awA_c3s 1 = [237, 252, 222, 43, 234, 129, 196, 84, 104, 185, 72, 200, 135, 100, 28, 140] := ((congrArg (fun z => encS awA_k (xorL z ((awA_c3s.drop (16 * 0)).take 16))) awA_c3_0).trans (congrArg (encS awA_k) (show xorL [0, 0, 0, 0, 0, 0, 0, 0, 0, 0, 0, 0, 0, 0, 0, 0] ((awA_c3s.drop (16 * 0)).take 16) = [0, 15, 0, 0, 107, 107, 107, 107, 107, 107, 107, 107, 107, 107, 107, 107] by decide +kernel))).trans (by decide +kernel)
theorem awA_c3_2 : cmN awA_k awA_c3s 2 = [15, 74, 185, 170, 115, 72, 77, 106, 3, 210, 97, 112, 159, 55, 145, 201] := ((congrArg (fun z => encS awA_k (xorL z ((awA_c3s.drop (16 * 1)).take 16))) awA_c3_1).trans (congrArg (encS awA_k) (show xorL [237, 252, 222, 43, 234, 129, 196, 84, 104, 185, 72, 200, 135, 100, 28, 140] ((awA_c3s.drop (16 * 1)).take 16) = [134, 151, 181, 64, 129, 234, 175, 63, 3, 210, 35, 163, 236, 15, 119, 231] by decide +kernel))).trans (by decide +kernel)
theorem awA_c3_3 : cmN awA_k awA_c3s 3 = [25, 73, 150, 14, 186, 141, 82, 198, 127, 204, 68, 215, 62, 202, 17, 250] := ((congrArg (fun z => encS awA_k (xorL z ((awA_c3s.drop (16 * 2)).take 16))) awA_c3_2).trans (congrArg (encS awA_k) (show xorL [15, 74, 185, 170, 115, 72, 77, 106, 3, 210, 97, 112, 159, 55, 145, 201] ((awA_c3s.drop (16 * 2)).take 16) = [100, 33, 210, 193, 24, 35, 38, 1, 104, 185, 10, 27, 244, 92, 250, 162] by decide +kernel))).trans (by decide +kernel)
theorem awA_c3_4 : cmN awA_k awA_c3s 4 = [201, 138, 180, 254, 153, 244, 140, 92, 61, 250, 45, 25, 1, 58, 124, 82] := ((congrArg (fun z => encS awA_k (xorL z ((awA_c3s.drop (16 * 3)).take 16))) awA_c3_3).trans (congrArg (encS awA_k) (show xorL [25, 73, 150, 14, 186, 141, 82, 198, 127, 204, 68, 215, 62, 202, 17, 250] ((awA_c3s.drop (16 * 3)).take 16) = [114, 34, 253, 101, 34, 224, 23, 179, 103, 170, 195, 33, 135, 80, 93, 42] by decide +kernel))).trans (by decide +kernel)
theorem awA_c3_l : lastS awA_k (awA_c3s.drop (16 * 4)) = [73, 134, 197, 240, 237, 224, 169, 87, 133, 175, 30, 159, 1, 100, 108, 242] := by unfold lastS; rw [if_neg (by decide), awA_k1]; decide +kernel
theorem awA_c3 : cmS awA_k awA_c3s = [237, 24, 204, 249, 72, 101, 100, 19, 229, 25, 69, 137, 189, 215, 0, 28] := by
 have e : cmS awA_k awA_c3s = encS awA_k (xorL (cmN awA_k awA_c3s 4) (lastS awA_k (awA_c3s.drop (16 * 4)))) := rfl
 rw [e, awA_c3_4, awA_c3_l, show xorL [201, 138, 180, 254, 153, 244, 140, 92, 61, 250, 45, 25, 1, 58, 124, 82] [73, 134, 197, 240, 237, 224, 169, 87, 133, 175, 30, 159, 1, 100, 108, 242] = [128, 12, 113, 14, 116, 20, 37, 11, 184, 85, 51, 134, 0, 94, 16, 160] by decide +kernel]; decide +kernel
theorem awA_h : awA_p.take (awA_p.length - 16) ++ xorL (awA_p.drop (awA_p.length - 16)) [243, 6, 46, 30, 115, 13, 236, 157, 210, 241, 39, 187, 118, 99, 39, 226] = awA_c3s := by decide +kernel
theorem awA_s : s2S awA_k awA_t = [237, 24, 204, 249, 72, 101, 100, 19, 229, 25, 69, 137, 189, 215, 0, 28] := by
 have e : s2S awA_k awA_t = s2E awA_k (s2N awA_k awA_t 2) awA_p := rfl
 rw [e, awA_d2]
 exact (if_neg (by decide)).trans ((congrArg (cmS awA_k) awA_h).trans awA_c3)
abbrev awB_k : List Int := [108, 107, 107, 107, 107, 107, 107, 107, 107, 107, 107, 107, 107, 107, 107, 107]
theorem awB_l0 : encS awB_k z16 = [72, 105, 80, 207, 204, 188, 69, 105, 107, 206, 137, 110, 83, 155, 121, 119] := by decide +kernel
theorem awB_k1 : k1S awB_k = [144, 210, 161, 159, 153, 120, 138, 210, 215, 157, 18, 220, 167, 54, 242, 238] := (congrArg twS awB_l0).trans (by decide +kernel)
abbrev awB_c0s : List Int := [0, 0, 0, 0, 0, 0, 0, 0, 0, 0, 0, 0, 0, 0, 0, 0]
theorem awB_c0_0 : cmN awB_k awB_c0s 0 = [0, 0, 0, 0, 0, 0, 0, 0, 0, 0, 0, 0, 0, 0, 0, 0] := rfl
theorem awB_c0_l : lastS awB_k (awB_c0s.drop (16 * 0)) = [144, 210, 161, 159, 153, 120, 138, 210, 215, 157, 18, 220, 167, 54, 242, 238] := by unfold lastS; rw [if_pos (by decide), awB_k1]; decide +kernel
theorem awB_c0 : cmS awB_k awB_c0s = [83, 155, 82, 208, 64, 112, 161, 159, 6, 65, 170, 3, 137, 167, 52, 73] := by
 have e : cmS awB_k awB_c0s = encS awB_k (xorL (cmN awB_k awB_c0s 0) (lastS awB_k (awB_c0s.drop (16 * 0)))) := rfl
 rw [e, awB_c0_0, awB_c0_l, show xorL [0, 0, 0, 0, 0, 0, 0, 0, 0, 0, 0, 0, 0, 0, 0, 0] [144, 210, 161, 159, 153, 120, 138, 210, 215, 157, 18, 220, 167, 54, 242, 238] = [144, 210, 161, 159, 153, 120, 138, 210, 215, 157, 18, 220, 167, 54, 242, 238] by decide +kernel]; decide +kernel
abbrev awB_t : List (List Int) := [[0, 0, 0, 1], [110, 110, 110, 110, 110, 110, 110, 110, 110, 110, 110, 110, 110, 110, 110, 110], [0, 15, 0, 0, 107, 107, 107, 107, 107, 107, 107, 107, 107, 107, 107, 107, 107, 107, 107, 107, 107, 107, 107, 107, 107, 107, 107, 107, 107, 107, 107, 107, 107, 107, 107, 107, 107, 107, 107, 107, 107, 107, 107, 107, 107, 107, 107, 107, 107, 107, 107, 107, 107, 107, 107, 107, 107, 107, 107, 107, 107, 107, 107, 107, 107, 107, 107, 107]]
theorem awB_d0 : s2N awB_k awB_t 0 = [83, 155, 82, 208, 64, 112, 161, 159, 6, 65, 170, 3, 137, 167, 52, 73] := awB_c0
abbrev awB_c1s : List Int := [0, 0, 0, 1]
theorem awB_c1_0 : cmN awB_k awB_c1s 0 = [0, 0, 0, 0, 0, 0, 0, 0, 0, 0, 0, 0, 0, 0, 0, 0] := rfl
theorem awB_c1_l : lastS awB_k (awB_c1s.drop (16 * 0)) = [33, 165, 67, 62, 178, 241, 21, 165, 175, 58, 37, 185, 78, 109, 229, 91] := by unfold lastS; rw [if_neg (by decide), awB_k1]; decide +kernel
theorem awB_c1 : cmS awB_k awB_c1s = [186, 74, 146, 129, 101, 158, 113, 198, 186, 225, 48, 82, 12, 109, 54, 203] := by
 have e : cmS awB_k awB_c1s = encS awB_k (xorL (cmN awB_k awB_c1s 0) (lastS awB_k (awB_c1s.drop (16 * 0)))) := rfl
 rw [e, awB_c1_0, awB_c1_l, show xorL [0, 0, 0, 0, 0, 0, 0, 0, 0, 0, 0, 0, 0, 0, 0, 0] [33, 165, 67, 62, 178, 241, 21, 165, 175, 58, 37, 185, 78, 109, 229, 91] = [33, 165, 67, 62, 178, 241, 21, 165, 175, 58, 37, 185, 78, 109, 229, 91] by decide +kernel]; decide +kernel
theorem awB_d1 : s2N awB_k awB_t 1 = [29, 124, 55, 33, 229, 127, 50, 248, 182, 98, 100, 85, 31, 35, 94, 89] := by
 have e : s2N awB_k awB_t 1 = xorL (twS (s2N awB_k awB_t 0)) (cmS awB_k awB_c1s) := rfl
 rw [e, awB_d0, awB_c1]; decide +kernel
abbrev awB_c2s : List Int := [110, 110, 110, 110, 110, 110, 110, 110, 110, 110, 110, 110, 110, 110, 110, 110]
theorem awB_c2_0 : cmN awB_k awB_c2s 0 = [0, 0, 0, 0, 0, 0, 0, 0, 0, 0, 0, 0, 0, 0, 0, 0] := rfl
theorem awB_c2_l : lastS awB_k (awB_c2s.drop (16 * 0)) = [254, 188, 207, 241, 247, 22, 228, 188, 185, 243, 124, 178, 201, 88, 156, 128] := by unfold lastS; rw [if_pos (by decide), awB_k1]; decide +kernel
theorem awB_c2 : cmS awB_k awB_c2s = [62, 16, 34, 141, 230, 109, 25, 97, 83, 24, 54, 47, 127, 95, 170, 147] := by
 have e : cmS awB_k awB_c2s = encS awB_k (xorL (cmN awB_k awB_c2s 0) (lastS awB_k (awB_c2s.drop (16 * 0)))) := rfl
 rw [e, awB_c2_0, awB_c2_l, show xorL [0, 0, 0, 0, 0, 0, 0, 0, 0, 0, 0, 0, 0, 0, 0, 0] [254, 188, 207, 241, 247, 22, 228, 188, 185, 243, 124, 178, 201, 88, 156, 128] = [254, 188, 207, 241, 247, 22, 228, 188, 185, 243, 124, 178, 201, 88, 156, 128] by decide +kernel]; decide +kernel
theorem awB_d2 : s2N awB_k awB_t 2 = [4, 232, 76, 206, 44, 147, 124, 144, 63, 220, 254, 133, 65, 25, 22, 33] := by
 have e : s2N awB_k awB_t 2 = xorL (twS (s2N awB_k awB_t 1)) (cmS awB_k awB_c2s) := rfl
 rw [e, awB_d1, awB_c2]; decide +kernel
abbrev awB_p : List Int := [0, 15, 0, 0, 107, 107, 107, 107, 107, 107, 107, 107, 107, 107, 107, 107, 107, 107, 107, 107, 107, 107, 107, 107, 107, 107, 107, 107, 107, 107, 107, 107, 107, 107, 107, 107, 107, 107, 107, 107, 107, 107, 107, 107, 107, 107, 107, 107, 107, 107, 107, 107, 107, 107, 107, 107, 107, 107, 107, 107, 107, 107, 107, 107, 107, 107, 107, 107]
abbrev awB_c3s : List Int := [0, 15, 0, 0, 107, 107, 107, 107, 107, 107, 107, 107, 107, 107, 107, 107, 107, 107, 107, 107, 107, 107, 107, 107, 107, 107, 107, 107, 107, 107, 107, 107, 107, 107, 107, 107, 107, 107, 107, 107, 107, 107, 107, 107, 107, 107, 107, 107, 107, 107, 107, 107, 111, 131, 39, 165, 71, 248, 23, 251, 84, 183, 149, 238, 42, 114, 125, 74]
theorem awB_c3_0 : cmN awB_k awB_c3s 0 = [0, 0, 0, 0, 0, 0, 0, 0, 0, 0, 0, 0, 0, 0, 0, 0] := rfl
theorem awB_c3_1 : cmN awB_k awB_c3s 1 = [186, 192, 1, 116, 217, 248, 2, 132, 155, 5, 41, 217, 17, 190, 103, 160] := ((congrArg (fun z => encS awB_k (xorL z ((awB_c3s.drop (16 * 0)).take 16))) awB_c3_0).trans (congrArg (encS awB_k) (show xorL [0, 0, 0, 0, 0, 0, 0, 0, 0, 0, 0, 0, 0, 0, 0, 0] ((awB_c3s.drop (16 * 0)).take 16) = [0, 15, 0, 0, 107, 107, 107, 107, 107, 107, 107, 107, 107, 107, 107, 107] by decide +kernel))).trans (by decide +kernel)
theorem awB_c3_2 : cmN awB_k awB_c3s 2 = [54, 102, 177, 18, 120, 116, 129, 51, 112, 21, 233, 231, 46, 192, 161, 237] := ((congrArg (fun z => encS awB_k (xorL z ((awB_c3s.drop (16 * 1)).take 16))) awB_c3_1).trans (congrArg (encS awB_k) (show xorL [186, 192, 1, 116, 217, 248, 2, 132, 155, 5, 41, 217, 17, 190, 103, 160] ((awB_c3s.drop (16 * 1)).take 16) = [209, 171, 106, 31, 178, 147, 105, 239, 240, 110, 66, 178, 122, 213, 12, 203] by decide +kernel))).trans (by decide +kernel)
theorem awB_c3_3 : cmN awB_k awB_c3s 3 = [51, 124, 20, 246, 211, 60, 207, 73, 152, 213, 201, 179, 173, 209, 184, 223] := ((congrArg (fun z => encS awB_k (xorL z ((awB_c3s.drop (16 * 2)).take 16))) awB_c3_2).trans (congrArg (encS awB_k) (show xorL [54, 102, 177, 18, 120, 116, 129, 51, 112, 21, 233, 231, 46, 192, 161, 237] ((awB_c3s.drop (16 * 2)).take 16) = [93, 13, 218, 121, 19, 31, 234, 88, 27, 126, 130, 140, 69, 171, 202, 134] by decide +kernel))).trans (by decide +kernel)
theorem awB_c3_4 : cmN awB_k awB_c3s 4 = [1, 91, 4, 106, 46, 59, 164, 211, 204, 45, 144, 8, 215, 6, 24, 39] := ((congrArg (fun z => encS awB_k (xorL z ((awB_c3s.drop (16 * 3)).take 16))) awB_c3_3).trans (congrArg (encS awB_k) (show xorL [51, 124, 20, 246, 211, 60, 207, 73, 152, 213, 201, 179, 173, 209, 184, 223] ((awB_c3s.drop (16 * 3)).take 16) = [88, 23, 127, 157, 188, 191, 232, 236, 223, 45, 222, 72, 249, 102, 45, 49] by decide +kernel))).trans (by decide +kernel)
theorem awB_c3_l : lastS awB_k (awB_c3s.drop (16 * 4)) = [11, 215, 62, 117, 178, 241, 21, 165, 175, 58, 37, 185, 78, 109, 229, 91] := by unfold lastS; rw [if_neg (by decide), awB_k1]; decide +kernel
theorem awB_c3 : cmS awB_k awB_c3s = [40, 145, 84, 150, 84, 164, 125, 51, 174, 219, 50, 102, 166, 122, 82, 0] := by
 have e : cmS awB_k awB_c3s = encS awB_k (xorL (cmN awB_k awB_c3s 4) (lastS awB_k (awB_c3s.drop (16 * 4)))) := rfl
 rw [e, awB_c3_4, awB_c3_l, show xorL [1, 91, 4, 106, 46, 59, 164, 211, 204, 45, 144, 8, 215, 6, 24, 39] [11, 215, 62, 117, 178, 241, 21, 165, 175, 58, 37, 185, 78, 109, 229, 91] = [10, 140, 58, 31, 156, 202, 177, 118, 99, 23, 181, 177, 153, 107, 253, 124] by decide +kernel]; decide +kernel
theorem awB_h : awB_p.take (awB_p.length - 16) ++ xorL (awB_p.drop (awB_p.length - 16)) [4, 232, 76, 206, 44, 147, 124, 144, 63, 220, 254, 133, 65, 25, 22, 33] = awB_c3s := by decide +kernel
theorem awB_s : s2S awB_k awB_t = [40, 145, 84, 150, 84, 164, 125, 51, 174, 219, 50, 102, 166, 122, 82, 0] := by
 have e : s2S awB_k awB_t = s2E awB_k (s2N awB_k awB_t 2) awB_p := rfl
 rw [e, awB_d2]
 exact (if_neg (by decide)).trans ((congrArg (cmS awB_k) awB_h).trans awB_c3)
theorem aw_unlike : s2S awA_k awA_t ≠ s2S awB_k awB_t := by rw [awA_s, awB_s]; decide
end Go.AM
end
section
set_option maxRecDepth 100000
namespace Go.AM
abbrev awK : List Int := List.replicate 32 107
abbrev awN : List Int := [110, 110, 110, 110, 110, 110, 110, 110, 110, 110, 110, 110, 110, 110, 110, 110]
abbrev awL : List Int := 108 :: List.replicate 31 107
abbrev awV : VV := (false, [])
abbrev awC : CK := (15, (awK, awK))
abbrev awR (k : List Int) : RR := ([(1, (k, 0))], 2)
theorem rep_B {n : Nat} {x : Int} (h : B8 x) : Bs (List.replicate n x) := fun y hy => by rw [(List.mem_replicate.1 hy).2]; exact h
theorem awK_B : Bs awK := rep_B (by decide)
theorem awL_B : Bs awL := fun y hy => by
 rcases List.mem_cons.1 hy with rfl | hy
 ·decide
 ·exact rep_B (n := 31) (x := 107) (by decide) y hy
theorem awV_ok : okV awV := ⟨by decide, fun k hk => nomatch hk⟩
theorem awV_B : vB awV := fun k hk => nomatch hk
theorem awR_ok {k : List Int} (hl : k.length = 32) (hb : Bs k) : ROk (awR k) := by
 refine ⟨⟨Nat.le_refl _, by show 1 ≤ 8; decide⟩, fun q hq => ?_, fun q hq => ?_⟩ <;> rw [List.mem_singleton.1 hq]
 ·exact hl
 ·exact hb
theorem awC_fit : fitK awC = true := by decide
theorem awLoop : pendulumlaw25_awake.l0 .lim ([], awN, 0, ()) = some (awK, awN, ()) := by
 have e := loop_to (f := pendulumlaw25_awake.l0 .lim) (fun j => (List.replicate j (107 : Int), awN, (j : Int), ())) (n := 32) (fun k hk => by
  rw [pendulumlaw25_awake.q0]
  have hl : decide ((List.replicate k (107 : Int)).length + ([107] : List Int).length ≤ maxStr) = true := dec_t (by unfold maxStr; simp; omega)
  simp only [pendulumlaw25_awake.b0, dec_t (show (k : Int) < 32 by omega), cond_true, hl, wk k (by omega)]
  rw [List.replicate_succ'])
 have e0 : pendulumlaw25_awake.l0 .lim (List.replicate 0 (107 : Int), awN, ((0 : Nat) : Int), ()) = _ := e
 refine (show pendulumlaw25_awake.l0 .lim ([], awN, 0, ()) = pendulumlaw25_awake.l0 .lim (List.replicate 32 (107 : Int), awN, ((32 : Nat) : Int), ()) from e0).trans ?_
 rw [pendulumlaw25_awake.q0]
 rfl
theorem aw_find (k : List Int) : findS (awR k).1 1 = ((0 : Nat) : Int) := rfl
noncomputable abbrev awS : List Int := sealS awK [idS 1, awN] (plainS awC)
theorem aw_seal : sealV awV awK [idS 1, awN] (plainS awC) = (awV, awS, 0) := by
 show (awV, sealR awK [idS 1, awN] (plainS awC)) = _
 unfold sealR
 rw [if_pos (show sivE awK [idS 1, awN] = 0 by decide), if_neg (show ¬ (plainS awC).length > 65536 by decide)]
theorem aw_make : mkS awV (1, (awK, 0)) awC awN = (awV, (idS 1 ++ awN) ++ awS, 0) := by
 unfold mkS
 rw [if_pos awC_fit, if_pos (show awN.length = 16 by decide)]
 simp only [aw_seal]
 rfl
theorem aw_half1 : half1 awK = awA_k := by decide
theorem aw_half1' : half1 awL = awB_k := by decide
theorem aw_half2 : half2 awL = half2 awK := by decide
theorem aw_ad : [idS 1, awN] ++ [plainS awC] = awA_t := by decide
theorem aw_adB : [idS 1, awN] ++ [plainS awC] = awB_t := by decide
theorem aw_not : openR awL [idS 1, awN] awS = ([], 17) := by
 have hv := s2S_ok (half1 awK) ([idS 1, awN] ++ [plainS awC])
 have hl : awS.length = (plainS awC).length + 16 := sealS_len awK [idS 1, awN] (plainS awC)
 have hp : (plainS awC).length = 68 := by decide
 have ht : awS.take 16 = s2S (half1 awK) ([idS 1, awN] ++ [plainS awC]) := by
  unfold awS sealS; rw [List.take_append_of_le_length (by rw [hv.1]; omega), List.take_of_length_le (by rw [hv.1]; omega)]
 have hd : awS.drop 16 = strmS (half2 awK) (s2S (half1 awK) ([idS 1, awN] ++ [plainS awC])) (plainS awC) := by
  unfold awS sealS; rw [List.drop_append_of_le_length (by rw [hv.1]; omega), List.drop_of_length_le (by rw [hv.1]; omega), List.nil_append]
 have ho : openS awL awS = plainS awC := by
  unfold openS; rw [aw_half2, ht, hd, strmS_back _ _ (plainS_B awC_fit ⟨awK_B, awK_B⟩)]
 unfold openR
 rw [if_pos (show sivE awL [idS 1, awN] = 0 by decide), if_neg (by omega), if_neg (by omega), ho, ht, aw_half1, aw_half1', if_neg (fun h => aw_unlike (by rw [← aw_ad, ← h, ← aw_adB]))]
theorem aw_open2 : openC awV (awR awL) ((idS 1 ++ awN) ++ awS) = ((0, ([], [])), 17) := by
 have hl : awS.length = 84 := (sealS_len awK [idS 1, awN] (plainS awC)).trans (by rw [plainS_len]; rfl)
 obtain ⟨c1, c2, c3⟩ := cut3 (a := idS 1) (b := awN) (c := awS) rfl rfl
 have hn : numS ((idS 1 ++ awN) ++ awS) = 1 := by rw [List.append_assoc]; exact numS_id (by decide) (by decide) _
 have hlen : ((idS 1 ++ awN) ++ awS).length = 104 := by
  rw [List.length_append, List.length_append, hl]; rfl
 unfold openC
 rw [if_neg (by omega), hn, aw_find, if_neg (by omega), c1, c2, c3]
 have hk : (rd r0 (awR awL).1 ((0 : Nat) : Int)).2.1 = awL := rfl
 have ho : openV' awV awL [idS 1, awN] awS = ([], 17) := by
  unfold openV'
  rw [show awV.1 = false from rfl, cond_false]
  exact aw_not
 rw [hk, ho, if_neg (show ¬ (17 : Int) = 0 by decide)]
theorem aw_open1 : openC awV (awR awK) ((idS 1 ++ awN) ++ awS) = (awC, 0) := by
 have h := openC_made (v := awV) (w := awV) (m := (1, (awK, 0))) (k := awC) (nonce := awN) (r := awR awK) (i := 0) rfl (by rw [aw_make]) ⟨awK_B, awK_B⟩ (show (0 : Int) ≤ 1 by decide) (show (1 : Int) < 4294967296 by decide)
  (by rw [aw_make]; exact Ext.rfl' _) rfl (aw_find awK) rfl
 rw [aw_make] at h
 exact h
theorem awake25 : pendulumlaw25_awake.run .lim () = some true := by
 have hl : awS.length = 84 := (sealS_len awK [idS 1, awN] (plainS awC)).trans (by rw [plainS_len]; rfl)
 have hlen : ((idS 1 ++ awN) ++ awS).length = 104 := by
  rw [List.length_append, List.length_append, hl]; rfl
 have hB : Bs ((idS 1 ++ awN) ++ awS) := fun x hx => by
  rcases List.mem_append.1 hx with hx | hx
  ·rcases List.mem_append.1 hx with hx | hx
   ·exact idS_B _ x hx
   ·exact rep_B (n := 16) (x := 110) (by decide) x hx
  ·exact sealS_B _ _ _ x hx
 have m := make_eq (v := awV) (r := awR awK) (k := awC) (nonce := awN) awV_ok rfl (awR_ok rfl awK_B) ⟨by decide, by decide⟩ (by decide)
 have lk : lastK (awR awK) = (1, (awK, 0)) := rfl
 rw [lk, aw_make] at m
 have o1 := copen_eq (v := awV) (r := awR awK) (s := (idS 1 ++ awN) ++ awS) awV_ok rfl awV_B (awR_ok rfl awK_B) (lim_of (by omega)) hB
 have o2 := copen_eq (v := awV) (r := awR awL) (s := (idS 1 ++ awN) ++ awS) awV_ok rfl awV_B (awR_ok rfl awL_B) (lim_of (by omega)) hB
 rw [aw_open1] at o1
 rw [aw_open2] at o2
 have n1 : pendulumref24_New.run .lim (awK, 0, ()) = some (awR awK, 0, ()) := rfl
 have n2 : pendulumref24_New.run .lim ([108] ++ cut awK 1 (awK.length : Int), 0, ()) = some (awR awL, 0, ()) := rfl
 have c1 : cutB 1 (awK.length : Int) (awK.length : Int) = true := by decide
 have c2 : decide (([108] : List Int).length + (cut awK 1 (awK.length : Int)).length ≤ maxStr) = true := by decide
 simp only [pendulumlaw25_awake.run, awLoop, Option.bind_some, n1, n2, c1, c2, cond_true, m, o1, o2]
 have c3 : cutB 0 4 ((((idS 1 ++ awN) ++ awS).length : Nat) : Int) = true := by rw [hlen]; decide
 have c4 := (cut3 (a := idS 1) (b := awN) (c := awS) rfl rfl).1
 have c5 : smallI ((((idS 1 ++ awN) ++ awS).length : Nat) : Int) = true := by rw [hlen]; decide
 rw [c3, c4, c5, hlen]
 decide
end Go.AM
end
section
namespace Go.AM
theorem rB_of {r : RR} (h : Ty.ok (.pair (.lst (.pair (.int .u32) (.pair .str (.int .i64)))) (.int .u32)) r) : RB r := by
 obtain ⟨⟨h1, h2⟩, _⟩ := h
 exact ⟨lt63 h1, fun k hk => ⟨lt63 (h2 k hk).2.1.1, (h2 k hk).2.1.2⟩⟩
theorem mk_fit {v : VV} (hf : fitV v = true) (m : RK) (k : CK) (nonce : List Int) : fitV (mkS v m k nonce).1 = true := by
 by_cases h : (mkS v m k nonce).2.2 = 0
 ·rw [(mkS_zero h).2.2.2]; exact fit_seal hf _ _ _
 ·rw [(mkS_no h).1]; exact hf
theorem mk_ok {v : VV} (hv : okV v) {m : RK} (hk : m.2.1.length = 32) (hkb : Bs m.2.1) (k : CK) (nonce : List Int) : okV (mkS v m k nonce).1 := by
 by_cases h : (mkS v m k nonce).2.2 = 0
 ·obtain ⟨h1, h2, _, e⟩ := mkS_zero h
  rw [e]; exact okV_seal hv (ctxts hk hkb h1 h2)
 ·rw [(mkS_no h).1]; exact hv
theorem k_B {k : CK} (h : Ty.ok (.pair (.int .i64) (.pair .str .str)) k) : KOk k ∧ KB k :=
 ⟨⟨lt63 h.2.1.1, lt63 h.2.2.1⟩, ⟨h.2.1.2, h.2.2.2⟩⟩
end Go.AM
end
section
namespace Go.AM
open Go.Proofs
set_option maxRecDepth 100000
set_option linter.unusedVariables false
noncomputable section
/-! ### pendulum/pendulumlaw25.CookMakes -/
namespace pendulumlaw25_CookMakes
def inl : FuncId → Bool := fun f => [].any (Nat.beq f)
def O (m_ : Mode) : Ora := (oras [pendulumlaw25_good.c m_, pendulumlaw25_awake.c m_, cook_Make.c m_, pendulumref25_Fit.c m_, pendulumref22_Same.c m_, cook_Size.c m_, pendulumref25_Make.c m_, cook_Jar.c m_, pendulumref25_Jar.c m_, pendulumref25_Size.c m_, cook_Fit.c m_, pendulumref25_Texts.c m_])
theorem Ok (m_ : Mode) {S0 w0} : OraOK P S0 w0 (O m_) := (oras_ok (ac (pendulumlaw25_good.ok m_) (ac (pendulumlaw25_awake.ok m_) (ac (cook_Make.ok m_) (ac (pendulumref25_Fit.ok m_) (ac (pendulumref22_Same.ok m_) (ac (cook_Size.ok m_) (ac (pendulumref25_Make.ok m_) (ac (cook_Jar.ok m_) (ac (pendulumref25_Jar.ok m_) (ac (pendulumref25_Size.ok m_) (ac (cook_Fit.ok m_) (ac (pendulumref25_Texts.ok m_) (an))))))))))))))
def run (m_ : Mode) : DT0 × DT3 × (Int × (List Int × List Int)) × (List Int) × (List (List Int)) × Unit → Option (Bool) := fun v_ => match v_ with
| (v, r, k, nonce, nonces, ()) =>
 (pendulumlaw25_good.run m_ (v, r, ())).bind fun r1 =>
 bif (!!!r1 || (smallI (nonces.length : Int))) then
 bif (!r1 || (decide ((nonces.length : Int) > 30))) then
  (pendulumlaw25_awake.run m_ (())).bind fun r2 =>
  some r2
 else
  (cook_Make.run m_ (v, r, k, nonce, ())).bind fun (r3, r4, r5, ()) =>
  (pendulumref25_Make.run m_ (v, r, k, nonce, ())).bind fun (r6, r7, r8, ()) =>
  (cook_Jar.run m_ (v, r, k, nonces, ())).bind fun (r9, r10, r11, ()) =>
  (pendulumref25_Jar.run m_ (v, r, k, nonces, ())).bind fun (r12, r13, r14, ()) =>
  (cook_Size.run m_ (k.1, ())).bind fun r15 =>
  (pendulumref25_Size.run m_ (k.1, ())).bind fun r16 =>
  ((bif decide (r15 = r16) then cook_Fit.run m_ (k, ()) else some false)).bind fun r17 =>
  ((bif decide (r15 = r16) then pendulumref25_Fit.run m_ (k, ()) else some false)).bind fun r18 =>
  ((bif ((decide (r15 = r16)) && (r17 == r18)) then pendulumref22_Same.run m_ (r3, r6, ()) else some false)).bind fun r19 =>
  ((bif (((((decide (r15 = r16)) && (r17 == r18)) && r19) && (decide (r4 = r7))) && (decide (r5 = r8))) then pendulumref22_Same.run m_ (r9, r12, ()) else some false)).bind fun r20 =>
  ((bif ((((((decide (r15 = r16)) && (r17 == r18)) && r19) && (decide (r4 = r7))) && (decide (r5 = r8))) && r20) then pendulumref25_Texts.run m_ (r10, r13, ()) else some false)).bind fun r21 =>
  ((bif ((((((((decide (r15 = r16)) && (r17 == r18)) && r19) && (decide (r4 = r7))) && (decide (r5 = r8))) && r20) && r21) && (decide (r11 = r14))) then pendulumlaw25_awake.run m_ (()) else some false)).bind fun r22 =>
  some (((((((((decide (r15 = r16)) && (r17 == r18)) && r19) && (decide (r4 = r7))) && (decide (r5 = r8))) && r20) && r21) && (decide (r11 = r14))) && r22) else none
def c (m_ : Mode) : Callee := ⟨6, [.ag (.pair .bool (.lst (.pair .str (.pair (.lst .str) (.pair .str .str))))), .ag (.pair (.lst (.pair (.int .u32) (.pair .str (.int .i64)))) (.int .u32)), .ag (.pair (.int .i64) (.pair .str .str)), .one .str, .one (.lst .str)], .one (.sh (.one .bool)), run m_⟩
theorem k (m_ : Mode) : KR P (O m_) inl [] (c m_) := by
  intro v_; kernel_rfl
theorem ok (m_ : Mode) : (c m_).OK P := KR.ok (fun S0 w0 => (Ok m_)) (by kernel_rfl) (by rfl) (fun S0 w0 cs0 => an) (k m_)
end pendulumlaw25_CookMakes
end
end Go.AM
end
section
namespace Go.AM
noncomputable def jarS (m : RK) (k : CK) : VV → List (List Int) → List (List Int) → VV × List (List Int) × Int
 | v, out, [] => (v, out, 0)
 | v, out, n :: l => if (mkS v m k n).2.2 = 0 then jarS m k (mkS v m k n).1 (out ++ [(mkS v m k n).2.1]) l else (v, out, (mkS v m k n).2.2)
theorem drop_cons {α : Type} {z : α} {xs l : List α} {n : α} {j : Nat} (h : xs.drop j = n :: l) : j < xs.length ∧ rd z xs (j : Int) = n ∧ xs.drop (j + 1) = l := by
 have hj : j < xs.length := by
  rcases Nat.lt_or_ge j xs.length with q | q
  ·exact q
  ·rw [List.drop_of_length_le q] at h; exact absurd h (by simp)
 rw [List.drop_eq_getElem_cons hj] at h
 have := List.cons.inj h
 exact ⟨hj, by rw [rd_ix hj]; exact this.1, this.2⟩
theorem jar_loop {m : RK} (hk : m.2.1.length = 32) (hkb : Bs m.2.1) {k : CK} (ko : KOk k) (v0 : VV) (nonces : List (List Int)) (hn : ∀ n ∈ nonces, n.length < lim63) (h8 : nonces.length ≤ 8) :
  ∀ (l : List (List Int)) (j : Nat) (v : VV) (out : List (List Int)), nonces.drop j = l → okV v → fitV v = true → out.length ≤ j →
   ((jarS m k v out l).2.2 = 0 → cook_Jar.l0 .lim (nonces, (nonces.length : Int), (j : Int), v0.1, v0.2, false, v.1, v.2, m.1, m.2.1, m.2.2, k.1, k.2.1, k.2.2, 0, out, ()) =
    some (.inr (v0.1, v0.2, false, (jarS m k v out l).1.1, (jarS m k v out l).1.2, m.1, m.2.1, m.2.2, k.1, k.2.1, k.2.2, 0, (jarS m k v out l).2.1, ()))) ∧
   ((jarS m k v out l).2.2 ≠ 0 → ∃ a b o, cook_Jar.l0 .lim (nonces, (nonces.length : Int), (j : Int), v0.1, v0.2, false, v.1, v.2, m.1, m.2.1, m.2.2, k.1, k.2.1, k.2.2, 0, out, ()) =
    some (.inl (v0.1, v0.2, false, a, b, m.1, m.2.1, m.2.2, k.1, k.2.1, k.2.2, (jarS m k v out l).2.2, o, ()))) := by
 intro l
 induction l with
 | nil =>
  intro j v out hl hv hf ho
  have hj : nonces.length ≤ j := by
   have := congrArg List.length hl
   rw [List.length_drop] at this
   simp only [List.length_nil] at this
   omega
  refine ⟨fun _ => ?_, fun h => absurd rfl h⟩
  rw [cook_Jar.q0]
  simp only [cook_Jar.b0, dec_f (show ¬ (j : Int) < (nonces.length : Int) by omega), cond_false]
  rfl
 | cons n l ih =>
  intro j v out hl hv hf ho
  obtain ⟨hj, hr, hl'⟩ := drop_cons (z := []) hl
  have hn63 : n.length < 9223372036854775808 := hn n (by rw [← hr]; exact rd_mem (by omega) (by omega))
  have hm := cfit_eq ko
  rw [cook_Jar.q0]
  simp only [cook_Jar.b0, dec_t (show (j : Int) < (nonces.length : Int) by omega), inB_t (show (0 : Int) ≤ (j : Int) by omega) (show (j : Int) < (nonces.length : Int) by omega), cond_true, hm, hr, smallN hn63, Option.bind_some, wk j (by omega)]
  rw [jarS]
  by_cases h1 : fitK k = true
  ·by_cases h2 : n.length = 16
   ·have T := ctxts (m := m) hk hkb h1 h2
    have hs := seal_eq hv hf T
    have hsl := seal_len hf m.2.1 [idS m.1, n] (plainS k)
    obtain ⟨j1, j2⟩ := join_ok (id := m.1) (s := (sealV v m.2.1 [idS m.1, n] (plainS k)).2.1) h2 (by omega)
    have hcap : decide (out.length + ([((idS m.1 ++ n) ++ (sealV v m.2.1 [idS m.1, n] (plainS k)).2.1)] : List (List Int)).length < 4398046511104) = true := dec_t (by simp only [List.length_singleton]; omega)
    have hv2 := mk_ok hv hk hkb k n
    have hf2 := mk_fit hf m k n
    unfold idS at hs j1 j2 hcap
    rw [h1, dec_t (show (n.length : Int) = 16 by omega)]
    simp only [Bool.not_true, cond_false, cplain_eq h1, Option.bind_some, hs, j1, j2, cond_true]
    by_cases h3 : (sealV v m.2.1 [idS m.1, n] (plainS k)).2.2 = 0
    ·have he : mkS v m k n = ((sealV v m.2.1 [idS m.1, n] (plainS k)).1, (idS m.1 ++ n) ++ (sealV v m.2.1 [idS m.1, n] (plainS k)).2.1, 0) := by
      unfold mkS; rw [if_pos h1, if_pos h2, if_pos h3]
     have := ih (j + 1) (mkS v m k n).1 (out ++ [(mkS v m k n).2.1]) hl' hv2 hf2 (by simp only [List.length_append, List.length_singleton]; omega)
     rw [if_pos (show (mkS v m k n).2.2 = 0 by rw [he])]
     rw [he] at this ⊢
     unfold idS at h3 this ⊢
     rw [dec_t h3]
     simp only [Bool.not_true, Bool.not_false, cond_true, hcap, Bool.or_self, cond_false, h3]
     exact this
    ·have he : mkS v m k n = (v, [], (sealV v m.2.1 [idS m.1, n] (plainS k)).2.2) := by
      unfold mkS; rw [if_pos h1, if_pos h2, if_neg h3]
     rw [he]
     simp only
     rw [if_neg h3]
     unfold idS at h3 ⊢
     rw [dec_f h3]
     simp only [Bool.not_true, Bool.not_false, cond_true, Bool.or_true, cond_false]
     exact ⟨fun q => absurd q h3, fun _ => ⟨_, _, _, rfl⟩⟩
   ·have he : mkS v m k n = (v, [], 10) := by unfold mkS; rw [if_pos h1, if_neg h2]
    rw [h1, dec_f (show ¬ (n.length : Int) = 16 by omega), he]
    exact ⟨fun q => absurd q (show (10 : Int) ≠ 0 by decide), fun _ => ⟨_, _, _, rfl⟩⟩
  ·have h1' : fitK k = false := by simpa using h1
   have he : mkS v m k n = (v, [], 13) := by unfold mkS; rw [if_neg h1]
   rw [h1', he]
   exact ⟨fun q => absurd q (show (13 : Int) ≠ 0 by decide), fun _ => ⟨_, _, _, rfl⟩⟩
theorem rjar_loop {r : RR} (ro : ROk r) {k : CK} (ko : KOk k) (v0 : VV) (nonces : List (List Int)) (hn : ∀ n ∈ nonces, n.length < lim63) (h8 : nonces.length ≤ 8) :
  ∀ (l : List (List Int)) (j : Nat) (v : VV) (out : List (List Int)), nonces.drop j = l → okV v → fitV v = true → out.length ≤ j →
   ((jarS (lastK r) k v out l).2.2 = 0 → pendulumref25_Jar.l0 .lim (nonces, (j : Int), v0.1, v0.2, r.1, r.2, k.1, k.2.1, k.2.2, false, v.1, v.2, out, ()) =
    some (.inr (false, (jarS (lastK r) k v out l).1.1, (jarS (lastK r) k v out l).1.2, (jarS (lastK r) k v out l).2.1, ()))) ∧
   ((jarS (lastK r) k v out l).2.2 ≠ 0 → pendulumref25_Jar.l0 .lim (nonces, (j : Int), v0.1, v0.2, r.1, r.2, k.1, k.2.1, k.2.2, false, v.1, v.2, out, ()) =
    some (.inl ((jarS (lastK r) k v out l).2.2, v0.1, v0.2, ()))) := by
 have hm := lastK_mem ro
 intro l
 induction l with
 | nil =>
  intro j v out hl hv hf ho
  have hj : nonces.length ≤ j := by
   have := congrArg List.length hl
   rw [List.length_drop] at this
   simp only [List.length_nil] at this
   omega
  refine ⟨fun _ => ?_, fun h => absurd rfl h⟩
  rw [pendulumref25_Jar.q0]
  simp only [pendulumref25_Jar.b0, smallN (show nonces.length < 9223372036854775808 by omega), dec_f (show ¬ (j : Int) < (nonces.length : Int) by omega), cond_true, cond_false]
  rfl
 | cons n l ih =>
  intro j v out hl hv hf ho
  obtain ⟨hj, hr, hl'⟩ := drop_cons (z := []) hl
  have hn' := hn n (by rw [← hr]; exact rd_mem (by omega) (by omega))
  have hmk := rmake_eq hv hf ro ko hn'
  rw [pendulumref25_Jar.q0]
  simp only [pendulumref25_Jar.b0, smallN (show nonces.length < 9223372036854775808 by omega), dec_t (show (j : Int) < (nonces.length : Int) by omega), inB_t (show (0 : Int) ≤ (j : Int) by omega) (show (j : Int) < (nonces.length : Int) by omega), cond_true, hr, hmk, Option.bind_some, wk j (by omega)]
  rw [jarS]
  by_cases h0 : (mkS v (lastK r) k n).2.2 = 0
  ·have hcap : decide (out.length + ([(mkS v (lastK r) k n).2.1] : List (List Int)).length < 4398046511104) = true := dec_t (by simp only [List.length_singleton]; omega)
   rw [dec_t h0, if_pos h0]
   simp only [Bool.not_true, cond_false, hcap, cond_true]
   exact ih (j + 1) (mkS v (lastK r) k n).1 (out ++ [(mkS v (lastK r) k n).2.1]) hl' (mk_ok hv (ro.key _ hm) (ro.kb _ hm) k n) (mk_fit hf _ k n) (by simp only [List.length_append, List.length_singleton]; omega)
  ·rw [dec_f h0, if_neg h0]
   exact ⟨fun q => absurd q h0, fun _ => rfl⟩
noncomputable def jar (v : VV) (m : RK) (k : CK) (nonces : List (List Int)) : VV × List (List Int) × Int :=
 if nonces.length > 8 then (v, [], 18) else if (jarS m k v [] nonces).2.2 = 0 then jarS m k v [] nonces else (v, [], (jarS m k v [] nonces).2.2)
theorem jar_eq {v : VV} {r : RR} {k : CK} {nonces : List (List Int)} (hv : okV v) (hf : fitV v = true) (ro : ROk r) (ko : KOk k) (hl : nonces.length < lim63) (hn : ∀ n ∈ nonces, n.length < lim63) :
  cook_Jar.run .lim (v, r, k, nonces, ()) = some ((jar v (lastK r) k nonces).1, (jar v (lastK r) k nonces).2.1, (jar v (lastK r) k nonces).2.2, ()) := by
 have hl63 : nonces.length < 9223372036854775808 := hl
 have hr := ro.len
 have hm := lastK_mem ro
 have hw := last_w ro
 unfold jar
 simp only [cook_Jar.run, smallN hl63, cond_true]
 by_cases h8 : nonces.length > 8
 ·rw [dec_t (show (nonces.length : Int) > 8 by omega), if_pos h8]; rfl
 ·rw [dec_f (show ¬ (nonces.length : Int) > 8 by omega), if_neg h8]
  have J := jar_loop (ro.key _ hm) (ro.kb _ hm) ko v nonces hn (by omega) nonces 0 v [] rfl hv hf (Nat.le_refl _)
  rw [show ((0 : Nat) : Int) = 0 from rfl] at J
  have el : rd r0 r.1 ((r.1.length - 1 : Nat) : Int) = lastK r := rfl
  simp only [cond_false, smallN (show r.1.length < 9223372036854775808 by omega), hw, el, inB_t (show (0 : Int) ≤ ((r.1.length - 1 : Nat) : Int) by omega) (show ((r.1.length - 1 : Nat) : Int) < (r.1.length : Int) by omega), cond_true]
  by_cases h0 : (jarS (lastK r) k v [] nonces).2.2 = 0
  ·rw [J.1 h0, if_pos h0, h0]; rfl
  ·obtain ⟨a, b, o, e⟩ := J.2 h0
   rw [e, if_neg h0]
   simp only [Option.bind_some, dec_f h0, Bool.not_false, cond_true]
theorem rjar_eq {v : VV} {r : RR} {k : CK} {nonces : List (List Int)} (hv : okV v) (hf : fitV v = true) (ro : ROk r) (ko : KOk k) (hl : nonces.length < lim63) (hn : ∀ n ∈ nonces, n.length < lim63) :
  pendulumref25_Jar.run .lim (v, r, k, nonces, ()) = some ((jar v (lastK r) k nonces).1, (jar v (lastK r) k nonces).2.1, (jar v (lastK r) k nonces).2.2, ()) := by
 have hl63 : nonces.length < 9223372036854775808 := hl
 unfold jar
 simp only [pendulumref25_Jar.run, smallN hl63, cond_true]
 by_cases h8 : nonces.length > 8
 ·rw [dec_t (show (nonces.length : Int) > 8 by omega), if_pos h8]; rfl
 ·rw [dec_f (show ¬ (nonces.length : Int) > 8 by omega), if_neg h8]
  have J := rjar_loop ro ko v nonces hn (by omega) nonces 0 v [] rfl hv hf (Nat.le_refl _)
  rw [show ((0 : Nat) : Int) = 0 from rfl] at J
  simp only [cond_false]
  by_cases h0 : (jarS (lastK r) k v [] nonces).2.2 = 0
  ·rw [J.1 h0, if_pos h0, h0]; rfl
  ·rw [J.2 h0, if_neg h0]; rfl
theorem texts25_eq (a b : List (List Int)) (ha : a.length < lim63) (hb : b.length < lim63) : pendulumref25_Texts.run .lim (a, b, ()) = some (decide (a = b)) := by
 have ha63 : a.length < 9223372036854775808 := ha
 have hb63 : b.length < 9223372036854775808 := hb
 simp only [pendulumref25_Texts.run, smallN ha63, smallN hb63, cond_true]
 by_cases hl : a.length = b.length
 ·have e := loop_any (f := pendulumref25_Texts.l0 .lim) (fun i => (a, b, (i : Int), ())) a.length (fun k => !decide (rd [] a (k : Int) = rd [] b (k : Int))) (some (.inl (false, ()))) (fun k hk => by
   rw [pendulumref25_Texts.q0]
   simp only [pendulumref25_Texts.b0, smallN ha63, dec_t (show (k : Int) < (a.length : Int) by omega), inB_t (show (0 : Int) ≤ (k : Int) by omega) (show (k : Int) < (a.length : Int) by omega), inB_t (show (0 : Int) ≤ (k : Int) by omega) (show (k : Int) < (b.length : Int) by omega), cond_true, wk k (by omega)])
  rw [show ((0 : Nat) : Int) = 0 from rfl] at e
  rw [dec_t (show (a.length : Int) = (b.length : Int) by omega)]
  simp only [Bool.not_true, cond_false, e, any_ne hl]
  by_cases h : a = b
  ·rw [dec_t h]
   simp only [Bool.not_true, cond_false]
   rw [pendulumref25_Texts.q0]
   simp only [pendulumref25_Texts.b0, smallN ha63, dec_f (show ¬ (a.length : Int) < (a.length : Int) by omega), cond_true, cond_false, Option.bind_some]
  ·rw [dec_f h]; rfl
 ·rw [dec_f (show ¬ (a.length : Int) = (b.length : Int) by omega), dec_f (fun h => hl (by rw [h]))]; rfl
theorem rcsize_eq (k : CK) : ∃ n, cook_Size.run .lim (k.1, ()) = some n ∧ pendulumref25_Size.run .lim (k.1, ()) = some n := by
 simp only [cook_Size.run, pendulumref25_Size.run, keysz_eq, rkeysz_eq, Option.bind_some]
 unfold keySz
 by_cases h : k.1 = 15
 ·rw [if_pos h]; exact ⟨_, rfl, rfl⟩
 ·rw [if_neg h]
  by_cases h2 : k.1 = 17
  ·rw [if_pos h2]; exact ⟨_, rfl, rfl⟩
  ·rw [if_neg h2]; exact ⟨_, rfl, rfl⟩
theorem jarS_ok {m : RK} (hk : m.2.1.length = 32) (hkb : Bs m.2.1) {k : CK} : ∀ (l : List (List Int)) (v : VV) (out : List (List Int)), okV v → okV (jarS m k v out l).1 ∧ (jarS m k v out l).2.1.length ≤ out.length + l.length
 | [], v, out, h => ⟨h, by rw [jarS]; simp⟩
 | n :: l, v, out, h => by
  rw [jarS]
  by_cases h0 : (mkS v m k n).2.2 = 0
  ·rw [if_pos h0]
   have := jarS_ok hk hkb (k := k) l (mkS v m k n).1 (out ++ [(mkS v m k n).2.1]) (mk_ok h hk hkb k n)
   refine ⟨this.1, Nat.le_trans this.2 ?_⟩
   simp only [List.length_append, List.length_singleton, List.length_cons, List.length_nil]; omega
  ·rw [if_neg h0]; exact ⟨h, Nat.le_add_right _ _⟩
theorem jar_ok {v : VV} (hv : okV v) {m : RK} (hk : m.2.1.length = 32) (hkb : Bs m.2.1) {k : CK} {nonces : List (List Int)} : okV (jar v m k nonces).1 ∧ (jar v m k nonces).2.1.length ≤ 8 := by
 unfold jar
 by_cases h8 : nonces.length > 8
 ·rw [if_pos h8]; exact ⟨hv, Nat.zero_le _⟩
 ·rw [if_neg h8]
  have := jarS_ok hk hkb (k := k) nonces v [] hv
  by_cases h0 : (jarS m k v [] nonces).2.2 = 0
  ·rw [if_pos h0]; exact ⟨this.1, Nat.le_trans this.2 (by simp only [List.length_nil]; omega)⟩
  ·rw [if_neg h0]; exact ⟨hv, Nat.zero_le _⟩
theorem makes_true {v : VV} {r : RR} {k : CK} {nonce : List Int} {nonces : List (List Int)} (hv : okV v) (b : RB r) (hk : KOk k) (ho : nonce.length < lim63) (hl : nonces.length < lim63) (hn : ∀ n ∈ nonces, n.length < lim63) :
  pendulumlaw25_CookMakes.run .lim (v, r, k, nonce, nonces, ()) = some true := by
 have hl63 : nonces.length < 9223372036854775808 := hl
 obtain ⟨l, _, e⟩ := good_eq hv b
 simp only [pendulumlaw25_CookMakes.run, e, Option.bind_some, smallN hl63, Bool.or_true, cond_true, awake25]
 cases hg : ((l && fitV v) && fitR r) with
 | false => rfl
 | true =>
  simp only [Bool.and_eq_true] at hg
  by_cases h3 : nonces.length > 30
  ·rw [dec_t (show (nonces.length : Int) > 30 by omega)]; rfl
  ·rw [dec_f (show ¬ (nonces.length : Int) > 30 by omega)]
   have ro := rOk_of hg.2 b
   have hm := lastK_mem ro
   obtain ⟨n, s1, s2⟩ := rcsize_eq k
   have hf := hg.1.2
   have hv2 := mk_ok hv (ro.key _ hm) (ro.kb _ hm) k nonce
   obtain ⟨hv3, hj⟩ := jar_ok hv (ro.key _ hm) (ro.kb _ hm) (k := k) (nonces := nonces)
   have hj' : (jar v (lastK r) k nonces).2.1.length < lim63 := lim_of (by omega)
   simp only [Bool.not_true, Bool.or_self, cond_false, make_eq hv hf ro hk ho, rmake_eq hv hf ro hk ho, jar_eq hv hf ro hk hl hn, rjar_eq hv hf ro hk hl hn, s1, s2, cfit_eq hk, rcfit_eq hk, rsame_eq _ _ hv2 hv2, rsame_eq _ _ hv3 hv3, texts25_eq _ _ hj' hj', Option.bind_some, decide_true, Bool.and_self, cond_true, beq_self_eq_true]
theorem ckmakes_ok : ∀ x, oks [.ag (.pair .bool (.lst (.pair .str (.pair (.lst .str) (.pair .str .str))))), .ag (.pair (.lst (.pair (.int .u32) (.pair .str (.int .i64)))) (.int .u32)), .ag (.pair (.int .i64) (.pair .str .str)), .one .str, .one (.lst .str)] x → pendulumlaw25_CookMakes.run .lim x = some true := by
 intro x h
 match x with
 | (v, r, k, nonce, nonces, ()) =>
  obtain ⟨h1, h2, h4, h5, h6, _⟩ := h
  exact makes_true (ok_v h1) (rB_of h2) (k_B h4).1 (lt63 h5.1) (lt63 h6.1) (fun t ht => lt63 (h6.2 t ht).1)
end Go.AM
end
