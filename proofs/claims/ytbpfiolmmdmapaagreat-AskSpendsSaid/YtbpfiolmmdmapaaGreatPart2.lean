import Derived.Test.YtbpfiolmmdmapaaGreatPart1

/-! The functions that the laws of this seat reach, as plain functions, and what these answer; no condition. -/
set_option linter.unusedSimpArgs false
set_option linter.unusedVariables false
set_option linter.unusedSectionVars false

section
namespace Go.AM
section
variable {ok : Bool} {n dn mu sm four x i t t1 t2 tp tq : Int} {key b tw ta out K was kb T sb bk : List Int} {yb W rn : List (List Int)} {last : Bool}
theorem Uu (hb : b.length = 16) : aj.l7 .lim (0, b, K, tw, key, dn, mu, sm, sb, bk, yb, rn, ()) = some (yA b K, tw, key, dn, mu, sm, sb, bk, yb, rn, ()) := by
 have e := iP (f := aj.l7 .lim) (fun k b => ((k : Int), b, K, tw, key, dn, mu, sm, sb, bk, yb, rn, ())) (fun k v => dX .u8 v (rd 0 K (k : Int))) b hb (fun k hk m' hm hj => by
  rw [aj.q7];simp only [aj.b7, au (show (k : Int) < 16 by omega), aF (show (0 : Int) <= k by omega) (show (k : Int) < 16 by omega), cond_true, oh k (by omega), hj k (Nat.le_refl _), Int.toNat_natCast])
 refine (show _ = _ from e).trans ?_;rw [aj.q7];simp only [aj.b7, aA (show ¬ ((16 : Nat) : Int) < 16 by decide), cond_false];rfl
theorem Rl (hb : DI b) : aj.l8 .lim (0, last, tp, tq, t1, t2, b, key, dn, mu, sm, lq 256, bk, yb, K, rn, tw, ()) = some (last, tp, tq, t1, t2, tab 16 fun i => Aw (rd 0 b (i : Int)), K, rn, tw, key, dn, mu, sm, lq 256, bk, yb, ()) := by
 have e := iP (f := aj.l8 .lim) (fun k b => ((k : Int), last, tp, tq, t1, t2, b, key, dn, mu, sm, lq 256, bk, yb, K, rn, tw, ())) (fun k v => Aw v) b hb.1 (fun k hk m' hm hj => by
  rw [aj.q8];have h := hb.at hk;simp only [aj.b8, au (show (k : Int) < 16 by omega), aF (show (0 : Int) <= k by omega) (show (k : Int) < 16 by omega), cond_true, oh k (by omega), hj k (Nat.le_refl _), aF h.1 h.2, pF h, Int.toNat_natCast])
 refine (show _ = _ from e).trans ?_;rw [aj.q8];simp only [aj.b8, aA (show ¬ ((16 : Nat) : Int) < 16 by decide), cond_false]
theorem Xa (hb : b.length = 16) : aj.l9 .lim (4, 0, last, tp, tq, t1, t2, b, was, K, rn, tw, key, dn, mu, sm, sb, bk, yb, ()) = some (last, tp, tq, t1, t2, tab 16 fun i => rd 0 was (((i + 4 * (i % 4)) % 16 : Nat) : Int), K, rn, tw, key, dn, mu, sm, sb, bk, yb, ()) := by
 have e := iP (f := aj.l9 .lim) (fun k b => (4, (k : Int), last, tp, tq, t1, t2, b, was, K, rn, tw, key, dn, mu, sm, sb, bk, yb, ())) (fun k v => rd 0 was (((k + 4 * (k % 4)) % 16 : Nat) : Int)) b hb (fun k hk m' hm hj => by
  rw [aj.q9];have m1 : ((k : Int)).tmod 4 = ((k % 4 : Nat) : Int) := by rw [Int.tmod_eq_emod_of_nonneg (Int.natCast_nonneg k)]; simp
  have w1 : IntKind.i64.wrap (4 * (k : Int).tmod 4) = ((4 * (k % 4) : Nat) : Int) := by rw [m1, wrap64 (by omega) (by omega)]; omega
  have w2 : IntKind.i64.wrap ((k : Int) + ((4 * (k % 4) : Nat) : Int)) = ((k + 4 * (k % 4) : Nat) : Int) := by rw [wrap64 (by omega) (by omega)]; omega
  have w3 : IntKind.i64.wrap (((k + 4 * (k % 4) : Nat) : Int) + 64) = ((k + 4 * (k % 4) + 64 : Nat) : Int) := by rw [wrap64 (by omega) (by omega)]; omega
  have m2 : (((k + 4 * (k % 4) + 64 : Nat) : Int)).tmod 16 = (((k + 4 * (k % 4)) % 16 : Nat) : Int) := by rw [Int.tmod_eq_emod_of_nonneg (Int.natCast_nonneg _)]; omega
  simp only [aj.b9, au (show (k : Int) < 16 by omega), aF (show (0 : Int) <= k by omega) (show (k : Int) < 16 by omega), cond_true, oh k (by omega), w1, w2, w3, m2, aF (show (0 : Int) <= (((k + 4 * (k % 4)) % 16 : Nat) : Int) by omega) (show (((k + 4 * (k % 4)) % 16 : Nat) : Int) < 16 by omega), Int.toNat_natCast])
 refine (show _ = _ from e).trans ?_;rw [aj.q9];simp only [aj.b9, aA (show ¬ ((16 : Nat) : Int) < 16 by decide), cond_false]
abbrev nY : List Int := [2, 3, 1, 1]
theorem Xb (hw : DI was) {i : Nat} (hi : i < 16) (hb : b.length = 16) (h0 : rd 0 b (i : Int) = 0) : aj.l10 .lim ((i : Int), t, nY, 0, tp, tq, t1, t2, key, dn, mu, sm, sb, bk, bY 256, b, nY, was, K, rn, tw, ()) = some (t, tp, tq, t1, t2, key, dn, mu, sm, sb, bk, bY 256, b.set i (rd 0 (wG was) (i : Int)), nY, was, K, rn, tw, ()) := by
 have h4 : ∀ j : Nat, j < 4 -> IntKind.i64.wrap (IntKind.i64.wrap (IntKind.i64.wrap ((i : Int).tdiv 4) * 4) + (IntKind.i64.wrap ((i : Int) + (j : Int))).tmod 4) = ((i / 4 * 4 + (i + j) % 4 : Nat) : Int) := by
  intro j hj;have d1 : ((i : Int)).tdiv 4 = ((i / 4 : Nat) : Int) := by rw [Int.tdiv_eq_ediv_of_nonneg (Int.natCast_nonneg i)]; simp
  have d2 : IntKind.i64.wrap ((i : Int) + (j : Int)) = ((i + j : Nat) : Int) := by rw [wrap64 (by omega) (by omega)]; omega
  have d3 : (((i + j : Nat) : Int)).tmod 4 = (((i + j) % 4 : Nat) : Int) := by rw [Int.tmod_eq_emod_of_nonneg (Int.natCast_nonneg _)]; simp
  rw [d1, d2, d3, wrap64 (n := ((i / 4 : Nat) : Int)) (by omega) (by omega), wrap64 (n := ((i / 4 : Nat) : Int) * 4) (by omega) (by omega), wrap64 (by omega) (by omega)]; omega
 have hB : ∀ j : Nat, j < 4 -> B8 (rd 0 was ((i / 4 * 4 + (i + j) % 4 : Nat) : Int)) := fun j hj => hw.at (by omega)
 have g0 := h4 0 (by omega); have g1 := h4 1 (by omega); have g2 := h4 2 (by omega); have g3 := h4 3 (by omega);have b0 := hB 0 (by omega); have b1 := hB 1 (by omega); have b2 := hB 2 (by omega); have b3 := hB 3 (by omega);rw [show ((0 : Nat) : Int) = 0 from rfl] at g0;rw [show ((1 : Nat) : Int) = 1 from rfl] at g1;rw [show ((2 : Nat) : Int) = 2 from rfl] at g2;rw [show ((3 : Nat) : Int) = 3 from rfl] at g3;have r0 := (oV b0).2.1; have r1 := (oV b1).2.2; have r2 := (oV b2).1; have r3 := (oV b3).1;have step : ∀ (c : Int) (j j' : Int) (q : Nat) (v : Int) (bb : List Int), bb.length = 16 -> 0 <= j -> j < 4 -> rd 0 nY j = c -> 0 <= c -> c < 16 -> IntKind.i64.wrap (j + 1) = j' -> IntKind.i64.wrap (IntKind.i64.wrap (IntKind.i64.wrap ((i : Int).tdiv 4) * 4) + (IntKind.i64.wrap ((i : Int) + j)).tmod 4) = (q : Int) -> q < 16 -> rd 0 (rd dh (bY 256) c) (rd 0 was (q : Int)) = v -> B8 (rd 0 was (q : Int)) ->
   aj.l10 .lim ((i : Int), t, nY, j, tp, tq, t1, t2, key, dn, mu, sm, sb, bk, bY 256, bb, nY, was, K, rn, tw, ()) = aj.l10 .lim ((i : Int), t, nY, j', tp, tq, t1, t2, key, dn, mu, sm, sb, bk, bY 256, bb.set i (dX .u8 (rd 0 bb (i : Int)) v), nY, was, K, rn, tw, ()) := by
  intro c j j' q v bb hbb h1 h2 h3 h4 h5 h6 h7 h8 h9 h10;rw [aj.q10];simp only [aj.b10, au h2, aF h1 h2, h3, aF h4 h5, h7, aF (show (0 : Int) <= i by omega) (show (i : Int) < 16 by omega), aF (show (0 : Int) <= (q : Int) by omega) (show (q : Int) < 16 by omega), aF h10.1 h10.2, h9, h6, cond_true, Int.toNat_natCast]
 rw [step 2 0 1 _ _ b hb (by omega) (by omega) rfl (by omega) (by omega) rfl g0 (by omega) r0 b0];rw [step 3 1 2 _ _ _ (by simp [hb]) (by omega) (by omega) rfl (by omega) (by omega) rfl g1 (by omega) r1 b1];rw [step 1 2 3 _ _ _ (by simp [hb]) (by omega) (by omega) rfl (by omega) (by omega) rfl g2 (by omega) r2 b2];rw [step 1 3 4 _ _ _ (by simp [hb]) (by omega) (by omega) rfl (by omega) (by omega) rfl g3 (by omega) r3 b3];rw [aj.q10];simp only [aj.b10, aA (show ¬ (4 : Int) < 4 by omega), cond_false];have hl : ∀ v, i < (b.set i v).length := fun v => by simp [hb]; omega
 simp only [zo (show i < b.length by omega), zo (hl _), List.set_set, h0];unfold wG;rw [qL hi];simp only [Nat.add_zero]
theorem YL (hw : DI was) (hb : b.length = 16) : aj.Q9 .lim (0, tp, tq, t1, t2, key, dn, mu, sm, sb, bk, bY 256, b, nY, was, K, rn, tw, ()) = some (tp, tq, t1, t2, wG was, K, rn, tw, key, dn, mu, sm, sb, bk, bY 256, ()) := by
 have e := iP (f := aj.Q9 .lim) (fun k b => ((k : Int), tp, tq, t1, t2, key, dn, mu, sm, sb, bk, bY 256, b, nY, was, K, rn, tw, ())) (fun k v => rd 0 (wG was) (k : Int)) b hb (fun k hk m' hm hj => by
  rw [aj.q11];have hm := fun h0 => Xb (tp := tp) (tq := tq) (t1 := t1) (t2 := t2) (key := key) (dn := dn) (mu := mu) (sm := sm) (sb := sb) (bk := bk) (K := K) (rn := rn) (tw := tw) (t := (k : Int))  hw (b := m'.set k 0) hk (by simp [hm]) h0
  simp only [aj.b11, au (show (k : Int) < 16 by omega), aF (show (0 : Int) <= k by omega) (show (k : Int) < 16 by omega), cond_true, Int.toNat_natCast];rw [hm (zo (by omega))];simp only [Option.bind_some, oh k (by omega), List.set_set])
 refine (show _ = _ from e).trans ?_;rw [aj.q11];simp only [aj.b11, aA (show ¬ ((16 : Nat) : Int) < 16 by decide), cond_false];have : (tab 16 fun i => rd 0 (wG was) (i : Int)) = wG was := (Hy jm).symm;rw [this]
theorem Rn (hb : b.length = 16) : aj.l12 .lim (0, tp, tq, t1, t2, b, K, rn, tw, key, dn, mu, sm, sb, bk, yb, ()) = some (tp, tq, t1, t2, rn, yA b K, tw, key, dn, mu, sm, sb, bk, yb, ()) := by
 have e := iP (f := aj.l12 .lim) (fun k b => ((k : Int), tp, tq, t1, t2, b, K, rn, tw, key, dn, mu, sm, sb, bk, yb, ())) (fun k v => dX .u8 v (rd 0 K (k : Int))) b hb (fun k hk m' hm hj => by
  rw [aj.q12];simp only [aj.b12, au (show (k : Int) < 16 by omega), aF (show (0 : Int) <= k by omega) (show (k : Int) < 16 by omega), cond_true, oh k (by omega), hj k (Nat.le_refl _), Int.toNat_natCast])
 refine (show _ = _ from e).trans ?_;rw [aj.q12];simp only [aj.b12, aA (show ¬ ((16 : Nat) : Int) < 16 by decide), cond_false];rfl
theorem Uw (b : List Int) : (tab 16 fun i => rd 0 (tab 16 fun i => Aw (rd 0 b (i : Int))) (((i + 4 * (i % 4)) % 16 : Nat) : Int)) = ug b := jg fun k hk => by rw [qL (by omega)]
theorem LG (hb : DI b) : DI (ug b) := ⟨jm, FH fun k hk => NT (hb.at (by omega))⟩
theorem YM {r : Nat} (hW : Words W) (hl : W.length = 4 * (r + 1)) (hr : r <= 100) (hr0 : 0 < r) (hb : b.length = 16) :
  aj.Ls .lim (1, ((r : Nat) : Int), ((r : Nat) : Int), 0, eH W, uh W b 0, tw, key, dn, mu, sm, lq 256, bk, bY 256, ()) = some (uh W b r, tw, key, dn, mu, sm, lq 256, bk, bY 256, eH W, ()) := by
 have hn : (eH W).length = r + 1 := by unfold eH; simp; omega
 have e := dI (f := aj.Ls .lim) (fun k => (1, (r : Int), (r : Int), (k : Int), eH W, uh W b k, tw, key, dn, mu, sm, lq 256, bk, bY 256, ())) (n := r) (fun k hk => by
  rw [aj.q13];have hB := H8 W b k;have hK : rd FD (eH W) (1 + (k : Int)) = qP W (k + 1) := by
   rw [show (1 + (k : Int)) = ((k + 1 : Nat) : Int) by omega, kN (by omega)];unfold eH; simp
  have w1 : IntKind.i64.wrap (((eH W).length : Int) - 2) = (r : Int) - 1 := by rw [wrap64 (by omega) (by omega)]; omega
  have hlast : decide ((k : Int) = (r : Int) - 1) = decide (k + 2 = W.length / 4) := by
   by_cases h : k + 1 = r
   ·rw [au (by omega), au (by omega)]
   ·rw [aA (by omega), aA (by omega)]
  simp only [aj.b13, au (show (k : Int) < (r : Int) by omega), aF (show (0 : Int) <= k by omega) (show (k : Int) < (r : Int) by omega), aN (show ((eH W).length : Int) < 9223372036854775808 by omega), cond_true, hK, w1, hlast, Rl hB, Option.bind_some];rw [Xa jm];simp only [Option.bind_some, Uw];have hs := LG hB;have hc : ((((List.replicate 4 (0 : Int)).set 0 2).set 1 3).set 2 1).set 3 1 = nY := rfl;show _ = aj.Ls .lim (1, (r : Int), (r : Int), ((k + 1 : Nat) : Int), eH W, Rh (decide (k + 2 = W.length / 4)) (uh W b k) (qP W (k + 1)), tw, key, dn, mu, sm, lq 256, bk, bY 256, ());unfold Rh;cases decide (k + 2 = W.length / 4) with
  | true =>
   simp only [Bool.not_true, cond_false, cond_true];rw [Rn hs.1];simp only [Option.bind_some, oh k (by omega)]
  | false =>
   simp only [Bool.not_false, cond_false, cond_true, hc];rw [YL hs hs.1];simp only [Option.bind_some];have hml : (wG (ug (uh W b k))).length = 16 := jm;rw [Rn hml];simp only [Option.bind_some, oh k (by omega)])
 refine (show _ = _ from e).trans ?_;rw [aj.q13];simp only [aj.b13, aA (show ¬ (r : Int) < (r : Int) by omega), cond_false]
end
end Go.AM
end
section
namespace Go.AM
section
variable {ok : Bool} {n dn mu sm four x i t t1 t2 tp tq : Int} {key b tw ta out K was kb T sb bk : List Int} {yb W rn : List (List Int)} {last : Bool}
theorem Xc {r : Nat} (hW : Words W) (hl : W.length = 4 * (r + 1)) (hr : r <= 100) (hr0 : 0 < r) (hb : b.length = 16) {β : Type} {Q : _ -> Option β} :
  (bif inB 0 ((eH W).length : Int) then
   ((aj.l7 .lim (0, b, rd FD (eH W) 0, tw, key, dn, mu, sm, lq 256, bk, bY 256, eH W, ())).bind fun (b, tw, key, dn, mu, sm, sb, bk, yb, rn, ()) =>
    bif eX 1 (rn.length : Int) (rn.length : Int) then bif ay ((rn.length : Int) - 1) then (aj.Ls .lim (1, ((rn.length : Int) - 1), ((rn.length : Int) - 1), 0, rn, b, tw, key, dn, mu, sm, sb, bk, yb, ())).bind Q else none else none) else none) = Q (uh W b r, tw, key, dn, mu, sm, lq 256, bk, bY 256, eH W, ()) := by
 have hn : (eH W).length = r + 1 := by unfold eH; simp; omega
 have h0 : rd FD (eH W) 0 = qP W 0 := by
  have := kN (d := FD) (show 0 < (eH W).length by omega);rw [show ((0 : Nat) : Int) = 0 from rfl] at this;rw [this]; unfold eH; simp
 rw [cond_pos (aF (by omega) (by omega)), h0, Uu hb];simp only [Option.bind_some];rw [cond_pos (aY (by omega) (by omega) (by omega)), cond_pos (aN (by omega)), show ((eH W).length : Int) - 1 = (r : Int) by omega];have := YM (tw := tw) (key := key) (dn := dn) (mu := mu) (sm := sm) (bk := bk)  hW hl hr hr0 hb;rw [show uh W b 0 = yA b (qP W 0) from rfl] at this;rw [this];rfl
theorem Ux (hk : key.length = 16 \/ key.length = 32) (hkb : ∀ x ∈ key, B8 x) (hb : b.length = 16) :
  aj.Jz .lim (b, key, 0, 0, sm, dh, dh, List.replicate 16 dh, ()) = some (encS key b, ()) := by
 have h0 : aj.Jz .lim (b, key, 0, 0, sm, dh, dh, List.replicate 16 dh, ()) = aj.b14 .lim (aj.Jz .lim) (b, key, 0, 0, sm, dh, dh, List.replicate 16 dh, ()) := aj.Ze _;rw [h0];have hr := Ut (sm := sm) (key := key) (b := b) (tw := FD)  hk hkb;have hW := yx key hkb;have hl : (kY key).length = 4 * ((key.length / 4 + 6) + 1) := by rw [uf]; omega
 have hq : (kY key).length / 4 - 1 = key.length / 4 + 6 := by omega
 unfold aj.b14;simp only [hr, Option.bind_some];refine (Xc (Q := fun (b, tw, key, dn, mu, sm, sb, bk, yb, rn, ()) => some (b, ())) hW hl (by omega) (by omega) hb).trans ?_;unfold encS;rw [hq]
end
end Go.AM
end
section
namespace Go.AM
section
variable {ok : Bool} {n dn mu sm four nk x i t t1 t2 tp tq : Int} {key b tw ta out K was kb T sb bk : List Int} {yb W rn : List (List Int)} {last : Bool}
theorem YN (i : Nat) (hi : i < 256) : ah.l0 .lim ((i : Int), t, 7, 0, ok, n, key, dn, mu, sm, sb, bk, yb, kL, b, tw, ta, out, rn, ()) = some (t, ok, n, key, dn, mu, sm, sb, bk, Ad i yb 7, b, tw, ta, out, rn, ()) := by
 have e := dI (f := ah.l0 .lim) (fun k => ((i : Int), t, 7, (k : Int), ok, n, key, dn, mu, sm, sb, bk, Ad i yb k, kL, b, tw, ta, out, rn, ())) (n := 7) (fun k hk => by
  rw [ah.q0];obtain ⟨h1, h2⟩ := VH k hk;have hB : B8 (rd 0 kL (k : Int)) := ⟨h1, by omega⟩;have Ph : B8 (i : Int) := ⟨by omega, by omega⟩;simp only [ah.b0, au (show (k : Int) < 7 by omega), aF (show (0 : Int) <= k by omega) (show (k : Int) < (kL.length : Int) from show (k : Int) < 7 by omega), pX Ph, ny Ph hB, Option.bind_some, aF h1 (show rd 0 kL (k : Int) < 16 from h2), aF (show (0 : Int) <= i by omega) (show (i : Int) < 256 by omega), cond_true, oh k (by omega), Int.toNat_natCast];rfl)
 refine e.trans ?_;rw [ah.q0];simp only [ah.b0, aA (show ¬ ((7 : Nat) : Int) < 7 by decide), cond_false]
theorem Ro : ah.l1 .lim (0, ok, n, key, dn, mu, sm, dh, dh, List.replicate 16 dh, b, tw, ta, out, rn, ()) = some (ok, n, key, dn, mu, sm, lq 256, zu 256, bY 256, b, tw, ta, out, rn, ()) := by
 have e := dI (f := ah.l1 .lim) (fun k => ((k : Int), ok, n, key, dn, mu, sm, lq k, zu k, bY k, b, tw, ta, out, rn, ())) (n := 256) (fun k hk => by
  rw [ah.q1];have Ph : B8 (k : Int) := ⟨by omega, by omega⟩;have hs := NT Ph;have hm := fun sb bk => YN (ok := ok) (key := key) (dn := dn) (mu := mu) (sm := sm) (sb := sb) (bk := bk) (yb := bY k) (b := b) (tw := tw) (t := (k : Int)) (n := n) (ta := ta) (out := out) (rn := rn) k hk
  simp only [ah.b1, au (show (k : Int) < 256 by omega), pX Ph, NS Ph, Option.bind_some, aF (show (0 : Int) <= k by omega) (show (k : Int) < 256 by omega), aF hs.1 hs.2, cond_true, show ((([1, 2, 3, 9, 11, 13, 14] : List Int).length : Nat) : Int) = 7 from rfl, aN (show (7 : Int) < 9223372036854775808 by omega), hm, oh k (by omega), NU];rw [show (lq k).set ((k : Int)).toNat (Aw k) = lq (k + 1) from DC rfl];rfl)
 rw [show lq 0 = dh from zn, DF, show zu 0 = dh from rfl, show ((0 : Nat) : Int) = 0 from rfl] at e;refine e.trans ?_;rw [ah.q1];simp only [ah.b1, aA (show ¬ ((256 : Nat) : Int) < 256 by decide), cond_false]
theorem Uy {q : Nat} (hk : kb.length = 4 * q) (hq : q <= 100) : ah.l2 .lim (0, nk, ok, n, 4, key, dn, mu, sm, sb, bk, yb, b, tw, ta, out, kb, [], rn, ()) = some (nk, ok, n, key, dn, mu, sm, sb, bk, yb, b, tw, ta, out, (List.range q).map (word kb), rn, ()) := by
 have e := dI (f := ah.l2 .lim) (fun k => (((4 * k : Nat) : Int), nk, ok, n, 4, key, dn, mu, sm, sb, bk, yb, b, tw, ta, out, kb, (List.range k).map (word kb), rn, ())) (n := q) (fun k hkq => by
  rw [ah.q2];have w1 : IntKind.i64.wrap (((4 * k : Nat) : Int) + 4) = ((4 * k + 4 : Nat) : Int) := by rw [wrap64 (by omega) (by omega)]; omega
  have w2 : mn 4 ((kb.length : Int) - ((4 * k : Nat) : Int)) = 4 := by rw [dR]; omega
  have w3 : (cut kb ((4 * k : Nat) : Int) ((4 * k + 4 : Nat) : Int)).length = 4 := by rw [uS, List.length_take, List.length_drop]; omega
  have w4 : (Nat.ble 1 4 && Nat.ble 4 (cut kb ((4 * k : Nat) : Int) ((4 * k + 4 : Nat) : Int)).length) = true := by rw [w3]; rfl
  simp only [ah.b2, aN (show (kb.length : Int) < 9223372036854775808 by omega), au (show ((4 * k : Nat) : Int) < (kb.length : Int) by omega), aY (show (0 : Int) <= ((4 * k : Nat) : Int) by omega) (show ((4 * k : Nat) : Int) <= (kb.length : Int) by omega) (Int.le_refl _), aN (show (kb.length : Int) - ((4 * k : Nat) : Int) < 9223372036854775808 by omega), w2, w1, aY (show (0 : Int) <= ((4 * k : Nat) : Int) by omega) (show ((4 * k : Nat) : Int) <= ((4 * k + 4 : Nat) : Int) by omega) (Int.le_refl _), au (show ((4 * k + 4 : Nat) : Int) <= (kb.length : Int) by omega), Bool.and_self, w4, cond_true];rw [cond_pos (by simp; omega), JB (by omega)];simp only [List.range_succ, List.map_append, List.map_cons, List.map_nil];rfl)
 refine e.trans ?_;rw [ah.q2];simp only [ah.b2, aN (show (kb.length : Int) < 9223372036854775808 by omega), aA (show ¬ ((4 * q : Nat) : Int) < (kb.length : Int) by omega), cond_true, cond_false]
theorem YO (hW : Words W) {i nk : Nat} (h1 : nk <= i) (h2 : i <= W.length) (h3 : 0 < nk) (h4 : i < 1000) (hT : T.length = 4) : ah.l3 .lim ((nk : Int), x, (i : Int), 0, ok, n, T, key, dn, mu, sm, sb, bk, yb, b, tw, ta, out, W, rn, ()) = some ((nk : Int), x, (i : Int), ok, n, Pg T (rd z4 W ((i - nk : Nat) : Int)), key, dn, mu, sm, sb, bk, yb, b, tw, ta, out, W, rn, ()) := by
 have w : IntKind.i64.wrap ((i : Int) - (nk : Int)) = ((i - nk : Nat) : Int) := by rw [wrap64 (by omega) (by omega)]; omega
 have e := iP (f := ah.l3 .lim) (fun k T => ((nk : Int), x, (i : Int), (k : Int), ok, n, T, key, dn, mu, sm, sb, bk, yb, b, tw, ta, out, W, rn, ())) (fun k v => dX .u8 v (rd 0 (rd z4 W ((i - nk : Nat) : Int)) (k : Int))) T hT (fun k hk m' hm hj => by
  rw [ah.q3];simp only [ah.b3, au (show (k : Int) < 4 by omega), aF (show (0 : Int) <= k by omega) (show (k : Int) < 4 by omega), w, aF (show (0 : Int) <= ((i - nk : Nat) : Int) by omega) (show ((i - nk : Nat) : Int) < (W.length : Int) by omega), cond_true, oh k (by omega), hj k (Nat.le_refl _), Int.toNat_natCast])
 refine e.trans ?_;rw [ah.q3];simp only [ah.b3, aA (show ¬ ((4 : Nat) : Int) < 4 by decide), cond_false];rfl
end
end Go.AM
end
section
namespace Go.AM
section
variable {ok : Bool} {n dn mu sm four x i t t1 t2 tp tq : Int} {key b tw ta out K was kb T sb bk : List Int} {yb W rn : List (List Int)} {last : Bool}
theorem Xd (a b c d : Int) : ((((List.replicate 4 (0 : Int)).set 0 a).set 1 b).set 2 c).set 3 d = [a, b, c, d] := rfl
theorem Uz {nk : Nat} (hn : nk = 4 \/ nk = 8) (hk : 4 * nk <= kb.length) (hb : ∀ x ∈ kb, B8 x) :
  ah.l4 .lim ((nk : Int), 1, (nk : Int), ok, n, key, dn, mu, sm, lq 256, bk, yb, b, tw, ta, out, (List.range nk).map (word kb), rn, ()) = some (ok, n, key, dn, mu, sm, lq 256, bk, yb, b, tw, ta, out, (sched nk kb (3 * nk + 28)).1, rn, ()) := by
 have e := dI (f := ah.l4 .lim) (fun k => ((nk : Int), (sched nk kb k).2, ((nk + k : Nat) : Int), ok, n, key, dn, mu, sm, lq 256, bk, yb, b, tw, ta, out, (sched nk kb k).1, rn, ())) (n := 3 * nk + 28) (fun k hkq => by
  rw [ah.q4];obtain ⟨hW, hx⟩ := yw nk kb hk hb k;have hl := uK nk kb k;have hs : sched nk kb (k + 1) = stepW nk (sched nk kb k) := rfl;rw [hs];unfold stepW;generalize hq : sched nk kb k = q at hW hx hl;obtain ⟨W, x⟩ := q;simp only at hW hx hl ⊢
  have hi0 : nk + k < 1000 := by omega
  generalize hi : nk + k = i at hl hi0;have hw := hW.at (show i - 1 < W.length by omega);have hb0 := hW.byte (show i - 1 < W.length by omega) (j := 0) (by omega) (by omega);have hb1 := hW.byte (show i - 1 < W.length by omega) (j := 1) (by omega) (by omega);have hb2 := hW.byte (show i - 1 < W.length by omega) (j := 2) (by omega) (by omega);have hb3 := hW.byte (show i - 1 < W.length by omega) (j := 3) (by omega) (by omega);have w1 : IntKind.i64.wrap (4 * IntKind.i64.wrap ((nk : Int) + 7)) = ((4 * nk + 28 : Nat) : Int) := by rw [wrap64 (n := (nk : Int) + 7) (by omega) (by omega), wrap64 (by omega) (by omega)]; omega
  have w2 : IntKind.i64.wrap ((i : Int) - 1) = ((i - 1 : Nat) : Int) := by rw [wrap64 (by omega) (by omega)]; omega
  have m1 : ((i : Int)).tmod (nk : Int) = ((i % nk : Nat) : Int) := by rw [Int.tmod_eq_emod_of_nonneg (Int.natCast_nonneg i)]; simp
  have m2 : ((i : Int)).tmod 8 = ((i % 8 : Nat) : Int) := by rw [Int.tmod_eq_emod_of_nonneg (Int.natCast_nonneg i)]; simp
  have LD := fun x T hT => YO (ok := ok) (key := key) (dn := dn) (mu := mu) (sm := sm) (sb := lq 256) (bk := bk) (yb := yb) (b := b) (tw := tw) (x := x) (T := T) (n := n) (ta := ta) (out := out) (rn := rn) hW (i := i) (nk := nk) (by omega) (by omega) (by omega) (by omega) hT
  have cap : ∀ T : List Int, decide (W.length + ([T] : List (List Int)).length < 17592186044416) = true := fun T => au (by simp; omega)
  simp only [ah.b4, w1, au (show (i : Int) < ((4 * nk + 28 : Nat) : Int) by omega), w2, aF (show (0 : Int) <= ((i - 1 : Nat) : Int) by omega) (show ((i - 1 : Nat) : Int) < (W.length : Int) by omega), aA (show ¬ (nk : Int) = 0 by omega), m1, m2, cond_true, Bool.not_false, aF hb0.1 hb0.2, aF hb1.1 hb1.2, aF hb2.1 hb2.2, aF hb3.1 hb3.2, pF hb0, pF hb1, pF hb2, pF hb3, Xd, Bool.or_true];rw [hl];unfold Rf;by_cases c1 : i % nk = 0
  ·rw [au (show ((i % nk : Nat) : Int) = 0 by omega), if_pos c1, if_pos c1];simp only [cond_true, ny hx (show B8 2 from ⟨by decide, by decide⟩), Option.bind_some];rw [LD _ _ rfl];simp only [Option.bind_some];rw [cond_pos (by simp; omega), oh i (by omega)];rw [show i + 1 = nk + (k + 1) by omega]
  ·rw [aA (show ¬ ((i % nk : Nat) : Int) = 0 by omega), if_neg c1, if_neg c1];simp only [cond_false];by_cases c2 : nk = 8 /\ i % 8 = 4
   ·rw [au (show (nk : Int) = 8 by omega), au (show ((i % 8 : Nat) : Int) = 4 by omega), if_pos c2];simp only [Bool.and_self, cond_true];rw [LD _ _ rfl];simp only [Option.bind_some];rw [cond_pos (by simp; omega), oh i (by omega)];rw [show i + 1 = nk + (k + 1) by omega]
   ·have : (decide ((nk : Int) = 8) && decide (((i % 8 : Nat) : Int) = 4)) = false := by
     by_cases c3 : nk = 8
     ·rw [aA (show ¬ ((i % 8 : Nat) : Int) = 4 by omega), Bool.and_false]
     ·rw [aA (show ¬ (nk : Int) = 8 by omega), Bool.false_and]
    rw [this, if_neg c2];simp only [cond_false];rw [LD _ _ hw.1];simp only [Option.bind_some];rw [cond_pos (by simp; omega), oh i (by omega), <- list4 hw.1];rw [show i + 1 = nk + (k + 1) by omega])
 refine (show _ = _ from e).trans ?_;rw [ah.q4];have w1 : IntKind.i64.wrap (4 * IntKind.i64.wrap ((nk : Int) + 7)) = ((4 * nk + 28 : Nat) : Int) := by rw [wrap64 (n := (nk : Int) + 7) (by omega) (by omega), wrap64 (by omega) (by omega)]; omega
 simp only [ah.b4, w1, aA (show ¬ ((nk + (3 * nk + 28) : Nat) : Int) < ((4 * nk + 28 : Nat) : Int) by omega), cond_false]
end
end Go.AM
end
section
namespace Go.AM
section
variable {ok : Bool} {n dn mu sm four x i t t1 t2 tp tq : Int} {key b tw ta out K was kb T sb bk : List Int} {yb W rn : List (List Int)} {last : Bool}
theorem Rq {q : Nat} (hW : Words W) (hl : W.length = 4 * q) (hq : q <= 100) : ah.l5 .lim (0, ok, n, 4, key, dn, mu, sm, sb, bk, yb, b, tw, ta, out, W, [], ()) = some (ok, n, key, dn, mu, sm, sb, bk, yb, b, tw, ta, out, eH W, ()) := by
 have e := dI (f := ah.l5 .lim) (fun k => (((4 * k : Nat) : Int), ok, n, 4, key, dn, mu, sm, sb, bk, yb, b, tw, ta, out, W, (List.range k).map (qP W), ())) (n := q) (fun k hkq => by
  rw [ah.q5];have w1 : IntKind.i64.wrap (((4 * k : Nat) : Int) + 4) = ((4 * k + 4 : Nat) : Int) := by rw [wrap64 (by omega) (by omega)]; omega
  have w2 : mn 4 ((W.length : Int) - ((4 * k : Nat) : Int)) = 4 := by rw [dR]; omega
  have w3 : (cut W ((4 * k : Nat) : Int) ((4 * k + 4 : Nat) : Int)).length = 4 := by rw [uS, List.length_take, List.length_drop]; omega
  have at_ : ∀ j : Nat, j < 4 -> rd z4 (cut W ((4 * k : Nat) : Int) ((4 * k + 4 : Nat) : Int)) (j : Int) = rd z4 W ((4 * k + j : Nat) : Int) := fun j hj => by
   rw [uS];unfold rd;rw [Int.toNat_natCast, Int.toNat_natCast, List.getD_eq_getElem?_getD, List.getD_eq_getElem?_getD, List.getElem?_take_of_lt (by omega), List.getElem?_drop]
  have a0 : rd z4 (cut W ((4 * k : Nat) : Int) ((4 * k + 4 : Nat) : Int)) 0 = rd z4 W ((4 * k : Nat) : Int) := at_ 0 (by omega);have a1 : rd z4 (cut W ((4 * k : Nat) : Int) ((4 * k + 4 : Nat) : Int)) 1 = rd z4 W ((4 * k + 1 : Nat) : Int) := at_ 1 (by omega);have a2 : rd z4 (cut W ((4 * k : Nat) : Int) ((4 * k + 4 : Nat) : Int)) 2 = rd z4 W ((4 * k + 2 : Nat) : Int) := at_ 2 (by omega);have a3 : rd z4 (cut W ((4 * k : Nat) : Int) ((4 * k + 4 : Nat) : Int)) 3 = rd z4 W ((4 * k + 3 : Nat) : Int) := at_ 3 (by omega);have c4 : ∀ l : List Int, l.length = 4 -> cut l 0 4 = l := fun l hl => by
   have := uS l 0 4;rw [show ((0 : Nat) : Int) = 0 from rfl, show ((4 : Nat) : Int) = 4 from rfl] at this;rw [this, List.drop_zero, List.take_of_length_le (by omega)]
  have l0 := (hW.at (show 4 * k < W.length by omega)).1;have l1 := (hW.at (show 4 * k + 1 < W.length by omega)).1;have l2 := (hW.at (show 4 * k + 2 < W.length by omega)).1;have l3 := (hW.at (show 4 * k + 3 < W.length by omega)).1;have hfl : [rd z4 W ((4 * k : Nat) : Int), rd z4 W ((4 * k + 1 : Nat) : Int), rd z4 W ((4 * k + 2 : Nat) : Int), rd z4 W ((4 * k + 3 : Nat) : Int)].flatten = qP W k := by simp [qP]
  have hrl := JC hW (j := k) (by omega);have qA := FK [rd z4 W ((4 * k : Nat) : Int), rd z4 W ((4 * k + 1 : Nat) : Int), rd z4 W ((4 * k + 2 : Nat) : Int), rd z4 W ((4 * k + 3 : Nat) : Int)] (by rw [hfl, hrl]; omega) (by simp);rw [hfl] at qA;simp only [ah.b5, aN (show (W.length : Int) < 9223372036854775808 by omega), au (show ((4 * k : Nat) : Int) < (W.length : Int) by omega), aY (show (0 : Int) <= ((4 * k : Nat) : Int) by omega) (show ((4 * k : Nat) : Int) <= (W.length : Int) by omega) (Int.le_refl _), aN (show (W.length : Int) - ((4 * k : Nat) : Int) < 9223372036854775808 by omega), w2, w1, aY (show (0 : Int) <= ((4 * k : Nat) : Int) by omega) (show ((4 * k : Nat) : Int) <= ((4 * k + 4 : Nat) : Int) by omega) (Int.le_refl _), au (show ((4 * k + 4 : Nat) : Int) <= (W.length : Int) by omega), Bool.and_self, w3, cond_true, aF (show (0 : Int) <= 0 by omega) (show (0 : Int) < ((4 : Nat) : Int) by decide), aF (show (0 : Int) <= 1 by omega) (show (1 : Int) < ((4 : Nat) : Int) by decide), aF (show (0 : Int) <= 2 by omega) (show (2 : Int) < ((4 : Nat) : Int) by decide), aF (show (0 : Int) <= 3 by omega) (show (3 : Int) < ((4 : Nat) : Int) by decide), a0, a1, a2, a3, c4 _ l0, c4 _ l1, c4 _ l2, c4 _ l3, qA, Option.bind_some, hrl, List.take_of_length_le (Nat.le_of_eq hrl)];rw [show (Nat.ble 1 16 && Nat.ble 16 16) = true from rfl, cond_true, cond_pos (by simp; omega)];simp only [List.range_succ, List.map_append, List.map_cons, List.map_nil];rfl)
 refine (show _ = _ from e).trans ?_;rw [ah.q5];simp only [ah.b5, aN (show (W.length : Int) < 9223372036854775808 by omega), aA (show ¬ ((4 * q : Nat) : Int) < (W.length : Int) by omega), cond_true, cond_false];unfold eH;rw [hl, Nat.mul_div_cancel_left _ (by omega)]
theorem UA (hk : key.length = 16 \/ key.length = 32) (hb : ∀ x ∈ key, B8 x) : ah.l6 .lim (n, key, 0, 0, sm, dh, dh, List.replicate 16 dh, b, tw, ta, out, [], ()) = some (n, b, tw, key, 1, 0, sm, lq 256, zu 256, bY 256, ta, out, eH (kY key), ()) := by
 have h0 : ah.l6 .lim (n, key, 0, 0, sm, dh, dh, List.replicate 16 dh, b, tw, ta, out, [], ()) = ah.b6 .lim (ah.l6 .lim) (n, key, 0, 0, sm, dh, dh, List.replicate 16 dh, b, tw, ta, out, [], ()) := ah.q6 _;rw [h0];have hd : (key.length : Int).tdiv 4 = ((key.length / 4 : Nat) : Int) := by rw [Int.tdiv_eq_ediv_of_nonneg (Int.natCast_nonneg _)]; simp
 have w1 : IntKind.i64.wrap ((key.length : Int).tdiv 4) = ((key.length / 4 : Nat) : Int) := by rw [hd, wrap64 (by omega) (by omega)]
 have t := Ro (ok := true) (key := key) (dn := 0) (mu := 1) (sm := sm) (b := b) (tw := tw) (n := n) (ta := ta) (out := out) (rn := []);have s := Uy (kb := key) (q := key.length / 4) (nk := ((key.length / 4 : Nat) : Int)) (ok := true) (key := key) (dn := 0) (mu := 1) (sm := sm) (sb := lq 256) (bk := zu 256) (yb := bY 256) (b := b) (tw := tw) (n := n) (ta := ta) (out := out) (rn := []) (by omega) (by omega);have w := Uz (kb := key) (nk := key.length / 4) (ok := true) (key := key) (dn := 0) (mu := 1) (sm := sm) (bk := zu 256) (yb := bY 256) (b := b) (tw := tw) (n := n) (ta := ta) (out := out) (rn := []) (by omega) (by omega) hb;have r := Rq (W := kY key) (q := key.length / 4 + 7) (ok := true) (key := key) (dn := 0) (mu := 1) (sm := sm) (sb := lq 256) (bk := zu 256) (yb := bY 256) (b := b) (tw := tw) (n := n) (ta := ta) (out := out) (yx key hb) (by rw [uf]; omega) (by omega);have hs : fQ.run .lim (true, ()) = some 1 := rfl;have hw : (sched (key.length / 4) key (3 * (key.length / 4) + 28)).1 = kY key := rfl;simp only [ah.b6, decide_true, Bool.not_true, Bool.not_false, cond_true, t, Option.bind_some, aN (show (key.length : Int) < 9223372036854775808 by omega), w1];rw [s];simp only [Option.bind_some];rw [w];simp only [Option.bind_some];rw [hw, r];simp only [Option.bind_some, hs, show IntKind.i32.wrap (1 + -1) = 0 from by decide, decide_true, Bool.not_true, cond_false]
end
end Go.AM
end
section
namespace Go.AM
section
variable {ok : Bool} {n dn mu sm four x i t t1 t2 tp tq : Int} {key b tw ta out K was kb T sb bk : List Int} {yb W rn : List (List Int)} {last : Bool}
theorem UC (hb : b.length = 16) : ah.l7 .lim (0, n, b, K, tw, key, dn, mu, sm, sb, bk, yb, ta, out, rn, ()) = some (n, yA b K, tw, key, dn, mu, sm, sb, bk, yb, ta, out, rn, ()) := by
 have e := iP (f := ah.l7 .lim) (fun k b => ((k : Int), n, b, K, tw, key, dn, mu, sm, sb, bk, yb, ta, out, rn, ())) (fun k v => dX .u8 v (rd 0 K (k : Int))) b hb (fun k hk m' hm hj => by
  rw [ah.q7];simp only [ah.b7, au (show (k : Int) < 16 by omega), aF (show (0 : Int) <= k by omega) (show (k : Int) < 16 by omega), cond_true, oh k (by omega), hj k (Nat.le_refl _), Int.toNat_natCast])
 refine (show _ = _ from e).trans ?_;rw [ah.q7];simp only [ah.b7, aA (show ¬ ((16 : Nat) : Int) < 16 by decide), cond_false];rfl
theorem Rt (hb : DI b) : ah.l8 .lim (0, last, tp, tq, t1, t2, n, b, key, dn, mu, sm, lq 256, bk, yb, K, rn, tw, ta, out, ()) = some (last, tp, tq, t1, t2, n, tab 16 fun i => Aw (rd 0 b (i : Int)), K, rn, tw, key, dn, mu, sm, lq 256, bk, yb, ta, out, ()) := by
 have e := iP (f := ah.l8 .lim) (fun k b => ((k : Int), last, tp, tq, t1, t2, n, b, key, dn, mu, sm, lq 256, bk, yb, K, rn, tw, ta, out, ())) (fun k v => Aw v) b hb.1 (fun k hk m' hm hj => by
  rw [ah.q8];have h := hb.at hk;simp only [ah.b8, au (show (k : Int) < 16 by omega), aF (show (0 : Int) <= k by omega) (show (k : Int) < 16 by omega), cond_true, oh k (by omega), hj k (Nat.le_refl _), aF h.1 h.2, pF h, Int.toNat_natCast])
 refine (show _ = _ from e).trans ?_;rw [ah.q8];simp only [ah.b8, aA (show ¬ ((16 : Nat) : Int) < 16 by decide), cond_false]
theorem Xe (hb : b.length = 16) : ah.l9 .lim (4, 0, last, tp, tq, t1, t2, n, b, was, K, rn, tw, key, dn, mu, sm, sb, bk, yb, ta, out, ()) = some (last, tp, tq, t1, t2, n, tab 16 fun i => rd 0 was (((i + 4 * (i % 4)) % 16 : Nat) : Int), K, rn, tw, key, dn, mu, sm, sb, bk, yb, ta, out, ()) := by
 have e := iP (f := ah.l9 .lim) (fun k b => (4, (k : Int), last, tp, tq, t1, t2, n, b, was, K, rn, tw, key, dn, mu, sm, sb, bk, yb, ta, out, ())) (fun k v => rd 0 was (((k + 4 * (k % 4)) % 16 : Nat) : Int)) b hb (fun k hk m' hm hj => by
  rw [ah.q9];have m1 : ((k : Int)).tmod 4 = ((k % 4 : Nat) : Int) := by rw [Int.tmod_eq_emod_of_nonneg (Int.natCast_nonneg k)]; simp
  have w1 : IntKind.i64.wrap (4 * (k : Int).tmod 4) = ((4 * (k % 4) : Nat) : Int) := by rw [m1, wrap64 (by omega) (by omega)]; omega
  have w2 : IntKind.i64.wrap ((k : Int) + ((4 * (k % 4) : Nat) : Int)) = ((k + 4 * (k % 4) : Nat) : Int) := by rw [wrap64 (by omega) (by omega)]; omega
  have w3 : IntKind.i64.wrap (((k + 4 * (k % 4) : Nat) : Int) + 64) = ((k + 4 * (k % 4) + 64 : Nat) : Int) := by rw [wrap64 (by omega) (by omega)]; omega
  have m2 : (((k + 4 * (k % 4) + 64 : Nat) : Int)).tmod 16 = (((k + 4 * (k % 4)) % 16 : Nat) : Int) := by rw [Int.tmod_eq_emod_of_nonneg (Int.natCast_nonneg _)]; omega
  simp only [ah.b9, au (show (k : Int) < 16 by omega), aF (show (0 : Int) <= k by omega) (show (k : Int) < 16 by omega), cond_true, oh k (by omega), w1, w2, w3, m2, aF (show (0 : Int) <= (((k + 4 * (k % 4)) % 16 : Nat) : Int) by omega) (show (((k + 4 * (k % 4)) % 16 : Nat) : Int) < 16 by omega), Int.toNat_natCast])
 refine (show _ = _ from e).trans ?_;rw [ah.q9];simp only [ah.b9, aA (show ¬ ((16 : Nat) : Int) < 16 by decide), cond_false]
abbrev nZ : List Int := [2, 3, 1, 1]
theorem Xf (hw : DI was) {i : Nat} (hi : i < 16) (hb : b.length = 16) (h0 : rd 0 b (i : Int) = 0) : ah.l10 .lim ((i : Int), t, nZ, 0, tp, tq, t1, t2, n, key, dn, mu, sm, sb, bk, bY 256, b, nZ, was, K, rn, tw, ta, out, ()) = some (t, tp, tq, t1, t2, n, key, dn, mu, sm, sb, bk, bY 256, b.set i (rd 0 (wG was) (i : Int)), nZ, was, K, rn, tw, ta, out, ()) := by
 have h4 : ∀ j : Nat, j < 4 -> IntKind.i64.wrap (IntKind.i64.wrap (IntKind.i64.wrap ((i : Int).tdiv 4) * 4) + (IntKind.i64.wrap ((i : Int) + (j : Int))).tmod 4) = ((i / 4 * 4 + (i + j) % 4 : Nat) : Int) := by
  intro j hj;have d1 : ((i : Int)).tdiv 4 = ((i / 4 : Nat) : Int) := by rw [Int.tdiv_eq_ediv_of_nonneg (Int.natCast_nonneg i)]; simp
  have d2 : IntKind.i64.wrap ((i : Int) + (j : Int)) = ((i + j : Nat) : Int) := by rw [wrap64 (by omega) (by omega)]; omega
  have d3 : (((i + j : Nat) : Int)).tmod 4 = (((i + j) % 4 : Nat) : Int) := by rw [Int.tmod_eq_emod_of_nonneg (Int.natCast_nonneg _)]; simp
  rw [d1, d2, d3, wrap64 (n := ((i / 4 : Nat) : Int)) (by omega) (by omega), wrap64 (n := ((i / 4 : Nat) : Int) * 4) (by omega) (by omega), wrap64 (by omega) (by omega)]; omega
 have hB : ∀ j : Nat, j < 4 -> B8 (rd 0 was ((i / 4 * 4 + (i + j) % 4 : Nat) : Int)) := fun j hj => hw.at (by omega)
 have g0 := h4 0 (by omega); have g1 := h4 1 (by omega); have g2 := h4 2 (by omega); have g3 := h4 3 (by omega);have b0 := hB 0 (by omega); have b1 := hB 1 (by omega); have b2 := hB 2 (by omega); have b3 := hB 3 (by omega);rw [show ((0 : Nat) : Int) = 0 from rfl] at g0;rw [show ((1 : Nat) : Int) = 1 from rfl] at g1;rw [show ((2 : Nat) : Int) = 2 from rfl] at g2;rw [show ((3 : Nat) : Int) = 3 from rfl] at g3;have r0 := (oV b0).2.1; have r1 := (oV b1).2.2; have r2 := (oV b2).1; have r3 := (oV b3).1;have step : ∀ (c : Int) (j j' : Int) (q : Nat) (v : Int) (bb : List Int), bb.length = 16 -> 0 <= j -> j < 4 -> rd 0 nZ j = c -> 0 <= c -> c < 16 -> IntKind.i64.wrap (j + 1) = j' -> IntKind.i64.wrap (IntKind.i64.wrap (IntKind.i64.wrap ((i : Int).tdiv 4) * 4) + (IntKind.i64.wrap ((i : Int) + j)).tmod 4) = (q : Int) -> q < 16 -> rd 0 (rd dh (bY 256) c) (rd 0 was (q : Int)) = v -> B8 (rd 0 was (q : Int)) ->
   ah.l10 .lim ((i : Int), t, nZ, j, tp, tq, t1, t2, n, key, dn, mu, sm, sb, bk, bY 256, bb, nZ, was, K, rn, tw, ta, out, ()) = ah.l10 .lim ((i : Int), t, nZ, j', tp, tq, t1, t2, n, key, dn, mu, sm, sb, bk, bY 256, bb.set i (dX .u8 (rd 0 bb (i : Int)) v), nZ, was, K, rn, tw, ta, out, ()) := by
  intro c j j' q v bb hbb h1 h2 h3 h4 h5 h6 h7 h8 h9 h10;rw [ah.q10];simp only [ah.b10, au h2, aF h1 h2, h3, aF h4 h5, h7, aF (show (0 : Int) <= i by omega) (show (i : Int) < 16 by omega), aF (show (0 : Int) <= (q : Int) by omega) (show (q : Int) < 16 by omega), aF h10.1 h10.2, h9, h6, cond_true, Int.toNat_natCast]
 rw [step 2 0 1 _ _ b hb (by omega) (by omega) rfl (by omega) (by omega) rfl g0 (by omega) r0 b0];rw [step 3 1 2 _ _ _ (by simp [hb]) (by omega) (by omega) rfl (by omega) (by omega) rfl g1 (by omega) r1 b1];rw [step 1 2 3 _ _ _ (by simp [hb]) (by omega) (by omega) rfl (by omega) (by omega) rfl g2 (by omega) r2 b2];rw [step 1 3 4 _ _ _ (by simp [hb]) (by omega) (by omega) rfl (by omega) (by omega) rfl g3 (by omega) r3 b3];rw [ah.q10];simp only [ah.b10, aA (show ¬ (4 : Int) < 4 by omega), cond_false];have hl : ∀ v, i < (b.set i v).length := fun v => by simp [hb]; omega
 simp only [zo (show i < b.length by omega), zo (hl _), List.set_set, h0];unfold wG;rw [qL hi];simp only [Nat.add_zero]
theorem YP (hw : DI was) (hb : b.length = 16) : ah.Q9 .lim (0, tp, tq, t1, t2, n, key, dn, mu, sm, sb, bk, bY 256, b, nZ, was, K, rn, tw, ta, out, ()) = some (tp, tq, t1, t2, n, wG was, K, rn, tw, key, dn, mu, sm, sb, bk, bY 256, ta, out, ()) := by
 have e := iP (f := ah.Q9 .lim) (fun k b => ((k : Int), tp, tq, t1, t2, n, key, dn, mu, sm, sb, bk, bY 256, b, nZ, was, K, rn, tw, ta, out, ())) (fun k v => rd 0 (wG was) (k : Int)) b hb (fun k hk m' hm hj => by
  rw [ah.q11];have hm := fun h0 => Xf (tp := tp) (tq := tq) (t1 := t1) (t2 := t2) (key := key) (dn := dn) (mu := mu) (sm := sm) (sb := sb) (bk := bk) (K := K) (rn := rn) (tw := tw) (t := (k : Int)) (n := n) (ta := ta) (out := out) hw (b := m'.set k 0) hk (by simp [hm]) h0
  simp only [ah.b11, au (show (k : Int) < 16 by omega), aF (show (0 : Int) <= k by omega) (show (k : Int) < 16 by omega), cond_true, Int.toNat_natCast];rw [hm (zo (by omega))];simp only [Option.bind_some, oh k (by omega), List.set_set])
 refine (show _ = _ from e).trans ?_;rw [ah.q11];simp only [ah.b11, aA (show ¬ ((16 : Nat) : Int) < 16 by decide), cond_false];have : (tab 16 fun i => rd 0 (wG was) (i : Int)) = wG was := (Hy jm).symm;rw [this]
theorem Ru (hb : b.length = 16) : ah.l12 .lim (0, tp, tq, t1, t2, n, b, K, rn, tw, key, dn, mu, sm, sb, bk, yb, ta, out, ()) = some (tp, tq, t1, t2, n, rn, yA b K, tw, key, dn, mu, sm, sb, bk, yb, ta, out, ()) := by
 have e := iP (f := ah.l12 .lim) (fun k b => ((k : Int), tp, tq, t1, t2, n, b, K, rn, tw, key, dn, mu, sm, sb, bk, yb, ta, out, ())) (fun k v => dX .u8 v (rd 0 K (k : Int))) b hb (fun k hk m' hm hj => by
  rw [ah.q12];simp only [ah.b12, au (show (k : Int) < 16 by omega), aF (show (0 : Int) <= k by omega) (show (k : Int) < 16 by omega), cond_true, oh k (by omega), hj k (Nat.le_refl _), Int.toNat_natCast])
 refine (show _ = _ from e).trans ?_;rw [ah.q12];simp only [ah.b12, aA (show ¬ ((16 : Nat) : Int) < 16 by decide), cond_false];rfl
theorem UD (b : List Int) : (tab 16 fun i => rd 0 (tab 16 fun i => Aw (rd 0 b (i : Int))) (((i + 4 * (i % 4)) % 16 : Nat) : Int)) = ug b := jg fun k hk => by rw [qL (by omega)]
theorem LH (hb : DI b) : DI (ug b) := ⟨jm, FH fun k hk => NT (hb.at (by omega))⟩
theorem YQ {r : Nat} (hW : Words W) (hl : W.length = 4 * (r + 1)) (hr : r <= 100) (hr0 : 0 < r) (hb : b.length = 16) :
  ah.Ls .lim (1, ((r : Nat) : Int), ((r : Nat) : Int), 0, n, eH W, uh W b 0, tw, key, dn, mu, sm, lq 256, bk, bY 256, ta, out, ()) = some (n, uh W b r, tw, key, dn, mu, sm, lq 256, bk, bY 256, ta, out, eH W, ()) := by
 have hn : (eH W).length = r + 1 := by unfold eH; simp; omega
 have e := dI (f := ah.Ls .lim) (fun k => (1, (r : Int), (r : Int), (k : Int), n, eH W, uh W b k, tw, key, dn, mu, sm, lq 256, bk, bY 256, ta, out, ())) (n := r) (fun k hk => by
  rw [ah.q13];have hB := H8 W b k;have hK : rd FD (eH W) (1 + (k : Int)) = qP W (k + 1) := by
   rw [show (1 + (k : Int)) = ((k + 1 : Nat) : Int) by omega, kN (by omega)];unfold eH; simp
  have w1 : IntKind.i64.wrap (((eH W).length : Int) - 2) = (r : Int) - 1 := by rw [wrap64 (by omega) (by omega)]; omega
  have hlast : decide ((k : Int) = (r : Int) - 1) = decide (k + 2 = W.length / 4) := by
   by_cases h : k + 1 = r
   ·rw [au (by omega), au (by omega)]
   ·rw [aA (by omega), aA (by omega)]
  simp only [ah.b13, au (show (k : Int) < (r : Int) by omega), aF (show (0 : Int) <= k by omega) (show (k : Int) < (r : Int) by omega), aN (show ((eH W).length : Int) < 9223372036854775808 by omega), cond_true, hK, w1, hlast, Rt hB, Option.bind_some];rw [Xe jm];simp only [Option.bind_some, UD];have hs := LH hB;have hc : ((((List.replicate 4 (0 : Int)).set 0 2).set 1 3).set 2 1).set 3 1 = nZ := rfl;show _ = ah.Ls .lim (1, (r : Int), (r : Int), ((k + 1 : Nat) : Int), n, eH W, Rh (decide (k + 2 = W.length / 4)) (uh W b k) (qP W (k + 1)), tw, key, dn, mu, sm, lq 256, bk, bY 256, ta, out, ());unfold Rh;cases decide (k + 2 = W.length / 4) with
  | true =>
   simp only [Bool.not_true, cond_false, cond_true];rw [Ru hs.1];simp only [Option.bind_some, oh k (by omega)]
  | false =>
   simp only [Bool.not_false, cond_false, cond_true, hc];rw [YP hs hs.1];simp only [Option.bind_some];have hml : (wG (ug (uh W b k))).length = 16 := jm;rw [Ru hml];simp only [Option.bind_some, oh k (by omega)])
 refine (show _ = _ from e).trans ?_;rw [ah.q13];simp only [ah.b13, aA (show ¬ (r : Int) < (r : Int) by omega), cond_false]
end
end Go.AM
end
section
namespace Go.AM
section
variable {ok : Bool} {n dn mu sm four x i t t1 t2 tp tq : Int} {key b tw ta out K was kb T sb bk : List Int} {yb W rn : List (List Int)} {last : Bool}
theorem Rw {r : Nat} (hW : Words W) (hl : W.length = 4 * (r + 1)) (hr : r <= 100) (hr0 : 0 < r) (hb : b.length = 16) {β : Type} {Q : _ -> Option β} :
  (bif inB 0 ((eH W).length : Int) then
   ((ah.l7 .lim (0, n, b, rd FD (eH W) 0, tw, key, dn, mu, sm, lq 256, bk, bY 256, ta, out, eH W, ())).bind fun (n, b, tw, key, dn, mu, sm, sb, bk, yb, ta, out, rn, ()) =>
    bif eX 1 (rn.length : Int) (rn.length : Int) then bif ay ((rn.length : Int) - 1) then (ah.Ls .lim (1, ((rn.length : Int) - 1), ((rn.length : Int) - 1), 0, n, rn, b, tw, key, dn, mu, sm, sb, bk, yb, ta, out, ())).bind Q else none else none) else none) = Q (n, uh W b r, tw, key, dn, mu, sm, lq 256, bk, bY 256, ta, out, eH W, ()) := by
 have hn : (eH W).length = r + 1 := by unfold eH; simp; omega
 have h0 : rd FD (eH W) 0 = qP W 0 := by
  have := kN (d := FD) (show 0 < (eH W).length by omega);rw [show ((0 : Nat) : Int) = 0 from rfl] at this;rw [this]; unfold eH; simp
 rw [cond_pos (aF (by omega) (by omega)), h0, UC hb];simp only [Option.bind_some];rw [cond_pos (aY (by omega) (by omega) (by omega)), cond_pos (aN (by omega)), show ((eH W).length : Int) - 1 = (r : Int) by omega];have := YQ (tw := tw) (key := key) (dn := dn) (mu := mu) (sm := sm) (bk := bk) (n := n) (ta := ta) (out := out) hW hl hr hr0 hb;rw [show uh W b 0 = yA b (qP W 0) from rfl] at this;rw [this];rfl
theorem UE (hk : key.length = 16 \/ key.length = 32) (hkb : ∀ x ∈ key, B8 x) (hb : b.length = 16) :
  ah.Jz .lim (b, n, key, 0, 0, sm, dh, dh, List.replicate 16 dh, ta, out, [], ()) = some (n, encS key b, key, 1, 0, sm, lq 256, zu 256, bY 256, ta, out, eH (kY key), ()) := by
 have h0 : ah.Jz .lim (b, n, key, 0, 0, sm, dh, dh, List.replicate 16 dh, ta, out, [], ()) = ah.b14 .lim (ah.Jz .lim) (b, n, key, 0, 0, sm, dh, dh, List.replicate 16 dh, ta, out, [], ()) := ah.Ze _;rw [h0];have hr := UA (sm := sm) (key := key) (b := b) (tw := FD) (n := n) (ta := ta) (out := out) hk hkb;have hW := yx key hkb;have hl : (kY key).length = 4 * ((key.length / 4 + 6) + 1) := by rw [uf]; omega
 have hq : (kY key).length / 4 - 1 = key.length / 4 + 6 := by omega
 unfold ah.b14;simp only [hr, Option.bind_some];refine (Rw (Q := fun (n, b, tw, key, dn, mu, sm, sb, bk, yb, ta, out, rn, ()) => some (n, b, key, dn, mu, sm, sb, bk, yb, ta, out, rn, ())) hW hl (by omega) (by omega) hb).trans ?_;unfold encS;rw [hq]
theorem UF (hk : key.length = 16 \/ key.length = 32) (hkb : ∀ x ∈ key, B8 x) (hb : b.length = 16) :
  ah.Jz .lim (b, n, key, 1, 0, sm, lq 256, zu 256, bY 256, ta, out, eH (kY key), ()) = some (n, encS key b, key, 1, 0, sm, lq 256, zu 256, bY 256, ta, out, eH (kY key), ()) := by
 have h0 : ah.Jz .lim (b, n, key, 1, 0, sm, lq 256, zu 256, bY 256, ta, out, eH (kY key), ()) = ah.b14 .lim (ah.Jz .lim) (b, n, key, 1, 0, sm, lq 256, zu 256, bY 256, ta, out, eH (kY key), ()) := ah.Ze _;rw [h0];have hr : ah.l6 .lim (n, key, 1, 0, sm, lq 256, zu 256, bY 256, b, FD, ta, out, eH (kY key), ()) = some (n, b, FD, key, 1, 0, sm, lq 256, zu 256, bY 256, ta, out, eH (kY key), ()) := by
  rw [ah.q6];simp only [ah.b6, aA (show ¬ (1 : Int) = 0 by omega), Bool.not_false, Bool.not_true, cond_false]
 have hW := yx key hkb;have hl : (kY key).length = 4 * ((key.length / 4 + 6) + 1) := by rw [uf]; omega
 have hq : (kY key).length / 4 - 1 = key.length / 4 + 6 := by omega
 unfold ah.b14;simp only [hr, Option.bind_some];refine (Rw (Q := fun (n, b, tw, key, dn, mu, sm, sb, bk, yb, ta, out, rn, ()) => some (n, b, key, dn, mu, sm, sb, bk, yb, ta, out, rn, ())) hW hl (by omega) (by omega) hb).trans ?_;unfold encS;rw [hq]
end
end Go.AM
end
section
namespace Go.AM
abbrev Bs (s : List Int) : Prop := ∀ x ∈ s, B8 x
abbrev fK : Nat := 9223372036854775808
noncomputable def encR (key b : List Int) : List Int × Int := if key.length = 16 \/ key.length = 32 then (if b.length = 16 then (encS key b, 0) else ([], 10)) else ([], 13)
theorem Rx {b : List Int} (h : b.length = 16) : (b.drop 0).take 16 = b := by rw [List.drop_zero, List.take_of_length_le (by omega)]
theorem uj {key b : List Int} (hk : key.length < fK) (hb : b.length < fK) (hkb : Bs key) : aj.run .lim (key, b, ()) = some ((encR key b).1, (encR key b).2, ()) := by
 unfold encR;simp only [aj.run, aI hk, aI hb, cond_true, Bool.or_true];by_cases h1 : key.length = 16 \/ key.length = 32
 ·have : (!decide ((key.length : Int) = 16) && !decide ((key.length : Int) = 32)) = false := by
   rcases h1 with h | h
   ·rw [au (show (key.length : Int) = 16 by omega)]; rfl
   ·rw [au (show (key.length : Int) = 32 by omega), Bool.not_true, Bool.and_false]
  rw [this, if_pos h1];simp only [cond_false];by_cases h2 : b.length = 16
  ·rw [au (show (b.length : Int) = 16 by omega), if_pos h2];simp only [Bool.not_true, cond_false, h2];rw [show (Nat.ble 1 16 && Nat.ble 16 16) = true from rfl, cond_true, List.take_of_length_le (by omega), Ux h1 hkb h2];simp only [Option.bind_some];rw [Rx (qQ _ _).1]
  ·rw [aA (show ¬ (b.length : Int) = 16 by omega), if_neg h2];rfl
 ·rw [aA (show ¬ (key.length : Int) = 16 by omega), aA (show ¬ (key.length : Int) = 32 by omega), if_neg h1];rfl
def Pj : Nat -> List Int -> List Int
 | 0, m => m
 | i + 1, m => bif !decide (rd 0 (m.set i (IntKind.u8.wrap (rd 0 m (i : Int) + 1))) (i : Int) = 0) then m.set i (IntKind.u8.wrap (rd 0 m (i : Int) + 1)) else Pj i (m.set i (IntKind.u8.wrap (rd 0 m (i : Int) + 1)))
theorem JE : ∀ i m, (Pj i m).length = m.length
 | 0, _ => rfl
 | i + 1, m => by
  rw [Pj];cases decide (rd 0 (m.set i (IntKind.u8.wrap (rd 0 m (i : Int) + 1))) (i : Int) = 0)
  ·simp
  ·simp [JE i]
noncomputable def jD (key at_ : List Int) : Nat -> List Int × List Int
 | 0 => ([], at_)
 | k + 1 => ((jD key at_ k).1 ++ encS key (jD key at_ k).2, Pj 16 (jD key at_ k).2)
theorem qh (key at_ : List Int) : ∀ k, (jD key at_ k).1.length = 16 * k /\ (jD key at_ k).2.length = at_.length
 | 0 => ⟨rfl, rfl⟩
 | k + 1 => by
  obtain ⟨h1, h2⟩ := qh key at_ k;exact ⟨by rw [jD, List.length_append, h1, (qQ _ _).1]; omega, by rw [jD, JE, h2]⟩
noncomputable def Pm (key at_ : List Int) (n : Nat) : List Int := (jD key at_ ((n + 15) / 16)).1.take n
theorem JF (key at_ : List Int) (n : Nat) : (Pm key at_ n).length = n := by unfold Pm; rw [List.length_take, (qh _ _ _).1]; omega
section
variable {n dn mu sm : Int} {key ta out sb bk w : List Int} {yb rn : List (List Int)}
theorem VI : ∀ (i : Nat), i <= 16 -> ∀ (ta : List Int), ta.length = 16 -> ah.l15 .lim (n, (i : Int) - 1, key, dn, mu, sm, sb, bk, yb, ta, out, rn, ()) = some (n, key, dn, mu, sm, sb, bk, yb, Pj i ta, out, rn, ())
 | 0, _, ta, ht => by
  rw [ah.q15];simp only [ah.b15, aA (show ¬ (((0 : Nat) : Int) - 1 >= 0) by omega), cond_false];rfl
 | i + 1, hi, ta, ht => by
  have w1 : IntKind.i64.wrap ((i : Int) - 1) = (i : Int) - 1 := wrap64 (by omega) (by omega);have ih := VI i (by omega) (ta.set i (IntKind.u8.wrap (rd 0 ta (i : Int) + 1))) (by simpa using ht);rw [show ((i + 1 : Nat) : Int) - 1 = (i : Int) by omega, ah.q15, Pj];simp only [ah.b15, au (show (i : Int) >= 0 by omega), aF (show (0 : Int) <= i by omega) (show (i : Int) < 16 by omega), cond_true, Int.toNat_natCast, w1, ih];cases decide (rd 0 (ta.set i (IntKind.u8.wrap (rd 0 ta (i : Int) + 1))) (i : Int) = 0) <;> rfl
end
def UG (key at_ : List Int) (n : Int) : Int := if n < 0 \/ n > 65536 then 13 else if key.length = 16 \/ key.length = 32 then (if at_.length = 16 then 0 else 10) else 13
noncomputable def UH (key at_ : List Int) (n : Int) : List Int := if UG key at_ n = 0 then Pm key at_ n.toNat else []
theorem Xg {key at_ : List Int} {q : Nat} (hk : key.length = 16 \/ key.length = 32) (hkb : Bs key) (ha : at_.length = 16) (hq : q <= 65536) :
  ah.VF .lim ((q : Int), key, 0, 0, 0, dh, dh, List.replicate 16 dh, at_, [], [], ()) = some ((q : Int), (jD key at_ ((q + 15) / 16)).1, ()) := by
 have step : ∀ (k : Nat) (dn mu : Int) (sb bk : List Int) (yb rn : List (List Int)), k < (q + 15) / 16 -> ah.Jz .lim ((jD key at_ k).2, (q : Int), key, dn, mu, 0, sb, bk, yb, (jD key at_ k).2, (jD key at_ k).1, rn, ()) = some ((q : Int), encS key (jD key at_ k).2, key, 1, 0, 0, lq 256, zu 256, bY 256, (jD key at_ k).2, (jD key at_ k).1, eH (kY key), ()) ->
   ah.VF .lim ((q : Int), key, dn, mu, 0, sb, bk, yb, (jD key at_ k).2, (jD key at_ k).1, rn, ()) = ah.VF .lim ((q : Int), key, 1, 0, 0, lq 256, zu 256, bY 256, (jD key at_ (k + 1)).2, (jD key at_ (k + 1)).1, eH (kY key), ()) := by
  intro k dn mu sb bk yb rn hk e;obtain ⟨h1, h2⟩ := qh key at_ k;have hi := VI (n := (q : Int)) (dn := 1) (mu := 0) (sm := 0) (key := key) (sb := lq 256) (bk := zu 256) (yb := bY 256) (rn := eH (kY key)) (out := (jD key at_ k).1 ++ encS key (jD key at_ k).2) 16 (by omega) (jD key at_ k).2 (by omega);rw [show ((16 : Nat) : Int) - 1 = 15 from rfl] at hi;rw [ah.q16];simp only [ah.b16, aI (show (jD key at_ k).1.length < 9223372036854775808 by omega), au (show (((jD key at_ k).1.length : Nat) : Int) < (q : Int) by omega), cond_true, e, Option.bind_some, Rx (qQ key (jD key at_ k).2).1, (qQ key (jD key at_ k).2).1, hi];rw [cond_pos (au (by omega))];rfl
 have fin : ∀ dn mu sb bk yb rn, ah.VF .lim ((q : Int), key, dn, mu, 0, sb, bk, yb, (jD key at_ ((q + 15) / 16)).2, (jD key at_ ((q + 15) / 16)).1, rn, ()) = some ((q : Int), (jD key at_ ((q + 15) / 16)).1, ()) := by
  intro dn mu sb bk yb rn;obtain ⟨h1, h2⟩ := qh key at_ ((q + 15) / 16);rw [ah.q16];simp only [ah.b16, aI (show (jD key at_ ((q + 15) / 16)).1.length < 9223372036854775808 by omega), aA (show ¬ (((jD key at_ ((q + 15) / 16)).1.length : Nat) : Int) < (q : Int) by omega), cond_true, cond_false]
 by_cases h0 : q = 0
 ·subst h0;exact fin 0 0 dh dh (List.replicate 16 dh) []
 ·obtain ⟨p, hp⟩ : ∃ p, (q + 15) / 16 = p + 1 := ⟨(q + 15) / 16 - 1, by omega⟩;have e0 := step 0 0 0 dh dh (List.replicate 16 dh) [] (by omega) (UE (n := (q : Int)) (sm := 0) (ta := at_) (out := []) hk hkb ha);have e1 := dI (f := ah.VF .lim) (fun k => ((q : Int), key, 1, 0, 0, lq 256, zu 256, bY 256, (jD key at_ (k + 1)).2, (jD key at_ (k + 1)).1, eH (kY key), ())) (n := p) (fun k hkp => step (k + 1) 1 0 (lq 256) (zu 256) (bY 256) (eH (kY key)) (by omega) (UF (n := (q : Int)) (sm := 0) (ta := (jD key at_ (k + 1)).2) (out := (jD key at_ (k + 1)).1) hk hkb (by rw [(qh _ _ _).2]; exact ha)));refine e0.trans (e1.trans ?_);rw [<- hp];exact fin _ _ _ _ _ _
theorem LJ {key at_ : List Int} {n : Int} (hk : key.length < fK) (ha : at_.length < fK) (hkb : Bs key) : ah.run .lim (key, at_, n, ()) = some (UH key at_ n, UG key at_ n, ()) := by
 unfold UH UG;simp only [ah.run, aI hk, aI ha, cond_true, Bool.or_true, dD];by_cases h0 : n < 0 \/ n > 65536
 ·rw [au h0, if_pos h0, if_neg (by decide)]; rfl
 ·rw [aA h0, if_neg h0];simp only [cond_false];by_cases h1 : key.length = 16 \/ key.length = 32
  ·have : (!decide ((key.length : Int) = 16) && !decide ((key.length : Int) = 32)) = false := by
    rcases h1 with h | h
    ·rw [au (show (key.length : Int) = 16 by omega)]; rfl
    ·rw [au (show (key.length : Int) = 32 by omega), Bool.not_true, Bool.and_false]
   rw [this, if_pos h1];simp only [cond_false];by_cases h2 : at_.length = 16
   ·rw [au (show (at_.length : Int) = 16 by omega), if_pos h2, if_pos rfl];simp only [Bool.not_true, cond_false, h2];have hn : n = ((n.toNat : Nat) : Int) := by omega
    have hl := Xg (q := n.toNat) h1 hkb h2 (by omega);rw [<- hn] at hl;rw [show (Nat.ble 1 16 && Nat.ble 16 16) = true from rfl, cond_true, List.take_of_length_le (by omega), hl];simp only [Option.bind_some];have := (qh key at_ ((n.toNat + 15) / 16)).1;rw [cond_pos (aY (by omega) (by omega) (by omega)), List.drop_zero, Int.sub_zero];rfl
   ·rw [aA (show ¬ (at_.length : Int) = 16 by omega), if_neg h2, if_neg (by decide)];rfl
  ·rw [aA (show ¬ (key.length : Int) = 16 by omega), aA (show ¬ (key.length : Int) = 32 by omega), if_neg h1, if_neg (by decide)];rfl
end Go.AM
end
section
namespace Go.AM
theorem UJ (n : Int) : IntKind.u32.wrap n = n % 4294967296 := by unfold IntKind.wrap; simp [IntKind.signed, IntKind.bits]
theorem yC (n : Int) : IntKind.u64.wrap n = n % 18446744073709551616 := by unfold IntKind.wrap; simp [IntKind.signed, IntKind.bits]
theorem Xh {w x y : Nat} (hx : x < 2 ^ w) (hy : y < 2 ^ w) : (BitVec.ofInt w (x : Int) ||| BitVec.ofInt w (y : Int)).toNat = x ||| y := by
 rw [BitVec.toNat_or, BitVec.toNat_ofInt, BitVec.toNat_ofInt];have e : ∀ z : Nat, z < 2 ^ w -> ((z : Int) % ((2 ^ w : Nat) : Int)).toNat = z := fun z hz => by rw [<- Int.natCast_emod, Int.toNat_natCast, Nat.mod_eq_of_lt hz]
 rw [e x hx, e y hy]
theorem Xi {a b m : Nat} (h : b < 2 ^ m) : 2 ^ m * a ||| b = 2 ^ m * a + b := (Nat.two_pow_add_eq_or_of_lt h a).symm
theorem Xj {a : Int} (h : B8 a) : ∃ n : Nat, a = (n : Int) /\ n < 256 := ⟨a.toNat, by have := h.1; omega, by have := h.1; have := h.2; omega⟩
theorem iF (x : Int) (k m : Nat) (K : IntKind) (hm : m <= K.bits) : iR K x (m : Int) = x / 2 ^ m := by
 show x.fdiv (2 ^ min ((m : Int).toNat) K.bits) = _;rw [Int.toNat_natCast, Nat.min_eq_left hm, Int.fdiv_eq_ediv_of_nonneg _ (by exact Int.le_of_lt (Int.pow_pos (by decide)))]
end Go.AM
end
section
namespace Go.AM
abbrev FF := Int × List Int
abbrev f0 : FF := ((0 : Int), ([] : List Int))
def eY (s : List Int) : Int := s.foldl (fun n c => n * 256 + c) 0
theorem FM (s : List Int) (c : Int) : eY (s ++ [c]) = eY s * 256 + c := by unfold eY; rw [List.foldl_append]; rfl
theorem Bd {s : List Int} (hs : Bs s) : ∀ k, k <= s.length -> 0 <= eY (s.take k) /\ eY (s.take k) < 256 ^ k := by
 intro k
 induction k with
 | zero => intro _; simp [eY]
 | succ k ih =>
  intro hk;have h := ih (by omega);rw [Ba (d := (0 : Int)) (by omega), FM, Int.pow_succ];have hc := hs _ (jc (d := (0 : Int)) (i := (k : Int)) (by omega) (by omega));omega
theorem Xk {k : Nat} (h : k <= 7) : (256 : Int) ^ k <= 72057594037927936 := by
 have h1 := Nat.pow_le_pow_right (n := 256) (by decide) h;have h2 : ((256 ^ k : Nat) : Int) = (256 : Int) ^ k := by rw [Int.natCast_pow]; rfl
 omega
theorem Xl {a b : Nat} (m : Nat) (h : b < 2 ^ m) (hm : 2 ^ m * a + b < 18446744073709551616) : Et .u64 ((2 ^ m * a : Nat) : Int) (b : Int) = ((2 ^ m * a + b : Nat) : Int) := by
 show IntKind.u64.wrap ((BitVec.ofInt 64 ((2 ^ m * a : Nat) : Int) ||| BitVec.ofInt 64 (b : Int)).toNat : Int) = _;rw [Xh (Nat.lt_of_le_of_lt (Nat.le_add_right _ b) hm) (Nat.lt_of_le_of_lt (Nat.le_add_left _ (2 ^ m * a)) hm), Xi h, yC];omega
theorem Xm {n c : Int} (h0 : 0 <= n) (h1 : n < 72057594037927936) (hc : B8 c) : Et .u64 (jP .u64 n 8) (IntKind.u64.wrap c) = n * 256 + c := by
 obtain ⟨x, rfl⟩ := Int.eq_ofNat_of_zero_le h0;obtain ⟨y, rfl, hy⟩ := Xj hc;have e : jP .u64 (x : Int) 8 = ((2 ^ 8 * x : Nat) : Int) := by
  show IntKind.u64.wrap ((x : Int) * 2 ^ 8) = _;rw [yC]; omega
 have e2 : IntKind.u64.wrap (y : Int) = (y : Int) := by rw [yC]; omega
 rw [e, e2, Xl 8 (by omega) (by omega)];omega
theorem Ry {s : List Int} (hs : Bs s) (hl : s.length <= 8) {k : Nat} (hk : k < s.length) : Et .u64 (jP .u64 (eY (s.take k)) 8) (IntKind.u64.wrap (rd 0 s (k : Int))) = eY (s.take (k + 1)) := by
 have hb := Bd hs k (by omega);have hp := Xk (k := k) (by omega);rw [Xm hb.1 (by omega) (hs _ (jc (by omega) (by omega))), Ba (d := (0 : Int)) hk, FM]
theorem zx {s : List Int} (hs : Bs s) (hl : s.length <= 8) : aH.run .lim (s, ()) = some (eY s) := by
 have e := dI (f := aH.l0 .lim) (fun k => (s, eY (s.take k), (k : Int), ())) (n := s.length) (fun k hk => by
  rw [aH.q0];simp only [aH.b0, aI (show s.length < 9223372036854775808 by omega), au (show (k : Int) < (s.length : Int) by omega), aF (show (0 : Int) <= (k : Int) by omega) (show (k : Int) < (s.length : Int) by omega), cond_true, oh k (by omega), Ry hs hl hk])
 have e0 : aH.l0 .lim (s, 0, 0, ()) = aH.l0 .lim (s, eY (s.take s.length), (s.length : Int), ()) := e;simp only [aH.run, e0, List.take_length];rw [aH.q0];simp only [aH.b0, aI (show s.length < 9223372036854775808 by omega), aA (show ¬ (s.length : Int) < (s.length : Int) by omega), cond_true, cond_false, Option.bind_some]
theorem pG {α : Type} {s : List α} {a b : Nat} {i j : Int} (hi : i = (a : Int)) (hj : j = (b : Int)) : cut s i j = (s.take b).drop a := by subst hi; subst hj; rfl
theorem NV {α : Type} {s : List α} {a : Nat} {i : Int} (hi : i = (a : Int)) : cut s i (s.length : Int) = s.drop a := by subst hi; unfold cut; rw [Int.toNat_natCast, Int.toNat_natCast, List.take_length]
theorem Bs.take {s : List Int} (h : Bs s) (n : Nat) : Bs (s.take n) := fun x hx => h x (List.mem_of_mem_take hx)
theorem Bs.drop {s : List Int} (h : Bs s) (n : Nat) : Bs (s.drop n) := fun x hx => h x (List.mem_of_mem_drop hx)
theorem Bs.cut {s : List Int} (h : Bs s) (i j : Int) : Bs (cut s i j) := fun x hx => h x (List.mem_of_mem_take (List.mem_of_mem_drop hx))
theorem Bs.app {s t : List Int} (h : Bs s) (k : Bs t) : Bs (s ++ t) := fun x hx => (List.mem_append.1 hx).elim (h x) (k x)
theorem and3 {n : Int} (h0 : 0 <= n) (h1 : n < 9223372036854775808) : h_ .i64 n 3 = n % 4 := by
 obtain ⟨x, rfl⟩ := Int.eq_ofNat_of_zero_le h0;show IntKind.i64.wrap ((BitVec.ofInt 64 (x : Int) &&& BitVec.ofInt 64 3).toNat : Int) = _;rw [BitVec.toNat_and, BitVec.toNat_ofInt, show (BitVec.ofInt 64 3).toNat = 2 ^ 2 - 1 from rfl, Nat.and_two_pow_sub_one_eq_mod];have e : ((x : Int) % ((2 ^ 64 : Nat) : Int)).toNat = x := by omega
 rw [e, wrap64 (by omega) (by omega)]; omega
def fM (s : List Int) : Nat := (eY ((s.take 4).drop 2)).toNat
def Az (s : List Int) : Prop := s.length < 4 \/ fM s < 16 \/ fM s % 4 ≠ 0 \/ fM s > s.length
instance (s : List Int) : Decidable (Az s) := by unfold Az; exact inferInstance
def Rz (s : List Int) : FF := (eY (s.take 2), (s.take (fM s)).drop 4)
def Eo : Nat -> List Int -> List FF -> List FF × Int
 | 0, _, acc => (acc, 0)
 | n + 1, s, acc => if s = [] then (acc, 0) else if Az s then ([], 10) else if acc.length = 16 then ([], 18) else Eo n (s.drop (fM s)) (acc ++ [Rz s])
theorem NW {s : List Int} (hs : Bs s) (h : 4 <= s.length) : eY ((s.take 4).drop 2) = (fM s : Int) /\ fM s < 65536 := by
 have hb : Bs ((s.take 4).drop 2) := (hs.take 4).drop 2;have hl : ((s.take 4).drop 2).length = 2 := by rw [List.length_drop, List.length_take]; omega
 have := Bd hb 2 (by omega);rw [List.take_of_length_le (by omega)] at this;unfold fM;omega
theorem NY {s : List Int} (hs : Bs s) (h : 2 <= s.length) : 0 <= eY (s.take 2) /\ eY (s.take 2) < 65536 := by
 have := Bd hs 2 (by omega);omega
theorem RD : ∀ (n : Nat) (s : List Int) (acc : List FF), s.length <= n -> Bs s -> s.length < 9223372036854775808 -> acc.length <= 16 ->
  ((bD.l0 .lim (s, acc, ())).bind fun g_ => match g_ with
   | .inl (t, ()) => some (([] : List FF), t, ())
   | .inr (.inl (t1, ())) => some (([] : List FF), t1, ())
   | .inr (.inr (.inl (t2, ()))) => some (([] : List FF), t2, ())
   | .inr (.inr (.inr (m, ()))) => some (m, 0, ())) = some ((Eo n s acc).1, (Eo n s acc).2, ()) := by
 intro n
 induction n with
 | zero =>
  intro s acc hn _ _ _;obtain rfl : s = [] := List.length_eq_zero_iff.1 (by omega);rw [bD.q0];simp only [bD.b0, decide_true, Bool.not_true, cond_false, Option.bind_some, Eo]
 | succ n ih =>
  intro s acc hn hs hl ha;rw [bD.q0];by_cases h0 : s = []
  ·subst h0;simp only [bD.b0, decide_true, Bool.not_true, cond_false, Option.bind_some, Eo, if_true]
  simp only [bD.b0, aA h0, Bool.not_false, cond_true, aI hl, Eo, if_neg h0];by_cases h4 : s.length < 4
  ·simp only [au (show (s.length : Int) < 4 by omega), cond_true, Option.bind_some];rw [if_pos (show Az s from .inl h4)]
  ·obtain ⟨e1, e2⟩ := NW hs (by omega);have hc : cut s 2 4 = (s.take 4).drop 2 := pG (a := 2) (b := 4) rfl rfl;have hlen : ((s.take 4).drop 2).length <= 8 := by rw [List.length_drop, List.length_take]; omega
   have w : IntKind.i64.wrap (fM s : Int) = (fM s : Int) := wrap64 (by omega) (by omega);simp only [aA (show ¬ (s.length : Int) < 4 by omega), cond_true, cond_false, aY (show (0 : Int) <= 2 by omega) (show (2 : Int) <= 4 by omega) (show (4 : Int) <= (s.length : Int) by omega), hc, zx ((hs.take 4).drop 2) hlen, Option.bind_some, e1, w, Bool.or_true];have h3 : (fM s : Int).tmod 4 = ((fM s % 4 : Nat) : Int) := by rw [Int.tmod_eq_emod_of_nonneg (by omega)]; omega
   by_cases hb : Az s
   ·rw [if_pos hb];have hq : (((decide ((fM s : Int) < 16)) || (!(decide (((fM s : Int).tmod 4) = 0)))) || (decide ((fM s : Int) > (s.length : Int)))) = true := by
     rw [h3];rcases hb with hb | hb | hb | hb
     ·exact absurd hb h4
     ·simp only [au (show (fM s : Int) < 16 by omega), Bool.true_or]
     ·simp only [aA (show ¬ ((fM s % 4 : Nat) : Int) = 0 by omega), Bool.not_false, Bool.or_true, Bool.true_or]
     ·simp only [au (show (fM s : Int) > (s.length : Int) by omega), Bool.or_true]
    simp only [hq, cond_true, Option.bind_some]
   ·rw [if_neg hb];unfold Az at hb;have hq : (((decide ((fM s : Int) < 16)) || (!(decide (((fM s : Int).tmod 4) = 0)))) || (decide ((fM s : Int) > (s.length : Int)))) = false := by rw [h3, aA (show ¬ (fM s : Int) < 16 by omega), au (show ((fM s % 4 : Nat) : Int) = 0 by omega), aA (show ¬ (fM s : Int) > (s.length : Int) by omega)]; rfl
    have hc2 : cut s 0 2 = s.take 2 := pG (a := 0) (b := 2) rfl rfl;have hv := NY hs (by omega);have w2 : IntKind.i64.wrap (eY (s.take 2)) = eY (s.take 2) := wrap64 (by omega) (by omega);have hc3 : cut s 4 (fM s : Int) = (s.take (fM s)).drop 4 := pG (a := 4) (b := fM s) rfl rfl;have hc4 : cut s (fM s : Int) (s.length : Int) = s.drop (fM s) := NV rfl;simp only [hq, cond_false, aI (show acc.length < 9223372036854775808 by omega), cond_true];by_cases h16 : acc.length = 16
    ·rw [au (show (acc.length : Int) = 16 by omega), if_pos h16]; rfl
    ·rw [aA (show ¬ (acc.length : Int) = 16 by omega), if_neg h16];simp only [cond_false, cond_true, aY (show (0 : Int) <= 0 by omega) (show (0 : Int) <= 2 by omega) (show (2 : Int) <= (s.length : Int) by omega), hc2, zx (hs.take 2) (show (s.take 2).length <= 8 by rw [List.length_take]; omega), Option.bind_some, w2,
      aY (show (0 : Int) <= 4 by omega) (show (4 : Int) <= (fM s : Int) by omega) (show (fM s : Int) <= (s.length : Int) by omega), aY (show (0 : Int) <= (fM s : Int) by omega) (show (fM s : Int) <= (s.length : Int) by omega) (show (s.length : Int) <= (s.length : Int) by omega), hc3, hc4]
     rw [cond_pos (au (by simp; omega))];exact ih (s.drop (fM s)) (acc ++ [Rz s]) (by rw [List.length_drop]; omega) (hs.drop _) (by rw [List.length_drop]; omega) (by simp; omega)
theorem Xn {s : List Int} (hs : Bs s) (hl : s.length < 9223372036854775808) : bD.run .lim (s, ()) = some ((Eo s.length s []).1, (Eo s.length s []).2, ()) := by
 simp only [bD.run];exact RD s.length s [] (Nat.le_refl _) hs hl (by simp)
end Go.AM
end
section
namespace Go.AM
theorem YR {n : Int} : iR .i64 n 8 = n / 256 := by
 have := iF n 0 8 .i64 (by decide);exact this
def twoS (n : Int) : List Int := [IntKind.u8.wrap (iR .i64 n 8), IntKind.u8.wrap n]
theorem jE (n : Int) : (twoS n).length = 2 := rfl
theorem H9 (n : Int) : Bs (twoS n) := fun x hx => by
 unfold twoS at hx;simp only [List.mem_cons, List.not_mem_nil, or_false] at hx;rcases hx with rfl | rfl <;> exact tV _
theorem NZ {t : List Int} (hb : Bs t) (hl : t.length = 2) : twoS (eY t) = t := by
 match t, hl with
 | [a, b], _ =>
  have ha := hb a (.head _);have hb := hb b (.tail _ (.head _));have e : eY [a, b] = a * 256 + b := by simp [eY]
  unfold twoS;rw [e, YR, kV, kV];congr 1
  ·omega
  ·congr 1; omega
theorem val_two {n : Int} (h0 : 0 <= n) (h1 : n < 65536) : eY (twoS n) = n := by
 unfold twoS eY;rw [YR, kV, kV];simp only [List.foldl_cons, List.foldl_nil];omega
def jQ (f : FF) : List Int := twoS f.1 ++ twoS ((f.2.length : Int) + 4) ++ f.2
def aP (l : List FF) : List Int := (l.map jQ).flatten
theorem jY (f : FF) : (jQ f).length = 4 + f.2.length := by simp [jQ, twoS]; omega
theorem Pn (a b : List FF) : aP (a ++ b) = aP a ++ aP b := by simp [aP]
theorem Po (f : FF) : aP [f] = jQ f := by simp [aP]
theorem DJ {l : List FF} {k : Nat} (h : k < l.length) : aP (l.take (k + 1)) = aP (l.take k) ++ jQ (rd f0 l (k : Int)) := by rw [Ba (d := f0) h, Pn, Po]
structure N7 (f : FF) : Prop where
 k0 : 0 <= f.1
 k1 : f.1 < 65536
 l0 : 12 <= f.2.length
 l4 : f.2.length % 4 = 0
 l1 : f.2.length < 65532
 b : Bs f.2
theorem UK {s : List Int} (hs : Bs s) (hb : ¬ Az s) : s.take (fM s) = jQ (Rz s) /\ N7 (Rz s) := by
 unfold Az at hb;obtain ⟨e1, e2⟩ := NW hs (by omega);have hv := NY hs (by omega);have hlen : ((s.take (fM s)).drop 4).length = fM s - 4 := by rw [List.length_drop, List.length_take]; omega
 refine ⟨?_, ⟨hv.1, hv.2, by show 12 <= ((s.take (fM s)).drop 4).length; omega, by show ((s.take (fM s)).drop 4).length % 4 = 0; omega, by show ((s.take (fM s)).drop 4).length < 65532; omega, (hs.take _).drop _⟩⟩;unfold jQ Rz;have h2 : twoS ((((s.take (fM s)).drop 4).length : Int) + 4) = (s.take 4).drop 2 := by
  rw [hlen, show ((fM s - 4 : Nat) : Int) + 4 = (fM s : Int) by omega, <- e1];exact NZ ((hs.take 4).drop 2) (by rw [List.length_drop, List.length_take]; omega)
 have h1 : twoS (eY (s.take 2)) = s.take 2 := NZ (hs.take 2) (by rw [List.length_take]; omega);show s.take (fM s) = twoS (eY (s.take 2)) ++ twoS ((((s.take (fM s)).drop 4).length : Int) + 4) ++ (s.take (fM s)).drop 4;rw [h1, h2];have h3 : s.take 2 ++ (s.take 4).drop 2 = s.take 4 := by
  have : s.take 2 = (s.take 4).take 2 := by rw [List.take_take]; rfl
  rw [this, List.take_append_drop]
 have h4 : s.take 4 = (s.take (fM s)).take 4 := by rw [List.take_take, Nat.min_eq_left (by omega)]
 rw [h3, h4, List.take_append_drop]
theorem UL : ∀ (n : Nat) (s : List Int) (acc : List FF), s.length <= n -> Bs s -> (Eo n s acc).2 = 0 -> ∃ l, (Eo n s acc).1 = acc ++ l /\ s = aP l /\ (∀ f ∈ l, N7 f) /\ (acc.length <= 16 -> (acc ++ l).length <= 16) := by
 intro n
 induction n with
 | zero =>
  intro s acc hn _ _;obtain rfl : s = [] := List.length_eq_zero_iff.1 (by omega);exact ⟨[], by simp [Eo], rfl, fun f hf => (by cases hf), fun h => by simpa using h⟩
 | succ n ih =>
  intro s acc hn hs he;by_cases h0 : s = []
  ·subst h0;exact ⟨[], by simp [Eo], rfl, fun f hf => (by cases hf), fun h => by simpa using h⟩
  ·simp only [Eo, if_neg h0] at he ⊢
   by_cases hb : Az s
   ·rw [if_pos hb] at he; exact absurd he (by decide)
   ·rw [if_neg hb] at he ⊢
    by_cases h16 : acc.length = 16
    ·rw [if_pos h16] at he; exact absurd he (by decide)
    ·rw [if_neg h16] at he ⊢
     obtain ⟨e1, e2⟩ := UK hs hb;have hb' := hb;unfold Az at hb';obtain ⟨l, k1, k2, k3, k4⟩ := ih (s.drop (fM s)) (acc ++ [Rz s]) (by rw [List.length_drop]; omega) (hs.drop _) he;refine ⟨Rz s :: l, by rw [k1, List.append_assoc]; rfl, ?_, fun f hf => ?_, fun h => ?_⟩
     ·have : aP (Rz s :: l) = jQ (Rz s) ++ aP l := by simp [aP]
      rw [this, <- k2, <- e1, List.take_append_drop]
     ·rcases List.mem_cons.1 hf with rfl | hf
      ·exact e2
      ·exact k3 f hf
     ·have := k4 (by simp; omega);simpa [List.append_assoc] using this
def fE (f : FF) : Int := if f.1 < 0 \/ f.1 >= 65536 then 13 else if f.2.length < 12 \/ f.2.length % 4 ≠ 0 then 10 else 0
def qj (l : List FF) : Int := if l.length > 16 then 18 else match (List.range l.length).find? (fun k : Nat => !decide (fE (rd f0 l (k : Int)) = 0)) with
 | some k => fE (rd f0 l (k : Int))
 | none => if (aP l).length > 1232 then 12 else 0
def pI (l : List FF) : List Int := if qj l = 0 then aP l else []
theorem YS {f : FF} (h : N7 f) : fE f = 0 := by
 unfold fE;rw [if_neg (by have := h.k0; have := h.k1; omega), if_neg (by have := h.l0; have := h.l4; omega)]
theorem H_ {l : List FF} (h : ∀ f ∈ l, N7 f) (h16 : l.length <= 16) (hl : (aP l).length <= 1232) : qj l = 0 := by
 unfold qj;rw [if_neg (by omega)];have : (List.range l.length).find? (fun k : Nat => !decide (fE (rd f0 l (k : Int)) = 0)) = none := List.find?_eq_none.2 fun k hk => by
  have hk := List.mem_range.1 hk;rw [au (YS (h _ (jc (by omega) (by omega))))]; simp
 rw [this];simp only;rw [if_neg (by omega)]
def uT (l : List FF) : Nat -> List Int
 | 0 => []
 | k + 1 => if (aP (l.take (k + 1))).length > 1232 then uT l k else uT l k ++ jQ (rd f0 l (k : Int))
theorem N8 {l : List FF} : ∀ k, k <= l.length -> (aP (l.take k)).length <= 1232 -> uT l k = aP (l.take k) := by
 intro k
 induction k with
 | zero => intro _ _; rfl
 | succ k ih =>
  intro hk h;have e := DJ (l := l) (k := k) (by omega);unfold uT;rw [if_neg (by omega), e];rw [ih (by omega) (by rw [e, List.length_append] at h; omega)]
theorem UN (n : Int) : tY.run .lim (n, ()) = some (twoS n) := rfl
def FL (l : List FF) : Prop := l.length < 9223372036854775808 /\ ∀ f ∈ l, f.2.length <= 140737488351232
theorem FN {l : List FF} (hl : FL l) : dN.run .lim (l, ()) = some (pI l, qj l, ()) := by
 obtain ⟨h1, h2⟩ := hl;simp only [dN.run, aI h1, cond_true];by_cases h16 : l.length > 16
 ·rw [au (show (l.length : Int) > 16 by omega)];have : qj l = 18 := by unfold qj; rw [if_pos h16]
  unfold pI;rw [this]; rfl
 rw [aA (show ¬ (l.length : Int) > 16 by omega)];have e := Dz (f := dN.l0 .lim) (fun k => (decide ((aP (l.take k)).length > 1232), l, (l.length : Int), (k : Int), uT l k, ())) l.length (fun k : Nat => !decide (fE (rd f0 l (k : Int)) = 0))
  (fun k => if fE (rd f0 l (k : Int)) = 13 then some (.inl (([] : List Int), 13, ())) else some (.inr (.inl (([] : List Int), 10, ())))) (fun k hk => by
  have hm := jc (d := f0) (xs := l) (i := (k : Int)) (by omega) (by omega);have hb := h2 _ hm;rw [dN.q0];generalize hg : rd f0 l (k : Int) = f at hm hb;simp only [dN.b0, au (show (k : Int) < (l.length : Int) by omega), aF (show (0 : Int) <= (k : Int) by omega) (show (k : Int) < (l.length : Int) by omega), cond_true, hg, aI (show f.2.length < 9223372036854775808 by omega), Bool.or_true];unfold fE;by_cases hk1 : f.1 < 0 \/ f.1 >= 65536
  ·rw [if_pos hk1];have : ((decide (f.1 < 0)) || (decide (f.1 >= 65536))) = true := by rcases hk1 with q | q <;> simp only [au q, Bool.true_or, Bool.or_true]
   simp only [this, cond_true];rfl
  ·rw [if_neg hk1];have : ((decide (f.1 < 0)) || (decide (f.1 >= 65536))) = false := by rw [aA (show ¬ f.1 < 0 by omega), aA (show ¬ f.1 >= 65536 by omega)]; rfl
   simp only [this, cond_false];have h3 : h_ .i64 (f.2.length : Int) 3 = ((f.2.length % 4 : Nat) : Int) := by rw [and3 (by omega) (by omega)]; omega
   by_cases hk2 : f.2.length < 12 \/ f.2.length % 4 ≠ 0
   ·rw [if_pos hk2];have : ((decide ((f.2.length : Int) < 12)) || (!(decide ((h_ .i64 (f.2.length : Int) 3) = 0)))) = true := by
     rw [h3];rcases hk2 with q | q
     ·rw [au (show (f.2.length : Int) < 12 by omega)]; rfl
     ·rw [aA (show ¬ ((f.2.length % 4 : Nat) : Int) = 0 by omega)]; simp
    simp only [this, cond_true];rfl
   ·rw [if_neg hk2];have : ((decide ((f.2.length : Int) < 12)) || (!(decide ((h_ .i64 (f.2.length : Int) 3) = 0)))) = false := by rw [h3, aA (show ¬ (f.2.length : Int) < 12 by omega), au (show ((f.2.length % 4 : Nat) : Int) = 0 by omega)]; rfl
    simp only [this, cond_false, decide_true, Bool.not_true, cond_false];have es := DJ hk;have el : (aP (l.take (k + 1))).length = (aP (l.take k)).length + (4 + f.2.length) := by rw [es, List.length_append, jY, hg]
    have hu : ∀ b : Bool, (bif b then some () else some ()) = some () := fun b => by cases b <;> rfl
    simp only [hu, Option.bind_some, UN];by_cases hlong : (aP (l.take k)).length > 1232
    ·have e1 : decide ((aP (l.take k)).length > 1232) = true := au hlong;have e2 : decide ((aP (l.take (k + 1))).length > 1232) = true := au (show (aP (l.take (k + 1))).length > 1232 by omega);have e3 : uT l (k + 1) = uT l k := by rw [uT, if_pos (show (aP (l.take (k + 1))).length > 1232 by omega)]
     simp only [e1, e2, e3, Bool.true_or, Bool.not_true, cond_false, oh k (by omega)]
    ·have e1 : decide ((aP (l.take k)).length > 1232) = false := aA hlong;have eo := N8 (l := l) k (by omega) (by omega);have ew : IntKind.i64.wrap ((IntKind.i64.wrap (((uT l k).length : Int) + 4)) + (f.2.length : Int)) = ((aP (l.take (k + 1))).length : Int) := by rw [eo, wrap64 (n := ((aP (l.take k)).length : Int) + 4) (by omega) (by omega), wrap64 (by omega) (by omega)]; omega
     have ed : decide (((aP (l.take (k + 1))).length : Int) > 1232) = decide ((aP (l.take (k + 1))).length > 1232) := by
      by_cases q : (aP (l.take (k + 1))).length > 1232
      ·rw [au q, au (show ((aP (l.take (k + 1))).length : Int) > 1232 by omega)]
      ·rw [aA q, aA (show ¬ ((aP (l.take (k + 1))).length : Int) > 1232 by omega)]
     simp only [e1, ew, ed, Bool.false_or];by_cases hl2 : (aP (l.take (k + 1))).length > 1232
     ·have e2 : decide ((aP (l.take (k + 1))).length > 1232) = true := au hl2;have e3 : uT l (k + 1) = uT l k := by rw [uT, if_pos hl2]
      simp only [e2, e3, Bool.not_true, cond_false, oh k (by omega)]
     ·have e2 : decide ((aP (l.take (k + 1))).length > 1232) = false := aA hl2;have e3 : uT l (k + 1) = uT l k ++ jQ f := by rw [uT, if_neg hl2, hg]
      have e4 : IntKind.i64.wrap ((f.2.length : Int) + 4) = (f.2.length : Int) + 4 := wrap64 (by omega) (by omega);have e5 : Fz ((uT l k).length + (twoS f.1 ++ twoS ((f.2.length : Int) + 4) ++ f.2).length) = some () := by
       have : (twoS f.1 ++ twoS ((f.2.length : Int) + 4) ++ f.2).length = 4 + f.2.length := jY f;rw [this, eo];unfold Fz;rw [Nat.ble_eq_true_of_le (show (aP (l.take k)).length + (4 + f.2.length) <= 140737488355328 by omega)]; rfl
      simp only [e2, e3, e4, Bool.not_false, cond_true, oh k (by omega)];rw [cond_pos (au (by rw [jE, jE]; decide)), cond_pos (au (by rw [List.length_append, jE, jE]; unfold maxStr; omega)), e5];rfl)
 have e0 : dN.l0 .lim (false, l, (l.length : Int), 0, ([] : List Int), ()) = _ := e;rw [e0];unfold pI qj;rw [if_neg h16];cases hq : (List.range l.length).find? (fun k : Nat => !decide (fE (rd f0 l (k : Int)) = 0)) with
 | some k =>
  have hk := List.find?_some hq;simp only [Bool.not_eq_true', decide_eq_false_iff_not] at hk;simp only;have : fE (rd f0 l (k : Int)) = 13 \/ fE (rd f0 l (k : Int)) = 10 := by
   unfold fE at hk ⊢
   split
   ·exact .inl rfl
   ·split
    ·exact .inr rfl
    ·rename_i q1 q2; rw [if_neg q1, if_neg q2] at hk; exact absurd rfl hk
  rw [if_neg hk];rcases this with q | q
  ·rw [if_pos q, q]; rfl
  ·rw [if_neg (by omega), q]; rfl
 | none =>
  simp only [List.take_length];rw [dN.q0];simp only [dN.b0, aA (show ¬ (l.length : Int) < (l.length : Int) by omega), cond_false, Option.bind_some];by_cases hl : (aP l).length > 1232
  ·rw [au hl, if_pos hl]; rfl
  ·rw [aA hl, if_neg hl, N8 l.length (Nat.le_refl _) (by rw [List.take_length]; omega), List.take_length]; rfl
end Go.AM
end
section
namespace Go.AM
abbrev PK := Int × Int × Int × Int × Int × Int × Int × Int × Int × Int × Int × Int × Int × List FF
abbrev p0 : PK := ((0 : Int), (0, (0, (0, (0, (0, (0, (0, (0, (0, (0, (0, (0, ([] : List FF))))))))))))))
abbrev PK.fs (p : PK) : List FF := p.2.2.2.2.2.2.2.2.2.2.2.2.2
abbrev PK.cut (p : PK) (l : List FF) : PK := (p.1, p.2.1, p.2.2.1, p.2.2.2.1, p.2.2.2.2.1, p.2.2.2.2.2.1, p.2.2.2.2.2.2.1, p.2.2.2.2.2.2.2.1, p.2.2.2.2.2.2.2.2.1, p.2.2.2.2.2.2.2.2.2.1, p.2.2.2.2.2.2.2.2.2.2.1, p.2.2.2.2.2.2.2.2.2.2.2.1, p.2.2.2.2.2.2.2.2.2.2.2.2.1, l)
def N9 (n low high : Int) : Bool := decide (low <= n) && decide (n <= high)
def LK (p : PK) : Bool := N9 p.1 0 3 && N9 p.2.1 0 7 && N9 p.2.2.1 0 7 && N9 p.2.2.2.1 0 255 && N9 p.2.2.2.2.1 (-128) 127 && N9 p.2.2.2.2.2.1 (-128) 127
def rE (n : Int) (k : Nat) : Int := IntKind.u8.wrap (iR .u64 n (k : Int))
def RF (n : Int) : List Int := [rE n 24, rE n 16, rE n 8, rE n 0]
def by8 (n : Int) : List Int := [rE n 56, rE n 48, rE n 40, rE n 32, rE n 24, rE n 16, rE n 8, rE n 0]
def VJ (a b c : Int) : Int := IntKind.u8.wrap (Et .i64 (Et .i64 (jP .i64 a 6) (jP .i64 b 3)) c)
def vI (p : PK) : List Int := [VJ p.1 p.2.1 p.2.2.1, IntKind.u8.wrap p.2.2.2.1, IntKind.u8.wrap p.2.2.2.2.1, IntKind.u8.wrap p.2.2.2.2.2.1] ++
 (RF (IntKind.u64.wrap p.2.2.2.2.2.2.1) ++ (RF (IntKind.u64.wrap p.2.2.2.2.2.2.2.1) ++ (RF (IntKind.u64.wrap p.2.2.2.2.2.2.2.2.1) ++ (by8 p.2.2.2.2.2.2.2.2.2.1 ++ (by8 p.2.2.2.2.2.2.2.2.2.2.1 ++ (by8 p.2.2.2.2.2.2.2.2.2.2.2.1 ++ by8 p.2.2.2.2.2.2.2.2.2.2.2.2.1))))))
theorem uM (p : PK) : (vI p).length = 48 := rfl
def JX (p : PK) : Int := if LK p = true then qj p.fs else 13
def D5 (p : PK) : List Int := if JX p = 0 then vI p ++ aP p.fs else []
def gI (m : List Int) (bp : Nat) (g : Nat -> Int) : Nat -> List Int
 | 0 => m
 | i + 1 => (gI m bp g i).set (bp + i) (g i)
theorem kP (m : List Int) (bp : Nat) (g : Nat -> Int) : ∀ i, (gI m bp g i).length = m.length
 | 0 => rfl
 | i + 1 => by rw [gI, List.length_set, kP m bp g i]
theorem w_l0 {bp bq : Nat} (hb : bp <= 48) (hq : bq <= 8) (hq0 : 1 <= bq) (n : Int) (f : List Int) (t : List Int) (t3 : Int) (m : List Int) (m1 m2 m3 m4 m5 m6 m7 m8 m9 m10 m11 m12 m13 : Int) (m14 : List FF) :
  aQ.l0 .lim ((bp : Int), (bq : Int), n, (bq : Int), 0, f, t, t3, m, m1, m2, m3, m4, m5, m6, m7, m8, m9, m10, m11, m12, m13, m14, ()) =
   some (f, t, t3, m1, m2, m3, m4, m5, m6, m7, m8, m9, m10, m11, m12, m13, m14, gI m bp (fun i => rE n (8 * (bq - 1 - i))) bq, ()) := by
 have e := dI (f := aQ.l0 .lim) (fun i => ((bp : Int), (bq : Int), n, (bq : Int), (i : Int), f, t, t3, gI m bp (fun i => rE n (8 * (bq - 1 - i))) i, m1, m2, m3, m4, m5, m6, m7, m8, m9, m10, m11, m12, m13, m14, ())) (n := bq) (fun i hi => by
  rw [aQ.q0];have w1 : IntKind.i64.wrap (8 * (IntKind.i64.wrap ((IntKind.i64.wrap ((bq : Int) - 1)) - (i : Int)))) = ((8 * (bq - 1 - i) : Nat) : Int) := by rw [wrap64 (n := (bq : Int) - 1) (by omega) (by omega), wrap64 (n := (bq : Int) - 1 - (i : Int)) (by omega) (by omega), wrap64 (by omega) (by omega)]; omega
  have w2 : ((bp : Int) + (i : Int)).toNat = bp + i := by omega
  simp only [aQ.b0, au (show (i : Int) < (bq : Int) by omega), aI (show bq < 9223372036854775808 by omega), w1, au (show (0 : Int) <= ((8 * (bq - 1 - i) : Nat) : Int) by omega), aF (show (0 : Int) <= (i : Int) by omega) (show (i : Int) < (bq : Int) by omega), cond_true, oh i (by omega), w2];rfl)
 have e0 : aQ.l0 .lim ((bp : Int), (bq : Int), n, (bq : Int), 0, f, t, t3, m, m1, m2, m3, m4, m5, m6, m7, m8, m9, m10, m11, m12, m13, m14, ()) = _ := e;rw [e0, aQ.q0];simp only [aQ.b0, aA (show ¬ (bq : Int) < (bq : Int) by omega), cond_false]
theorem w_l2 {bp bq : Nat} (hb : bp <= 48) (hq : bq <= 8) (hq0 : 1 <= bq) (n : Int) (f : List Int) (t : List Int) (t3 : Int) (m : List Int) :
  aQ.l2 .lim ((bp : Int), (bq : Int), n, (bq : Int), 0, f, t, t3, m, ()) = some (f, t, t3, gI m bp (fun i => rE n (8 * (bq - 1 - i))) bq, ()) := by
 have e := dI (f := aQ.l2 .lim) (fun i => ((bp : Int), (bq : Int), n, (bq : Int), (i : Int), f, t, t3, gI m bp (fun i => rE n (8 * (bq - 1 - i))) i, ())) (n := bq) (fun i hi => by
  rw [aQ.q2];have w1 : IntKind.i64.wrap (8 * (IntKind.i64.wrap ((IntKind.i64.wrap ((bq : Int) - 1)) - (i : Int)))) = ((8 * (bq - 1 - i) : Nat) : Int) := by rw [wrap64 (n := (bq : Int) - 1) (by omega) (by omega), wrap64 (n := (bq : Int) - 1 - (i : Int)) (by omega) (by omega), wrap64 (by omega) (by omega)]; omega
  have w2 : ((bp : Int) + (i : Int)).toNat = bp + i := by omega
  simp only [aQ.b2, au (show (i : Int) < (bq : Int) by omega), aI (show bq < 9223372036854775808 by omega), w1, au (show (0 : Int) <= ((8 * (bq - 1 - i) : Nat) : Int) by omega), aF (show (0 : Int) <= (i : Int) by omega) (show (i : Int) < (bq : Int) by omega), cond_true, oh i (by omega), w2];rfl)
 have e0 : aQ.l2 .lim ((bp : Int), (bq : Int), n, (bq : Int), 0, f, t, t3, m, ()) = _ := e;rw [e0, aQ.q2];simp only [aQ.b2, aA (show ¬ (bq : Int) < (bq : Int) by omega), cond_false]
theorem UO (n low high : Int) : jI.run .lim (n, low, high, ()) = some (N9 n low high) := rfl
theorem w_l1 (f a : List Int) (x0 x1 x2 : Int) (ha : a = [x0, x1, x2]) (m : List Int) (m1 m2 m3 m4 m5 m6 m7 m8 m9 m10 m11 m12 m13 : Int) (m14 : List FF) :
  aQ.l1 .lim (f, a, 0, m1, m2, m3, m4, m5, m6, m7, m8, m9, m10, m11, m12, m13, m14, m, ()) =
   some (f, m1, m2, m3, m4, m5, m6, m7, m8, m9, m10, m11, m12, m13, m14,
    gI (gI (gI m 4 (fun i => rE (IntKind.u64.wrap x0) (8 * (4 - 1 - i))) 4) 8 (fun i => rE (IntKind.u64.wrap x1) (8 * (4 - 1 - i))) 4) 12 (fun i => rE (IntKind.u64.wrap x2) (8 * (4 - 1 - i))) 4, ()) := by
 subst ha;have step : ∀ (k : Nat) (hk : k < 3) (x : Int) (_ : rd 0 [x0, x1, x2] (k : Int) = x) (q : List Int), aQ.l1 .lim (f, [x0, x1, x2], (k : Int), m1, m2, m3, m4, m5, m6, m7, m8, m9, m10, m11, m12, m13, m14, q, ()) =
   aQ.l1 .lim (f, [x0, x1, x2], ((k + 1 : Nat) : Int), m1, m2, m3, m4, m5, m6, m7, m8, m9, m10, m11, m12, m13, m14, gI q (4 + 4 * k) (fun i => rE (IntKind.u64.wrap x) (8 * (4 - 1 - i))) 4, ()) := by
  intro k hk x hx q;rw [aQ.q1];have w1 : IntKind.i64.wrap (4 + IntKind.i64.wrap (4 * (k : Int))) = ((4 + 4 * k : Nat) : Int) := by rw [wrap64 (n := 4 * (k : Int)) (by omega) (by omega), wrap64 (by omega) (by omega)]; omega
  have w2 : IntKind.i64.wrap (8 + IntKind.i64.wrap (4 * (k : Int))) = ((8 + 4 * k : Nat) : Int) := by rw [wrap64 (n := 4 * (k : Int)) (by omega) (by omega), wrap64 (by omega) (by omega)]; omega
  have w3 : ((8 + 4 * k : Nat) : Int) - ((4 + 4 * k : Nat) : Int) = ((4 : Nat) : Int) := by omega
  have h := w_l0 (bp := 4 + 4 * k) (bq := 4) (by omega) (by omega) (by omega) (IntKind.u64.wrap x) f [x0, x1, x2] (k : Int) q m1 m2 m3 m4 m5 m6 m7 m8 m9 m10 m11 m12 m13 m14;simp only [aQ.b1, au (show (k : Int) < 3 by omega), aF (show (0 : Int) <= (k : Int) by omega) (show (k : Int) < 3 by omega), w1, w2, w3, aY (show (0 : Int) <= ((4 + 4 * k : Nat) : Int) by omega) (show ((4 + 4 * k : Nat) : Int) <= ((8 + 4 * k : Nat) : Int) by omega) (show ((8 + 4 * k : Nat) : Int) <= 48 by omega), aI (show 4 < 9223372036854775808 by decide), cond_true, hx, h, Option.bind_some, oh k (by omega)]
 have s0 := step 0 (by decide) x0 rfl m;have s1 := step 1 (by decide) x1 rfl (gI m 4 (fun i => rE (IntKind.u64.wrap x0) (8 * (4 - 1 - i))) 4);have s2 := step 2 (by decide) x2 rfl (gI (gI m 4 (fun i => rE (IntKind.u64.wrap x0) (8 * (4 - 1 - i))) 4) 8 (fun i => rE (IntKind.u64.wrap x1) (8 * (4 - 1 - i))) 4);refine (s0.trans (s1.trans s2)).trans ?_;rw [aQ.q1];simp only [aQ.b1, aA (show ¬ ((2 + 1 : Nat) : Int) < 3 by decide), cond_false]
theorem w_l3 (f a : List Int) (x0 x1 x2 x3 : Int) (ha : a = [x0, x1, x2, x3]) (m : List Int) :
  aQ.l3 .lim (f, a, 0, m, ()) =
   some (f, gI (gI (gI (gI m 16 (fun i => rE x0 (8 * (8 - 1 - i))) 8) 24 (fun i => rE x1 (8 * (8 - 1 - i))) 8) 32 (fun i => rE x2 (8 * (8 - 1 - i))) 8) 40 (fun i => rE x3 (8 * (8 - 1 - i))) 8, ()) := by
 subst ha;have step : ∀ (k : Nat) (hk : k < 4) (x : Int) (_ : rd 0 [x0, x1, x2, x3] (k : Int) = x) (q : List Int), aQ.l3 .lim (f, [x0, x1, x2, x3], (k : Int), q, ()) =
   aQ.l3 .lim (f, [x0, x1, x2, x3], ((k + 1 : Nat) : Int), gI q (16 + 8 * k) (fun i => rE x (8 * (8 - 1 - i))) 8, ()) := by
  intro k hk x hx q;rw [aQ.q3];have w1 : IntKind.i64.wrap (16 + IntKind.i64.wrap (8 * (k : Int))) = ((16 + 8 * k : Nat) : Int) := by rw [wrap64 (n := 8 * (k : Int)) (by omega) (by omega), wrap64 (by omega) (by omega)]; omega
  have w2 : IntKind.i64.wrap (24 + IntKind.i64.wrap (8 * (k : Int))) = ((24 + 8 * k : Nat) : Int) := by rw [wrap64 (n := 8 * (k : Int)) (by omega) (by omega), wrap64 (by omega) (by omega)]; omega
  have w3 : ((24 + 8 * k : Nat) : Int) - ((16 + 8 * k : Nat) : Int) = ((8 : Nat) : Int) := by omega
  have h := w_l2 (bp := 16 + 8 * k) (bq := 8) (by omega) (by omega) (by omega) x f [x0, x1, x2, x3] (k : Int) q;simp only [aQ.b3, au (show (k : Int) < 4 by omega), aF (show (0 : Int) <= (k : Int) by omega) (show (k : Int) < 4 by omega), w1, w2, w3, aY (show (0 : Int) <= ((16 + 8 * k : Nat) : Int) by omega) (show ((16 + 8 * k : Nat) : Int) <= ((24 + 8 * k : Nat) : Int) by omega) (show ((24 + 8 * k : Nat) : Int) <= 48 by omega), aI (show 8 < 9223372036854775808 by decide), cond_true, hx, h, Option.bind_some, oh k (by omega)]
 have s0 := step 0 (by decide) x0 rfl m;have s1 := step 1 (by decide) x1 rfl (gI m 16 (fun i => rE x0 (8 * (8 - 1 - i))) 8);have s2 := step 2 (by decide) x2 rfl (gI (gI m 16 (fun i => rE x0 (8 * (8 - 1 - i))) 8) 24 (fun i => rE x1 (8 * (8 - 1 - i))) 8);have s3 := step 3 (by decide) x3 rfl (gI (gI (gI m 16 (fun i => rE x0 (8 * (8 - 1 - i))) 8) 24 (fun i => rE x1 (8 * (8 - 1 - i))) 8) 32 (fun i => rE x2 (8 * (8 - 1 - i))) 8);refine (s0.trans (s1.trans (s2.trans s3))).trans ?_;rw [aQ.q3];simp only [aQ.b3, aA (show ¬ ((3 + 1 : Nat) : Int) < 4 by decide), cond_false]
theorem yD {l : List FF} : (pI l).length <= 1232 := by
 unfold pI;split
 ·rename_i h;unfold qj at h;split at h
  ·cases h
  ·split at h
   ·rename_i k hq;have hk := List.find?_some hq;simp only [Bool.not_eq_true', decide_eq_false_iff_not] at hk;exact absurd h hk
   ·split at h
    ·cases h
    ·omega
 ·simp
theorem RG (x0 x1 x2 x3 : Int) (a b c d e f g : Nat -> Int) :
  ((gI (gI (gI (gI (gI (gI (gI (((((List.replicate 48 (0 : Int)).set 0 x0).set 1 x1).set 2 x2).set 3 x3) 4 a 4) 8 b 4) 12 c 4) 16 d 8) 24 e 8) 32 f 8) 40 g 8).drop 0).take 48 =
   [x0, x1, x2, x3] ++ ([a 0, a 1, a 2, a 3] ++ ([b 0, b 1, b 2, b 3] ++ ([c 0, c 1, c 2, c 3] ++ ([d 0, d 1, d 2, d 3, d 4, d 5, d 6, d 7] ++ ([e 0, e 1, e 2, e 3, e 4, e 5, e 6, e 7] ++ ([f 0, f 1, f 2, f 3, f 4, f 5, f 6, f 7] ++ [g 0, g 1, g 2, g 3, g 4, g 5, g 6, g 7])))))) := by kernel_rfl
theorem JG {p : PK} (hl : FL p.fs) : aQ.run .lim (p, ()) = some (D5 p, JX p, ()) := by
 obtain ⟨a, b, c, d, e, g, r1, r2, r3, q1, q2, q3, q4, l⟩ := p;simp only [aQ.run, UO, Option.bind_some];unfold D5 JX LK;generalize N9 a 0 3 = c1;generalize N9 b 0 7 = c2;generalize N9 c 0 7 = c3;generalize N9 d 0 255 = c4;generalize N9 e (-128) 127 = c5;generalize N9 g (-128) 127 = c6;cases c1
 ·rfl
 cases c2
 ·rfl
 cases c3
 ·rfl
 cases c4
 ·rfl
 cases c5
 ·rfl
 cases c6
 ·rfl
 simp only [Bool.not_true, Bool.not_false, cond_true, cond_false, Option.bind_some, Bool.or_self, Bool.and_self, if_true];rw [FN hl];simp only [Option.bind_some];have hfl : (pI (PK.fs (a, b, c, d, e, g, r1, r2, r3, q1, q2, q3, q4, l))).length <= 1232 := yD;show (bif !decide (qj l = 0) then some (([] : List Int), qj l, ()) else _) = some (if qj l = 0 then _ else [], qj l, ());by_cases h0 : qj l = 0
 ·rw [au h0, if_pos h0];simp only [Bool.not_true, cond_false];rw [w_l1 _ ((((List.replicate 3 (0 : Int)).set 0 r1).set 1 r2).set 2 r3) r1 r2 r3 rfl];simp only [Option.bind_some];rw [w_l3 _ (((((List.replicate 4 (0 : Int)).set 0 q1).set 1 q2).set 2 q3).set 3 q4) q1 q2 q3 q4 rfl];simp only [Option.bind_some];have hf : pI l = aP l := by unfold pI; rw [if_pos h0]
  rw [cond_pos (au (show _ <= maxStr by rw [List.length_take, List.drop_zero, kP, kP, kP, kP, kP, kP, kP]; simp only [List.length_set, List.length_replicate]; unfold maxStr; omega)), h0, RG];have hf : pI (PK.fs (a, b, c, d, e, g, r1, r2, r3, q1, q2, q3, q4, l)) = aP (PK.fs (a, b, c, d, e, g, r1, r2, r3, q1, q2, q3, q4, l)) := hf;rw [hf];rfl
 ·rw [aA h0, if_neg h0]; rfl
end Go.AM
end
section
namespace Go.AM
def sg (c : Int) : Int := if c > 127 then c - 256 else c
def Zh (s : List Int) (fs : List FF) : PK := (rd 0 s 0 / 64, rd 0 s 0 / 8 % 8, rd 0 s 0 % 8, rd 0 s 1, sg (rd 0 s 2), sg (rd 0 s 3), eY ((s.take 8).drop 4), eY ((s.take 12).drop 8), eY ((s.take 16).drop 12),
 eY ((s.take 24).drop 16), eY ((s.take 32).drop 24), eY ((s.take 40).drop 32), eY ((s.take 48).drop 40), fs)
def Tj (s : List Int) : Int := if s.length < 48 then 11 else if s.length > 1280 then 12 else (Eo (s.drop 48).length (s.drop 48) []).2
def PZ (s : List Int) : PK := if Tj s = 0 then Zh s (Eo (s.drop 48).length (s.drop 48) []).1 else p0
theorem by_a {c : Int} (h : B8 c) : IntKind.i64.wrap (iR .u8 c 6) = c / 64 := jd (p := fun c => IntKind.i64.wrap (iR .u8 c 6) = c / 64) (by decide +kernel) h
theorem by_b {c : Int} (h : B8 c) : IntKind.i64.wrap (h_ .u8 (iR .u8 c 3) 7) = c / 8 % 8 := jd (p := fun c => IntKind.i64.wrap (h_ .u8 (iR .u8 c 3) 7) = c / 8 % 8) (by decide +kernel) h
theorem by_c {c : Int} (h : B8 c) : IntKind.i64.wrap (h_ .u8 c 7) = c % 8 := jd (p := fun c => IntKind.i64.wrap (h_ .u8 c 7) = c % 8) (by decide +kernel) h
theorem YT {c : Int} (h : B8 c) : IntKind.i64.wrap c = c := jd (p := fun c => IntKind.i64.wrap c = c) (by decide +kernel) h
theorem YU {c : Int} (h : B8 c) : dZ.run .lim (c, ()) = some (sg c) := by
 have e1 := YT h;unfold sg;simp only [dZ.run, e1];by_cases q : c > 127
 ·rw [au q, if_pos q, wrap64 (by omega) (by omega)]; rfl
 ·rw [aA q, if_neg q]; rfl
theorem val4 {t : List Int} (hb : Bs t) (hl : t.length = 4) : IntKind.u32.wrap (eY t) = eY t /\ RF (IntKind.u64.wrap (eY t)) = t := by
 have hv := Bd hb 4 (by omega);rw [List.take_of_length_le (by omega)] at hv;refine ⟨by rw [UJ]; omega, ?_⟩;rw [show IntKind.u64.wrap (eY t) = eY t by rw [yC]; omega]
 match t, hl with
 | [a, b, c, d], _ =>
  have h1 := hb a (by simp); have h2 := hb b (by simp); have h3 := hb c (by simp); have h4 := hb d (by simp);have e : eY [a, b, c, d] = ((a * 256 + b) * 256 + c) * 256 + d := by simp [eY]
  have s1 := iF (eY [a, b, c, d]) 0 24 .u64 (by decide);have s2 := iF (eY [a, b, c, d]) 0 16 .u64 (by decide);have s3 := iF (eY [a, b, c, d]) 0 8 .u64 (by decide);have s4 := iF (eY [a, b, c, d]) 0 0 .u64 (by decide);unfold RF rE;simp only [s1, s2, s3, s4];simp only [kV, e];congr 1
  ·omega
  congr 1
  ·omega
  congr 1
  ·omega
  congr 1;omega
theorem N_ {s : List Int} {a b : Nat} (h : b <= s.length) : ((s.take b).drop a).length = b - a := by rw [List.length_drop, List.length_take, Nat.min_eq_left h]
theorem RH {s : List Int} (hs : Bs s) (hl : s.length < 9223372036854775808) : gX.run .lim (s, ()) = some (PZ s, Tj s, ()) := by
 simp only [gX.run, aI hl, cond_true];unfold PZ Tj;by_cases h1 : s.length < 48
 ·rw [au (show (s.length : Int) < 48 by omega), if_pos h1]; rfl
 rw [aA (show ¬ (s.length : Int) < 48 by omega), if_neg h1];by_cases h2 : s.length > 1280
 ·rw [au (show (s.length : Int) > 1280 by omega), if_pos h2]; rfl
 rw [aA (show ¬ (s.length : Int) > 1280 by omega), if_neg h2];have hc : cut s 48 (s.length : Int) = s.drop 48 := NV (a := 48) rfl;simp only [cond_false, aY (show (0 : Int) <= 48 by omega) (show (48 : Int) <= (s.length : Int) by omega) (Int.le_refl _), cond_true, hc, Xn (hs.drop 48) (show (s.drop 48).length < 9223372036854775808 by rw [List.length_drop]; omega), Option.bind_some];generalize Eo (s.drop 48).length (s.drop 48) [] = r;obtain ⟨fs, e⟩ := r;simp only;by_cases h0 : e = 0
 ·rw [au h0, if_pos h0];have rb : ∀ k : Nat, k < 48 -> B8 (rd 0 s (k : Int)) := fun k hk => hs _ (jc (by omega) (by omega))
  have q0 : B8 (rd 0 s 0) := rb 0 (by decide);have q1 : B8 (rd 0 s 1) := rb 1 (by decide);have q2 : B8 (rd 0 s 2) := rb 2 (by decide);have q3 : B8 (rd 0 s 3) := rb 3 (by decide);have v : ∀ a b : Nat, a <= b -> b <= 48 -> b - a <= 8 -> aH.run .lim ((s.take b).drop a, ()) = some (eY ((s.take b).drop a)) := fun a b _ hb hq => zx ((hs.take b).drop a) (by rw [N_ (by omega)]; omega)
  have u : ∀ a b : Nat, b = a + 4 -> b <= 48 -> IntKind.u32.wrap (eY ((s.take b).drop a)) = eY ((s.take b).drop a) := fun a b h hb => (val4 ((hs.take b).drop a) (by rw [N_ (by omega)]; omega)).1
  have c1 : cut s 4 8 = (s.take 8).drop 4 := pG rfl rfl;have c2 : cut s 8 12 = (s.take 12).drop 8 := pG rfl rfl;have c3 : cut s 12 16 = (s.take 16).drop 12 := pG rfl rfl;have c4 : cut s 16 24 = (s.take 24).drop 16 := pG rfl rfl;have c5 : cut s 24 32 = (s.take 32).drop 24 := pG rfl rfl;have c6 : cut s 32 40 = (s.take 40).drop 32 := pG rfl rfl;have c7 : cut s 40 48 = (s.take 48).drop 40 := pG rfl rfl;have k : ∀ a b : Int, 0 <= a -> a <= b -> b <= 48 -> eX a b (s.length : Int) = true := fun a b x y z => aY x y (by omega)
  have i : ∀ a : Int, 0 <= a -> a < 48 -> inB a (s.length : Int) = true := fun a x y => aF x (by omega)
  simp only [Bool.not_true, cond_false, i 0 (by decide) (by decide), i 1 (by decide) (by decide), i 2 (by decide) (by decide), i 3 (by decide) (by decide), cond_true, k 4 8 (by decide) (by decide) (by decide), k 8 12 (by decide) (by decide) (by decide), k 12 16 (by decide) (by decide) (by decide), k 16 24 (by decide) (by decide) (by decide), k 24 32 (by decide) (by decide) (by decide), k 32 40 (by decide) (by decide) (by decide), k 40 48 (by decide) (by decide) (by decide),
   c1, c2, c3, c4, c5, c6, c7, v 4 8 (by decide) (by decide) (by decide), v 8 12 (by decide) (by decide) (by decide), v 12 16 (by decide) (by decide) (by decide), v 16 24 (by decide) (by decide) (by decide), v 24 32 (by decide) (by decide) (by decide), v 32 40 (by decide) (by decide) (by decide), v 40 48 (by decide) (by decide) (by decide), Option.bind_some, u 4 8 rfl (by decide), u 8 12 rfl (by decide), u 12 16 rfl (by decide), YU q2, YU q3]
  simp only [by_a q0, by_b q0, by_c q0, YT q1, h0];rfl
 ·rw [aA h0, if_neg h0]; rfl
structure Was (s : List Int) : Prop where
 l0 : 48 <= s.length
 l1 : s.length <= 1280
 eq : PZ s = Zh s (PZ s).fs
 st : s = s.take 48 ++ aP (PZ s).fs
 ok : ∀ f ∈ (PZ s).fs, N7 f
 few : (PZ s).fs.length <= 16
theorem was {s : List Int} (hs : Bs s) (h : Tj s = 0) : Was s := by
 have h1 : 48 <= s.length := by
  unfold Tj at h;split at h
  ·cases h
  ·omega
 have h2 : s.length <= 1280 := by
  unfold Tj at h;rw [if_neg (by omega)] at h;split at h
  ·cases h
  ·omega
 have h3 : (Eo (s.drop 48).length (s.drop 48) []).2 = 0 := by
  unfold Tj at h
  rwa [if_neg (by omega), if_neg (by omega)] at h
 obtain ⟨l, k1, k2, k3, k4⟩ := UL _ _ [] (Nat.le_refl _) (hs.drop 48) h3;have hr : PZ s = Zh s l := by unfold PZ; rw [if_pos h, k1]; rfl
 have hf : (PZ s).fs = l := by rw [hr]; rfl
 refine ⟨h1, h2, by rw [hf, hr], by rw [hf, <- k2, List.take_append_drop], by rw [hf]; exact k3, by rw [hf]; simpa using k4 (by simp)⟩
end Go.AM
end
section
namespace Go.AM
abbrev KK := List Int × List (List Int) × List Int × List Int
abbrev k0 : KK := ([], [], [], [])
theorem wk (k : Nat) (h : (k : Int) + 1 < 9223372036854775808) : IntKind.i64.wrap ((k : Int) + 1) = ((k + 1 : Nat) : Int) := by rw [wrap64 (by omega) (by omega)]; omega
theorem RI (a b : List (List Int)) (ha : a.length < 9223372036854775808) (hb : b.length < 9223372036854775808) : aW.run .lim (a, b, ()) = some (decide (a = b)) := by
 simp only [aW.run, aI ha, aI hb, cond_true];by_cases hl : a.length = b.length
 ·have e := mO (f := aW.l0 .lim) (fun k => (a, b, (a.length : Int), (k : Int), ())) a.length (fun k => !decide (rd ([] : List Int) a k = rd ([] : List Int) b k)) (some (.inl (false, ()))) (fun k hk => by
   rw [aW.q0];have w := wk k (by omega);simp (disch := omega) only [aN, aF, aY, wrap64, au, aA, dec_not, dec_and, dD, bK, cond_true, cond_false, Option.bind_some, Option.bind_none, Bool.or_true, Bool.true_or, Bool.and_true, Bool.true_and, Bool.and_false, Bool.false_and, Bool.or_false, Bool.false_or, Bool.not_true, Bool.not_false, Bool.or_self, Bool.and_self, Bool.not_not, if_true, if_false, and_self, true_and, and_true, and_false, false_and, or_true, true_or, or_false, false_or, not_true_eq_false, not_false_eq_true, decide_true, decide_false, eq_self, if_pos, if_neg, eU, dR, aW.b0, w])
  rw [Hw hl] at e;rw [cond_neg (by simp (disch := omega) only [aN, aF, aY, wrap64, au, aA, dec_not, dec_and, dD, bK, cond_true, cond_false, Option.bind_some, Option.bind_none, Bool.or_true, Bool.true_or, Bool.and_true, Bool.true_and, Bool.and_false, Bool.false_and, Bool.or_false, Bool.false_or, Bool.not_true, Bool.not_false, Bool.or_self, Bool.and_self, Bool.not_not, if_true, if_false, and_self, true_and, and_true, and_false, false_and, or_true, true_or, or_false, false_or, not_true_eq_false, not_false_eq_true, decide_true, decide_false, eq_self, if_pos, if_neg, eU, dR]), show (0 : Int) = ((0 : Nat) : Int) from rfl, e];by_cases h : a = b
  ·simp (disch := omega) only [aN, aF, aY, wrap64, au, aA, dec_not, dec_and, dD, bK, cond_true, cond_false, Option.bind_some, Option.bind_none, Bool.or_true, Bool.true_or, Bool.and_true, Bool.true_and, Bool.and_false, Bool.false_and, Bool.or_false, Bool.false_or, Bool.not_true, Bool.not_false, Bool.or_self, Bool.and_self, Bool.not_not, if_true, if_false, and_self, true_and, and_true, and_false, false_and, or_true, true_or, or_false, false_or, not_true_eq_false, not_false_eq_true, decide_true, decide_false, eq_self, if_pos, if_neg, eU, dR];rw [aW.q0];simp (disch := omega) only [aN, aF, aY, wrap64, au, aA, dec_not, dec_and, dD, bK, cond_true, cond_false, Option.bind_some, Option.bind_none, Bool.or_true, Bool.true_or, Bool.and_true, Bool.true_and, Bool.and_false, Bool.false_and, Bool.or_false, Bool.false_or, Bool.not_true, Bool.not_false, Bool.or_self, Bool.and_self, Bool.not_not, if_true, if_false, and_self, true_and, and_true, and_false, false_and, or_true, true_or, or_false, false_or, not_true_eq_false, not_false_eq_true, decide_true, decide_false, eq_self, if_pos, if_neg, eU, dR, aW.b0]
  ·simp (disch := omega) only [aN, aF, aY, wrap64, au, aA, dec_not, dec_and, dD, bK, cond_true, cond_false, Option.bind_some, Option.bind_none, Bool.or_true, Bool.true_or, Bool.and_true, Bool.true_and, Bool.and_false, Bool.false_and, Bool.or_false, Bool.false_or, Bool.not_true, Bool.not_false, Bool.or_self, Bool.and_self, Bool.not_not, if_true, if_false, and_self, true_and, and_true, and_false, false_and, or_true, true_or, or_false, false_or, not_true_eq_false, not_false_eq_true, decide_true, decide_false, eq_self, if_pos, if_neg, eU, dR]
 ·rw [cond_pos (by simp (disch := omega) only [aN, aF, aY, wrap64, au, aA, dec_not, dec_and, dD, bK, cond_true, cond_false, Option.bind_some, Option.bind_none, Bool.or_true, Bool.true_or, Bool.and_true, Bool.true_and, Bool.and_false, Bool.false_and, Bool.or_false, Bool.false_or, Bool.not_true, Bool.not_false, Bool.or_self, Bool.and_self, Bool.not_not, if_true, if_false, and_self, true_and, and_true, and_false, false_and, or_true, true_or, or_false, false_or, not_true_eq_false, not_false_eq_true, decide_true, decide_false, eq_self, if_pos, if_neg, eU, dR]), aA (fun q => hl (by rw [q]))]
theorem texts_eq (a b : List (List Int)) (ha : a.length < 9223372036854775808) (hb : b.length < 9223372036854775808) : bT.run .lim (a, b, ()) = some (decide (a = b)) := by
 simp only [bT.run, aI ha, aI hb, cond_true];by_cases hl : a.length = b.length
 ·have e := mO (f := bT.l0 .lim) (fun k => (a, b, (k : Int), ())) a.length (fun k => !decide (rd ([] : List Int) a k = rd ([] : List Int) b k)) (some (.inl (false, ()))) (fun k hk => by
   rw [bT.q0];have w := wk k (by omega);simp (disch := omega) only [aN, aF, aY, wrap64, au, aA, dec_not, dec_and, dD, bK, cond_true, cond_false, Option.bind_some, Option.bind_none, Bool.or_true, Bool.true_or, Bool.and_true, Bool.true_and, Bool.and_false, Bool.false_and, Bool.or_false, Bool.false_or, Bool.not_true, Bool.not_false, Bool.or_self, Bool.and_self, Bool.not_not, if_true, if_false, and_self, true_and, and_true, and_false, false_and, or_true, true_or, or_false, false_or, not_true_eq_false, not_false_eq_true, decide_true, decide_false, eq_self, if_pos, if_neg, eU, dR, bT.b0, w])
  rw [Hw hl] at e;rw [cond_neg (by simp (disch := omega) only [aN, aF, aY, wrap64, au, aA, dec_not, dec_and, dD, bK, cond_true, cond_false, Option.bind_some, Option.bind_none, Bool.or_true, Bool.true_or, Bool.and_true, Bool.true_and, Bool.and_false, Bool.false_and, Bool.or_false, Bool.false_or, Bool.not_true, Bool.not_false, Bool.or_self, Bool.and_self, Bool.not_not, if_true, if_false, and_self, true_and, and_true, and_false, false_and, or_true, true_or, or_false, false_or, not_true_eq_false, not_false_eq_true, decide_true, decide_false, eq_self, if_pos, if_neg, eU, dR]), show (0 : Int) = ((0 : Nat) : Int) from rfl, e];by_cases h : a = b
  ·simp (disch := omega) only [aN, aF, aY, wrap64, au, aA, dec_not, dec_and, dD, bK, cond_true, cond_false, Option.bind_some, Option.bind_none, Bool.or_true, Bool.true_or, Bool.and_true, Bool.true_and, Bool.and_false, Bool.false_and, Bool.or_false, Bool.false_or, Bool.not_true, Bool.not_false, Bool.or_self, Bool.and_self, Bool.not_not, if_true, if_false, and_self, true_and, and_true, and_false, false_and, or_true, true_or, or_false, false_or, not_true_eq_false, not_false_eq_true, decide_true, decide_false, eq_self, if_pos, if_neg, eU, dR];rw [bT.q0];simp (disch := omega) only [aN, aF, aY, wrap64, au, aA, dec_not, dec_and, dD, bK, cond_true, cond_false, Option.bind_some, Option.bind_none, Bool.or_true, Bool.true_or, Bool.and_true, Bool.true_and, Bool.and_false, Bool.false_and, Bool.or_false, Bool.false_or, Bool.not_true, Bool.not_false, Bool.or_self, Bool.and_self, Bool.not_not, if_true, if_false, and_self, true_and, and_true, and_false, false_and, or_true, true_or, or_false, false_or, not_true_eq_false, not_false_eq_true, decide_true, decide_false, eq_self, if_pos, if_neg, eU, dR, bT.b0]
  ·simp (disch := omega) only [aN, aF, aY, wrap64, au, aA, dec_not, dec_and, dD, bK, cond_true, cond_false, Option.bind_some, Option.bind_none, Bool.or_true, Bool.true_or, Bool.and_true, Bool.true_and, Bool.and_false, Bool.false_and, Bool.or_false, Bool.false_or, Bool.not_true, Bool.not_false, Bool.or_self, Bool.and_self, Bool.not_not, if_true, if_false, and_self, true_and, and_true, and_false, false_and, or_true, true_or, or_false, false_or, not_true_eq_false, not_false_eq_true, decide_true, decide_false, eq_self, if_pos, if_neg, eU, dR]
 ·rw [cond_pos (by simp (disch := omega) only [aN, aF, aY, wrap64, au, aA, dec_not, dec_and, dD, bK, cond_true, cond_false, Option.bind_some, Option.bind_none, Bool.or_true, Bool.true_or, Bool.and_true, Bool.true_and, Bool.and_false, Bool.false_and, Bool.or_false, Bool.false_or, Bool.not_true, Bool.not_false, Bool.or_self, Bool.and_self, Bool.not_not, if_true, if_false, and_self, true_and, and_true, and_false, false_and, or_true, true_or, or_false, false_or, not_true_eq_false, not_false_eq_true, decide_true, decide_false, eq_self, if_pos, if_neg, eU, dR]), aA (fun q => hl (by rw [q]))]
def Ae (a b : KK) : Bool := decide (a.1 = b.1) && decide (a.2.2.1 = b.2.2.1) && decide (a.2.1 = b.2.1)
theorem RJ (a b : KK) : Ae a b = Ae b a := by
 unfold Ae;rw [show decide (a.1 = b.1) = decide (b.1 = a.1) from by congr 1; exact propext ⟨Eq.symm, Eq.symm⟩, show decide (a.2.2.1 = b.2.2.1) = decide (b.2.2.1 = a.2.2.1) from by congr 1; exact propext ⟨Eq.symm, Eq.symm⟩, show decide (a.2.1 = b.2.1) = decide (b.2.1 = a.2.1) from by congr 1; exact propext ⟨Eq.symm, Eq.symm⟩]
theorem RN (a b : KK) (ha : a.2.1.length < 9223372036854775808) (hb : b.2.1.length < 9223372036854775808) : mP.run .lim (a, b, ()) = some (Ae a b) := by
 simp only [mP.run, RI _ _ ha hb];unfold Ae;cases decide (a.1 = b.1) && decide (a.2.2.1 = b.2.2.1) <;> rfl
theorem FP (a b : KK) (ha : a.2.1.length < 9223372036854775808) (hb : b.2.1.length < 9223372036854775808) : dH.run .lim (a, b, ()) = some (Ae a b) := by
 simp only [dH.run, texts_eq _ _ ha hb];unfold Ae;cases decide (a.1 = b.1) && decide (a.2.2.1 = b.2.2.1) <;> rfl
def byteOf (n : Int) (k : Nat) : Int := (n / 256 ^ k) % 256
def Af (n : Int) : List Int := (List.range 16).map fun i => byteOf n (15 - i)
def txt (n : Int) (plain : List Int) : List Int := Af n ++ List.replicate plain.length 0
theorem YV : ∀ n : Nat, Au [0] n = List.replicate n 0
 | 0 => rfl
 | n + 1 => by rw [Au, YV n]; rfl
def part (n : Int) (k : Nat) : List Int := (List.range 16).map fun i => if i < 16 - k then 0 else byteOf n (15 - i)
theorem FQ (n : Int) : part n 0 = List.replicate 16 0 := by
 unfold part;rw [List.eq_replicate_iff];refine ⟨by simp, fun b hb => ?_⟩;obtain ⟨i, hi, rfl⟩ := List.mem_map.1 hb;rw [if_pos (by have := List.mem_range.1 hi; omega)]
theorem DK (n : Int) (k : Nat) : (part n k).length = 16 := by simp [part]
theorem JH (n : Int) (k : Nat) (hk : k < 16) : (part n k).set (15 - k) (byteOf n k) = part n (k + 1) := by
 apply List.ext_getElem (by simp [part])
 intro i h1 h2;have hi : i < 16 := by rw [List.length_set, DK] at h1; exact h1
 rw [List.getElem_set];simp only [part, List.getElem_map, List.getElem_range];split
 ·rw [if_neg (by omega)]; congr 1; omega
 ·by_cases h : i < 16 - (k + 1)
  ·rw [if_pos (by omega), if_pos h]
  ·rw [if_neg (by omega), if_neg h]
theorem RP (n : Int) : part n 16 = Af n := by
 unfold part Af;apply List.map_congr_left
 intro i _; rw [if_neg (by omega)]
theorem JI {n : Int} (h0 : 0 <= n) (h1 : n < 9223372036854775808) {k : Nat} (hk : 8 <= k) : byteOf n k = 0 := by
 unfold byteOf;rw [Int.ediv_eq_zero_of_lt h0]; · rfl
 obtain ⟨j, rfl⟩ : ∃ j, k = 8 + j := ⟨k - 8, by omega⟩;rw [Int.pow_add];have : (0 : Int) < 256 ^ j := Int.pow_pos (by omega);have h2 : (256 : Int) ^ 8 * 1 <= 256 ^ 8 * 256 ^ j := Int.mul_le_mul_of_nonneg_left (by omega) (by decide);have h3 : (256 : Int) ^ 8 = 18446744073709551616 := by decide
 rw [h3] at h2 ⊢; omega
theorem YW {n : Int} (h0 : 0 <= n) (h1 : n < 9223372036854775808) : part n 8 = Af n := by
 unfold part Af;apply List.map_congr_left
 intro i _;split
 ·rw [JI h0 h1 (by omega)]
 ·rfl
theorem number_eq (n : Int) (plain : List Int) (h0 : 0 <= n) (h1 : n < 9223372036854775808) (hp : plain.length <= 100000) : dV.run .lim (n, plain, ()) = some (txt n plain) := by
 have e := dI (f := dV.l0 .lim) (fun k => (n, plain, (k : Int), part n k, ())) (n := 8) (fun k hk => by
  rw [dV.q0];have w := wk k (by omega);have w2 : IntKind.i64.wrap ((8 : Int) * k) = ((8 * k : Nat) : Int) := by rw [wrap64 (by omega) (by omega)]; omega
  have w3 : IntKind.i64.wrap ((15 : Int) - k) = ((15 - k : Nat) : Int) := by rw [wrap64 (by omega) (by omega)]; omega
  have hb : IntKind.u8.wrap (iR .i64 n ((8 * k : Nat) : Int)) = byteOf n k := by
   rw [kV];unfold iR byteOf;rw [Int.toNat_natCast, show min (8 * k) (IntKind.bits .i64) = 8 * k from by show min (8 * k) 64 = _; omega, Int.fdiv_eq_ediv_of_nonneg _ (Int.le_of_lt (Int.pow_pos (by omega))), Int.pow_mul];rfl
  simp (disch := omega) only [aN, aF, aY, wrap64, au, aA, dec_not, dec_and, dD, bK, cond_true, cond_false, Option.bind_some, Option.bind_none, Bool.or_true, Bool.true_or, Bool.and_true, Bool.true_and, Bool.and_false, Bool.false_and, Bool.or_false, Bool.false_or, Bool.not_true, Bool.not_false, Bool.or_self, Bool.and_self, Bool.not_not, if_true, if_false, and_self, true_and, and_true, and_false, false_and, or_true, true_or, or_false, false_or, not_true_eq_false, not_false_eq_true, decide_true, decide_false, eq_self, if_pos, if_neg, eU, dR, dV.b0, w, w2, w3, hb, Int.toNat_natCast, JH])
 rw [FQ, show ((0 : Nat) : Int) = 0 from rfl] at e;simp only [dV.run, e];rw [dV.q0];have hr : strings_Repeat.run .lim ([0], (plain.length : Int), ()) = some (List.replicate plain.length 0) := by
  show Ej _ = _;unfold Ej;rw [cond_pos (by simp; omega), Int.toNat_natCast, YV]
 simp (disch := omega) only [aN, aF, aY, wrap64, au, aA, dec_not, dec_and, dD, bK, cond_true, cond_false, Option.bind_some, Option.bind_none, Bool.or_true, Bool.true_or, Bool.and_true, Bool.true_and, Bool.and_false, Bool.false_and, Bool.or_false, Bool.false_or, Bool.not_true, Bool.not_false, Bool.or_self, Bool.and_self, Bool.not_not, if_true, if_false, and_self, true_and, and_true, and_false, false_and, or_true, true_or, or_false, false_or, not_true_eq_false, not_false_eq_true, decide_true, decide_false, eq_self, if_pos, if_neg, eU, dR, dV.b0, aI (show plain.length < 9223372036854775808 by omega), hr];rw [YW h0 h1, List.drop_zero, List.take_of_length_le (by simp [Af]), if_pos]
 ·rfl
 ·rw [List.length_replicate, Af, List.length_map, List.length_range]; unfold maxStr; omega
theorem RQ (n : Int) (plain : List Int) (h0 : 0 <= n) (h1 : n < 9223372036854775808) (hp : plain.length <= 100000) : bV.run .lim (n, plain, ()) = some (txt n plain) := by
 have w0 : IntKind.i64.wrap ((16 : Int) + plain.length) = ((16 + plain.length : Nat) : Int) := by rw [wrap64 (by omega) (by omega)]; omega
 have e := dI (f := bV.l0 .lim) (fun k => (n / 256 ^ k, (15 : Int) - k, part n k ++ List.replicate plain.length 0, ())) (n := 16) (fun k hk => by
  rw [bV.q0];have hn : 0 <= n / 256 ^ k := Int.ediv_nonneg h0 (Int.le_of_lt (Int.pow_pos (by omega)));have hn2 : n / 256 ^ k <= n := Int.ediv_le_self _ h0;have w1 : IntKind.i64.wrap ((n / 256 ^ k).tdiv 256) = n / 256 ^ (k + 1) := by
   rw [Int.tdiv_eq_ediv_of_nonneg hn, Int.ediv_ediv_of_nonneg (Int.le_of_lt (Int.pow_pos (by omega))), show (256 : Int) ^ k * 256 = 256 ^ (k + 1) from (Int.pow_succ _ _).symm];have : n / 256 ^ (k + 1) <= n := Int.ediv_le_self _ h0;have : 0 <= n / 256 ^ (k + 1) := Int.ediv_nonneg h0 (Int.le_of_lt (Int.pow_pos (by omega)));rw [wrap64 (by omega) (by omega)]
  have w2 : IntKind.i64.wrap ((15 : Int) - k - 1) = (15 : Int) - (k + 1 : Nat) := by rw [wrap64 (by omega) (by omega)]; omega
  have hb : IntKind.u8.wrap ((n / 256 ^ k).tmod 256) = byteOf n k := by rw [kV, Int.tmod_eq_emod_of_nonneg hn]; unfold byteOf; omega
  have hl : (part n k ++ List.replicate plain.length 0).length = 16 + plain.length := by simp [DK]
  have ht : ((15 : Int) - k).toNat = 15 - k := by omega
  have hs : (part n k ++ List.replicate plain.length (0 : Int)).set (15 - k) (byteOf n k) = part n (k + 1) ++ List.replicate plain.length 0 := by rw [List.set_append_left _ _ (by rw [DK]; omega), JH n k hk]
  simp (disch := omega) only [aN, aF, aY, wrap64, au, aA, dec_not, dec_and, dD, bK, cond_true, cond_false, Option.bind_some, Option.bind_none, Bool.or_true, Bool.true_or, Bool.and_true, Bool.true_and, Bool.and_false, Bool.false_and, Bool.or_false, Bool.false_or, Bool.not_true, Bool.not_false, Bool.or_self, Bool.and_self, Bool.not_not, if_true, if_false, and_self, true_and, and_true, and_false, false_and, or_true, true_or, or_false, false_or, not_true_eq_false, not_false_eq_true, decide_true, decide_false, eq_self, if_pos, if_neg, eU, dR, bV.b0, w1, w2, hb, hl, ht, hs])
 have hz : List.replicate (16 + plain.length) (0 : Int) = part n 0 ++ List.replicate plain.length 0 := by rw [FQ, List.replicate_append_replicate]
 rw [Int.pow_zero, Int.ediv_one, show (15 : Int) - ((0 : Nat) : Int) = 15 from rfl] at e;simp only [bV.run, w0, Int.toNat_natCast, hz, e];rw [bV.q0];simp (disch := omega) only [aN, aF, aY, wrap64, au, aA, dec_not, dec_and, dD, bK, cond_true, cond_false, Option.bind_some, Option.bind_none, Bool.or_true, Bool.true_or, Bool.and_true, Bool.true_and, Bool.and_false, Bool.false_and, Bool.or_false, Bool.false_or, Bool.not_true, Bool.not_false, Bool.or_self, Bool.and_self, Bool.not_not, if_true, if_false, and_self, true_and, and_true, and_false, false_and, or_true, true_or, or_false, false_or, not_true_eq_false, not_false_eq_true, decide_true, decide_false, eq_self, if_pos, if_neg, eU, dR, bV.b0, aI (show plain.length < 9223372036854775808 by omega)];rw [cond_pos (by rw [Nat.blt_eq]; omega), RP];rfl
end Go.AM
end
section
namespace Go.AM
abbrev VV := Bool × List KK
def UQ (k : KK) : Prop := k.1.length < 9223372036854775808 /\ k.2.1.length < 9223372036854775808 /\ (∀ s ∈ k.2.1, s.length < 9223372036854775808) /\ k.2.2.1.length < 9223372036854775808 /\ k.2.2.2.length < 9223372036854775808
def okV (v : VV) : Prop := v.2.length < 9223372036854775808 /\ ∀ k ∈ v.2, UQ k
theorem okV.at {v : VV} (h : okV v) {k : Nat} (hk : k < v.2.length) : UQ (rd k0 v.2 (k : Int)) := h.2 _ (jc (by omega) (by omega))
def uU (k : KK) : Int := if k.1.length ≠ 32 /\ k.1.length ≠ 64 then 13 else if k.2.1.length > 126 then 18 else 0
theorem LM (k : KK) (h : k.1.length < 9223372036854775808) (h2 : k.2.1.length < 9223372036854775808) : jX.run .lim (k, ()) = some (uU k) := by
 unfold uU;simp only [jX.run, aI h, aI h2, cond_true, Bool.or_true];by_cases h3 : k.1.length ≠ 32 /\ k.1.length ≠ 64
 ·rw [cond_pos (by simp (disch := omega) only [aN, aF, aY, wrap64, au, aA, dec_not, dec_and, dD, bK, cond_true, cond_false, Option.bind_some, Option.bind_none, Bool.or_true, Bool.true_or, Bool.and_true, Bool.true_and, Bool.and_false, Bool.false_and, Bool.or_false, Bool.false_or, Bool.not_true, Bool.not_false, Bool.or_self, Bool.and_self, Bool.not_not, if_true, if_false, and_self, true_and, and_true, and_false, false_and, or_true, true_or, or_false, false_or, not_true_eq_false, not_false_eq_true, decide_true, decide_false, eq_self, if_pos, if_neg, eU, dR, au (show ¬ ((k.1.length : Int) = 32) by omega), au (show ¬ ((k.1.length : Int) = 64) by omega)]), if_pos h3]
 ·rw [cond_neg, if_neg h3]
  ·by_cases h4 : k.2.1.length > 126 <;> simp (disch := omega) only [aN, aF, aY, wrap64, au, aA, dec_not, dec_and, dD, bK, cond_true, cond_false, Option.bind_some, Option.bind_none, Bool.or_true, Bool.true_or, Bool.and_true, Bool.true_and, Bool.and_false, Bool.false_and, Bool.or_false, Bool.false_or, Bool.not_true, Bool.not_false, Bool.or_self, Bool.and_self, Bool.not_not, if_true, if_false, and_self, true_and, and_true, and_false, false_and, or_true, true_or, or_false, false_or, not_true_eq_false, not_false_eq_true, decide_true, decide_false, eq_self, if_pos, if_neg, eU, dR]
  ·by_cases h4 : k.1.length = 32
   ·simp (disch := omega) only [aN, aF, aY, wrap64, au, aA, dec_not, dec_and, dD, bK, cond_true, cond_false, Option.bind_some, Option.bind_none, Bool.or_true, Bool.true_or, Bool.and_true, Bool.true_and, Bool.and_false, Bool.false_and, Bool.or_false, Bool.false_or, Bool.not_true, Bool.not_false, Bool.or_self, Bool.and_self, Bool.not_not, if_true, if_false, and_self, true_and, and_true, and_false, false_and, or_true, true_or, or_false, false_or, not_true_eq_false, not_false_eq_true, decide_true, decide_false, eq_self, if_pos, if_neg, eU, dR]
   ·simp (disch := omega) only [aN, aF, aY, wrap64, au, aA, dec_not, dec_and, dD, bK, cond_true, cond_false, Option.bind_some, Option.bind_none, Bool.or_true, Bool.true_or, Bool.and_true, Bool.true_and, Bool.and_false, Bool.false_and, Bool.or_false, Bool.false_or, Bool.not_true, Bool.not_false, Bool.or_self, Bool.and_self, Bool.not_not, if_true, if_false, and_self, true_and, and_true, and_false, false_and, or_true, true_or, or_false, false_or, not_true_eq_false, not_false_eq_true, decide_true, decide_false, eq_self, if_pos, if_neg, eU, dR]
def Ep (xs : List KK) (i : Nat) : Bool :=
 !decide (uU (rd k0 xs i) = 0) || decide ((rd k0 xs i).2.2.1.length > 65536) || !decide ((rd k0 xs i).2.2.2 = txt ((i : Int) + 1) (rd k0 xs i).2.2.1) || (List.range i).any fun j => Ae (rd k0 xs j) (rd k0 xs i)
def qR (v : VV) : Bool := bif v.1 then decide (v.2.length <= 2048) && !((List.range v.2.length).any (Ep v.2)) else decide (v.2.length = 0)
theorem UR (xs : List KK) (i : Nat) (q : KK) (b : Bool) (hi : i <= xs.length) (hy : xs.length < 9223372036854775808) (hok : ∀ k ∈ xs, UQ k) (hq : UQ q) :
  aX.l0 .lim ((i : Int), 0, b, xs, q.1, q.2.1, q.2.2.1, q.2.2.2, ()) = bif (List.range i).any (fun j => Ae (rd k0 xs j) q) then some (.inl (false, ())) else some (.inr ((i : Int), b, xs, ())) := by
 have e := mO (f := aX.l0 .lim) (fun j => ((i : Int), (j : Int), b, xs, q.1, q.2.1, q.2.2.1, q.2.2.2, ())) i (fun j => Ae (rd k0 xs j) q) (some (.inl (false, ()))) (fun k hk => by
  rw [aX.q0];have ha := FP q (rd k0 xs k) hq.2.1 (hok _ (jc (by omega) (by omega))).2.1;rw [RJ] at ha;have ha : dH.run .lim ((q.1, q.2.1, q.2.2.1, q.2.2.2), rd k0 xs k, ()) = some (Ae (rd k0 xs k) q) := ha;simp (disch := omega) only [aN, aF, aY, wrap64, au, aA, dec_not, dec_and, dD, bK, cond_true, cond_false, Option.bind_some, Option.bind_none, Bool.or_true, Bool.true_or, Bool.and_true, Bool.true_and, Bool.and_false, Bool.false_and, Bool.or_false, Bool.false_or, Bool.not_true, Bool.not_false, Bool.or_self, Bool.and_self, Bool.not_not, if_true, if_false, and_self, true_and, and_true, and_false, false_and, or_true, true_or, or_false, false_or, not_true_eq_false, not_false_eq_true, decide_true, decide_false, eq_self, if_pos, if_neg, eU, dR, aX.b0, wk k (by omega), ha])
 refine e.trans ?_;rw [aX.q0];simp (disch := omega) only [aN, aF, aY, wrap64, au, aA, dec_not, dec_and, dD, bK, cond_true, cond_false, Option.bind_some, Option.bind_none, Bool.or_true, Bool.true_or, Bool.and_true, Bool.true_and, Bool.and_false, Bool.false_and, Bool.or_false, Bool.false_or, Bool.not_true, Bool.not_false, Bool.or_self, Bool.and_self, Bool.not_not, if_true, if_false, and_self, true_and, and_true, and_false, false_and, or_true, true_or, or_false, false_or, not_true_eq_false, not_false_eq_true, decide_true, decide_false, eq_self, if_pos, if_neg, eU, dR, aX.b0]
theorem refB (q : KK) : ((!decide ((q.1.length : Int) = 32) && !decide ((q.1.length : Int) = 64)) || decide ((q.2.1.length : Int) > 126)) = !decide (uU q = 0) := by
 unfold uU;by_cases h1 : q.1.length ≠ 32 /\ q.1.length ≠ 64
 ·rw [if_pos h1, aA (show ¬ (q.1.length : Int) = 32 by omega), aA (show ¬ (q.1.length : Int) = 64 by omega)]; rfl
 ·rw [if_neg h1];have : (!decide ((q.1.length : Int) = 32) && !decide ((q.1.length : Int) = 64)) = false := by
   by_cases h2 : q.1.length = 32
   ·rw [au (by omega)]; rfl
   ·rw [au (show (q.1.length : Int) = 64 by omega), Bool.not_true, Bool.and_false]
  rw [this, Bool.false_or];by_cases h3 : q.2.1.length > 126
  ·rw [if_pos h3, au (by omega)]; rfl
  ·rw [if_neg h3, aA (by omega)]; rfl
theorem UU (v : VV) (h : okV v) : aX.run .lim (v, ()) = some (qR v) := by
 obtain ⟨b, xs⟩ := v;have hx : xs.length < 9223372036854775808 := h.1;unfold qR;simp only [aX.run, aI hx];cases b with
 | false => simp only [cond_true, cond_false, Option.bind_some, Option.bind_none, Bool.or_true, Bool.true_or, Bool.and_true, Bool.true_and, Bool.and_false, Bool.false_and, Bool.or_false, Bool.false_or, Bool.not_true, Bool.not_false, Bool.or_self, Bool.and_self, Bool.not_not]; congr 2; simp
 | true =>
  simp only [cond_true, cond_false, Option.bind_some, Option.bind_none, Bool.or_true, Bool.true_or, Bool.and_true, Bool.true_and, Bool.and_false, Bool.false_and, Bool.or_false, Bool.false_or, Bool.not_true, Bool.not_false, Bool.or_self, Bool.and_self, Bool.not_not];by_cases h1 : xs.length <= 2048
  ·obtain ⟨j, _, e⟩ := QX (f := aX.l1 .lim) (fun k => ((k : Int), true, xs, ())) xs.length (Ep xs) (fun k => bif (!decide (uU (rd k0 xs k) = 0) || decide ((rd k0 xs k).2.2.1.length > 65536) || !decide ((rd k0 xs k).2.2.2 = txt ((k : Int) + 1) (rd k0 xs k).2.2.1)) then some (.inl (false, ())) else some (.inr (.inl (false, ())))) (fun k hk => by
    rw [aX.q1];have w := wk k (by omega);have hk' : UQ (rd k0 xs k) := h.at (v := (true, xs)) hk;have hn := fun hh => RQ ((k : Int) + 1) (rd k0 xs k).2.2.1 (by omega) (by omega) hh
    have e2 := UR xs k (rd k0 xs k) true (by omega) hx h.2 hk';unfold Ep;simp only [aX.b1, aI hx, au (show (k : Int) < (xs.length : Int) by omega), aF (show (0 : Int) <= k by omega) (show (k : Int) < xs.length by omega), aI hk'.1, aI hk'.2.1, aI hk'.2.2.2.1, w, refB];rw [show ((k + 1 : Nat) : Int) = (k : Int) + 1 by omega];simp only [cond_true, cond_false, Option.bind_some, Option.bind_none, Bool.or_true, Bool.true_or, Bool.and_true, Bool.true_and, Bool.and_false, Bool.false_and, Bool.or_false, Bool.false_or, Bool.not_true, Bool.not_false, Bool.or_self, Bool.and_self, Bool.not_not];by_cases c1 : uU (rd k0 xs k) = 0
    ·by_cases c2 : (rd k0 xs k).2.2.1.length > 65536
     ·simp only [au c1, au c2, au (show ((rd k0 xs k).2.2.1.length : Int) > 65536 by omega)];simp only [cond_true, cond_false, Option.bind_some, Option.bind_none, Bool.or_true, Bool.true_or, Bool.and_true, Bool.true_and, Bool.and_false, Bool.false_and, Bool.or_false, Bool.false_or, Bool.not_true, Bool.not_false, Bool.or_self, Bool.and_self, Bool.not_not]
     ·simp only [au c1, aA c2, aA (show ¬ ((rd k0 xs k).2.2.1.length : Int) > 65536 by omega)];simp only [cond_true, cond_false, Option.bind_some, Option.bind_none, Bool.or_true, Bool.true_or, Bool.and_true, Bool.true_and, Bool.and_false, Bool.false_and, Bool.or_false, Bool.false_or, Bool.not_true, Bool.not_false, Bool.or_self, Bool.and_self, Bool.not_not];rw [hn (by omega)];simp only [cond_true, cond_false, Option.bind_some, Option.bind_none, Bool.or_true, Bool.true_or, Bool.and_true, Bool.true_and, Bool.and_false, Bool.false_and, Bool.or_false, Bool.false_or, Bool.not_true, Bool.not_false, Bool.or_self, Bool.and_self, Bool.not_not];by_cases c3 : (rd k0 xs k).2.2.2 = txt ((k : Int) + 1) (rd k0 xs k).2.2.1
      ·simp only [au c3];simp only [cond_true, cond_false, Option.bind_some, Option.bind_none, Bool.or_true, Bool.true_or, Bool.and_true, Bool.true_and, Bool.and_false, Bool.false_and, Bool.or_false, Bool.false_or, Bool.not_true, Bool.not_false, Bool.or_self, Bool.and_self, Bool.not_not];rw [e2];cases (List.range k).any fun j => Ae (rd k0 xs j) (rd k0 xs k)
       ·simp only [cond_true, cond_false, Option.bind_some, Option.bind_none, Bool.or_true, Bool.true_or, Bool.and_true, Bool.true_and, Bool.and_false, Bool.false_and, Bool.or_false, Bool.false_or, Bool.not_true, Bool.not_false, Bool.or_self, Bool.and_self, Bool.not_not]; rw [show IntKind.i64.wrap ((k : Int) + 1) = (k : Int) + 1 by rw [w]; omega]
       ·simp only [cond_true, cond_false, Option.bind_some, Option.bind_none, Bool.or_true, Bool.true_or, Bool.and_true, Bool.true_and, Bool.and_false, Bool.false_and, Bool.or_false, Bool.false_or, Bool.not_true, Bool.not_false, Bool.or_self, Bool.and_self, Bool.not_not]
      ·simp only [aA c3];simp only [cond_true, cond_false, Option.bind_some, Option.bind_none, Bool.or_true, Bool.true_or, Bool.and_true, Bool.true_and, Bool.and_false, Bool.false_and, Bool.or_false, Bool.false_or, Bool.not_true, Bool.not_false, Bool.or_self, Bool.and_self, Bool.not_not]
    ·simp only [aA c1];simp only [cond_true, cond_false, Option.bind_some, Option.bind_none, Bool.or_true, Bool.true_or, Bool.and_true, Bool.true_and, Bool.and_false, Bool.false_and, Bool.or_false, Bool.false_or, Bool.not_true, Bool.not_false, Bool.or_self, Bool.and_self, Bool.not_not])
   rw [show ((0 : Nat) : Int) = 0 from rfl] at e;rw [cond_neg (by simp (disch := omega) only [aN, aF, aY, wrap64, au, aA, dec_not, dec_and, dD, bK, cond_true, cond_false, Option.bind_some, Option.bind_none, Bool.or_true, Bool.true_or, Bool.and_true, Bool.true_and, Bool.and_false, Bool.false_and, Bool.or_false, Bool.false_or, Bool.not_true, Bool.not_false, Bool.or_self, Bool.and_self, Bool.not_not, if_true, if_false, and_self, true_and, and_true, and_false, false_and, or_true, true_or, or_false, false_or, not_true_eq_false, not_false_eq_true, decide_true, decide_false, eq_self, if_pos, if_neg, eU, dR]), e, aX.q1];simp (disch := omega) only [aN, aF, aY, wrap64, au, aA, dec_not, dec_and, dD, bK, cond_true, cond_false, Option.bind_some, Option.bind_none, Bool.or_true, Bool.true_or, Bool.and_true, Bool.true_and, Bool.and_false, Bool.false_and, Bool.or_false, Bool.false_or, Bool.not_true, Bool.not_false, Bool.or_self, Bool.and_self, Bool.not_not, if_true, if_false, and_self, true_and, and_true, and_false, false_and, or_true, true_or, or_false, false_or, not_true_eq_false, not_false_eq_true, decide_true, decide_false, eq_self, if_pos, if_neg, eU, dR, aX.b1, aI hx];cases (List.range xs.length).any (Ep xs)
   ·rfl
   ·simp only [cond_true, cond_false, Option.bind_some, Option.bind_none, Bool.or_true, Bool.true_or, Bool.and_true, Bool.true_and, Bool.and_false, Bool.false_and, Bool.or_false, Bool.false_or, Bool.not_true, Bool.not_false, Bool.or_self, Bool.and_self, Bool.not_not]; split <;> rfl
  ·rw [cond_pos (by simp (disch := omega) only [aN, aF, aY, wrap64, au, aA, dec_not, dec_and, dD, bK, cond_true, cond_false, Option.bind_some, Option.bind_none, Bool.or_true, Bool.true_or, Bool.and_true, Bool.true_and, Bool.and_false, Bool.false_and, Bool.or_false, Bool.false_or, Bool.not_true, Bool.not_false, Bool.or_self, Bool.and_self, Bool.not_not, if_true, if_false, and_self, true_and, and_true, and_false, false_and, or_true, true_or, or_false, false_or, not_true_eq_false, not_false_eq_true, decide_true, decide_false, eq_self, if_pos, if_neg, eU, dR]), aA h1];simp only [cond_true, cond_false, Option.bind_some, Option.bind_none, Bool.or_true, Bool.true_or, Bool.and_true, Bool.true_and, Bool.and_false, Bool.false_and, Bool.or_false, Bool.false_or, Bool.not_true, Bool.not_false, Bool.or_self, Bool.and_self, Bool.not_not]
theorem RU (a b : KK) : (Ae a b && decide (a.2.2.2 = b.2.2.2)) = decide (a = b) := by
 obtain ⟨a1, a2, a3, a4⟩ := a;obtain ⟨b1, b2, b3, b4⟩ := b;unfold Ae;simp only;by_cases h1 : a1 = b1 <;> by_cases h2 : a2 = b2 <;> by_cases h3 : a3 = b3 <;> by_cases h4 : a4 = b4 <;> simp [h1, h2, h3, h4]
theorem RV (v w : VV) (hv : okV v) (hw : okV w) : bW.run .lim (v, w, ()) = some (decide (v = w)) := by
 obtain ⟨a, xs⟩ := v;obtain ⟨b, ys⟩ := w;have hx : xs.length < 9223372036854775808 := hv.1;have hy : ys.length < 9223372036854775808 := hw.1;simp only [bW.run, aI hx, aI hy];by_cases hab : a = b
 ·subst hab;rw [show (a == a) = true by simp];simp only [cond_true, cond_false, Option.bind_some, Option.bind_none, Bool.or_true, Bool.true_or, Bool.and_true, Bool.true_and, Bool.and_false, Bool.false_and, Bool.or_false, Bool.false_or, Bool.not_true, Bool.not_false, Bool.or_self, Bool.and_self, Bool.not_not];by_cases hl : xs.length = ys.length
  ·have e := mO (f := bW.l0 .lim) (fun k => ((k : Int), a, xs, a, ys, ())) xs.length (fun k => !decide (rd k0 xs k = rd k0 ys k)) (some (.inl (false, ()))) (fun k hk => by
    rw [bW.q0];have hs := FP (rd k0 xs k) (rd k0 ys k) (hv.at hk).2.1 (hw.at (v := (a, ys)) (k := k) (by show k < ys.length; omega)).2.1;simp only [bW.b0, wk k (by omega), hs, aI hx, au (show (k : Int) < (xs.length : Int) by omega), aF (show (0 : Int) <= k by omega) (show (k : Int) < xs.length by omega), aF (show (0 : Int) <= k by omega) (show (k : Int) < ys.length by omega)];simp only [cond_true, cond_false, Option.bind_some, Option.bind_none, Bool.or_true, Bool.true_or, Bool.and_true, Bool.true_and, Bool.and_false, Bool.false_and, Bool.or_false, Bool.false_or, Bool.not_true, Bool.not_false, Bool.or_self, Bool.and_self, Bool.not_not];rw [<- RU (rd k0 xs k) (rd k0 ys k)];cases Ae (rd k0 xs k) (rd k0 ys k) <;> simp only [cond_true, cond_false, Option.bind_some, Option.bind_none, Bool.or_true, Bool.true_or, Bool.and_true, Bool.true_and, Bool.and_false, Bool.false_and, Bool.or_false, Bool.false_or, Bool.not_true, Bool.not_false, Bool.or_self, Bool.and_self, Bool.not_not])
   rw [Hw hl, show ((0 : Nat) : Int) = 0 from rfl] at e;rw [cond_neg (by simp (disch := omega) only [aN, aF, aY, wrap64, au, aA, dec_not, dec_and, dD, bK, cond_true, cond_false, Option.bind_some, Option.bind_none, Bool.or_true, Bool.true_or, Bool.and_true, Bool.true_and, Bool.and_false, Bool.false_and, Bool.or_false, Bool.false_or, Bool.not_true, Bool.not_false, Bool.or_self, Bool.and_self, Bool.not_not, if_true, if_false, and_self, true_and, and_true, and_false, false_and, or_true, true_or, or_false, false_or, not_true_eq_false, not_false_eq_true, decide_true, decide_false, eq_self, if_pos, if_neg, eU, dR]), e, bW.q0];simp (disch := omega) only [aN, aF, aY, wrap64, au, aA, dec_not, dec_and, dD, bK, cond_true, cond_false, Option.bind_some, Option.bind_none, Bool.or_true, Bool.true_or, Bool.and_true, Bool.true_and, Bool.and_false, Bool.false_and, Bool.or_false, Bool.false_or, Bool.not_true, Bool.not_false, Bool.or_self, Bool.and_self, Bool.not_not, if_true, if_false, and_self, true_and, and_true, and_false, false_and, or_true, true_or, or_false, false_or, not_true_eq_false, not_false_eq_true, decide_true, decide_false, eq_self, if_pos, if_neg, eU, dR, bW.b0, aI hx];by_cases h : xs = ys
   ·subst h; simp (disch := omega) only [aN, aF, aY, wrap64, au, aA, dec_not, dec_and, dD, bK, cond_true, cond_false, Option.bind_some, Option.bind_none, Bool.or_true, Bool.true_or, Bool.and_true, Bool.true_and, Bool.and_false, Bool.false_and, Bool.or_false, Bool.false_or, Bool.not_true, Bool.not_false, Bool.or_self, Bool.and_self, Bool.not_not, if_true, if_false, and_self, true_and, and_true, and_false, false_and, or_true, true_or, or_false, false_or, not_true_eq_false, not_false_eq_true, decide_true, decide_false, eq_self, if_pos, if_neg, eU, dR]
   ·rw [aA (fun q => h (Prod.mk.inj q).2)]; simp (disch := omega) only [aN, aF, aY, wrap64, au, aA, dec_not, dec_and, dD, bK, cond_true, cond_false, Option.bind_some, Option.bind_none, Bool.or_true, Bool.true_or, Bool.and_true, Bool.true_and, Bool.and_false, Bool.false_and, Bool.or_false, Bool.false_or, Bool.not_true, Bool.not_false, Bool.or_self, Bool.and_self, Bool.not_not, if_true, if_false, and_self, true_and, and_true, and_false, false_and, or_true, true_or, or_false, false_or, not_true_eq_false, not_false_eq_true, decide_true, decide_false, eq_self, if_pos, if_neg, eU, dR]
  ·rw [cond_pos (by simp (disch := omega) only [aN, aF, aY, wrap64, au, aA, dec_not, dec_and, dD, bK, cond_true, cond_false, Option.bind_some, Option.bind_none, Bool.or_true, Bool.true_or, Bool.and_true, Bool.true_and, Bool.and_false, Bool.false_and, Bool.or_false, Bool.false_or, Bool.not_true, Bool.not_false, Bool.or_self, Bool.and_self, Bool.not_not, if_true, if_false, and_self, true_and, and_true, and_false, false_and, or_true, true_or, or_false, false_or, not_true_eq_false, not_false_eq_true, decide_true, decide_false, eq_self, if_pos, if_neg, eU, dR]), aA];exact fun q => hl (by rw [(Prod.mk.inj q).2])
 ·rw [show (a == b) = false by simpa using hab, aA (fun q => hab (Prod.mk.inj q).1)];simp only [cond_true, cond_false, Option.bind_some, Option.bind_none, Bool.or_true, Bool.true_or, Bool.and_true, Bool.true_and, Bool.and_false, Bool.false_and, Bool.or_false, Bool.false_or, Bool.not_true, Bool.not_false, Bool.or_self, Bool.and_self, Bool.not_not]
theorem LP (v : VV) (h : okV v) : ∃ r, aK.run .lim (v, ()) = some r := by
 obtain ⟨b, xs⟩ := v;have hx : xs.length < 9223372036854775808 := h.1
 -- the inner loop
 have inner : ∀ (n : Nat) (left : Int) (j : Nat) (i : Int) (q : KK), UQ q -> j + n = q.2.1.length -> -9223372036854775808 <= left -> left < 9223372036854775808 -> ∃ l : Int, -9223372036854775808 <= l /\ l < 9223372036854775808 /\ aK.l0 .lim (left, i, (j : Int), b, xs, q.1, q.2.1, q.2.2.1, q.2.2.2, ()) = some (l, i, b, xs, ()) := by
  intro n
  induction n with
  | zero =>
   intro left j i q hq hj h1 h2;refine ⟨left, h1, h2, ?_⟩;rw [aK.q0];simp (disch := omega) only [aN, aF, aY, wrap64, au, aA, dec_not, dec_and, dD, bK, cond_true, cond_false, Option.bind_some, Option.bind_none, Bool.or_true, Bool.true_or, Bool.and_true, Bool.true_and, Bool.and_false, Bool.false_and, Bool.or_false, Bool.false_or, Bool.not_true, Bool.not_false, Bool.or_self, Bool.and_self, Bool.not_not, if_true, if_false, and_self, true_and, and_true, and_false, false_and, or_true, true_or, or_false, false_or, not_true_eq_false, not_false_eq_true, decide_true, decide_false, eq_self, if_pos, if_neg, eU, dR, aK.b0, aI hq.2.1]
  | succ n ih =>
   intro left j i q hq hj h1 h2;have hb := @zk (left - ((rd ([] : List Int) q.2.1 (j : Int)).length : Int));have hs := hq.2.2.1 (rd ([] : List Int) q.2.1 (j : Int)) (jc (by omega) (by omega));by_cases hl : left >= 0
   ·obtain ⟨l, l1, l2, e⟩ := ih (IntKind.i64.wrap (left - ((rd ([] : List Int) q.2.1 (j : Int)).length : Int))) (j + 1) i q hq (by omega) hb.1 hb.2;refine ⟨l, l1, l2, ?_⟩;rw [aK.q0, <- e];have hj' := hq.2.1;simp only [aK.b0, aI hq.2.1, wk j (by omega), aI hs, au hl, au (show (j : Int) < (q.2.1.length : Int) by omega), aF (show (0 : Int) <= j by omega) (show (j : Int) < q.2.1.length by omega)];simp only [cond_true, cond_false, Option.bind_some, Option.bind_none, Bool.or_true, Bool.true_or, Bool.and_true, Bool.true_and, Bool.and_false, Bool.false_and, Bool.or_false, Bool.false_or, Bool.not_true, Bool.not_false, Bool.or_self, Bool.and_self, Bool.not_not]
   ·refine ⟨left, h1, h2, ?_⟩;rw [aK.q0];simp (disch := omega) only [aN, aF, aY, wrap64, au, aA, dec_not, dec_and, dD, bK, cond_true, cond_false, Option.bind_some, Option.bind_none, Bool.or_true, Bool.true_or, Bool.and_true, Bool.true_and, Bool.and_false, Bool.false_and, Bool.or_false, Bool.false_or, Bool.not_true, Bool.not_false, Bool.or_self, Bool.and_self, Bool.not_not, if_true, if_false, and_self, true_and, and_true, and_false, false_and, or_true, true_or, or_false, false_or, not_true_eq_false, not_false_eq_true, decide_true, decide_false, eq_self, if_pos, if_neg, eU, dR, aK.b0, aI hq.2.1]
 have outer : ∀ (n : Nat) (left : Int) (i : Nat), i + n = xs.length -> -9223372036854775808 <= left -> left < 9223372036854775808 -> ∃ l : Int, aK.l1 .lim (left, (i : Int), b, xs, ()) = some (l, b, xs, ()) := by
  intro n
  induction n with
  | zero =>
   intro left i hi h1 h2;refine ⟨left, ?_⟩;rw [aK.q1];simp (disch := omega) only [aN, aF, aY, wrap64, au, aA, dec_not, dec_and, dD, bK, cond_true, cond_false, Option.bind_some, Option.bind_none, Bool.or_true, Bool.true_or, Bool.and_true, Bool.true_and, Bool.and_false, Bool.false_and, Bool.or_false, Bool.false_or, Bool.not_true, Bool.not_false, Bool.or_self, Bool.and_self, Bool.not_not, if_true, if_false, and_self, true_and, and_true, and_false, false_and, or_true, true_or, or_false, false_or, not_true_eq_false, not_false_eq_true, decide_true, decide_false, eq_self, if_pos, if_neg, eU, dR, aK.b1, aI hx]
  | succ n ih =>
   intro left i hi h1 h2;by_cases hl : left >= 0
   ·have hk : UQ (rd k0 xs i) := h.at (v := (b, xs)) (by show i < xs.length; omega);rw [aK.q1];simp only [aK.b1, aI hx, aI hk.1, aI hk.2.1, aI hk.2.2.2.1, aI hk.2.2.2.2, au hl, au (show (i : Int) < (xs.length : Int) by omega), aF (show (0 : Int) <= i by omega) (show (i : Int) < xs.length by omega)];simp only [cond_true, cond_false, Option.bind_some, Option.bind_none, Bool.or_true, Bool.true_or, Bool.and_true, Bool.true_and, Bool.and_false, Bool.false_and, Bool.or_false, Bool.false_or, Bool.not_true, Bool.not_false, Bool.or_self, Bool.and_self, Bool.not_not];obtain ⟨l, l1, l2, e⟩ := inner _ (IntKind.i64.wrap (IntKind.i64.wrap (IntKind.i64.wrap (IntKind.i64.wrap (IntKind.i64.wrap (left - 10) - ((rd k0 xs i).1.length : Int)) - ((rd k0 xs i).2.2.1.length : Int)) - ((rd k0 xs i).2.2.2.length : Int)) - ((rd k0 xs i).2.1.length : Int))) 0 (i : Int) (rd k0 xs i) hk (Nat.zero_add _) zk.1 zk.2;rw [show ((0 : Nat) : Int) = 0 from rfl] at e;rw [e];obtain ⟨l', e'⟩ := ih l (i + 1) (by omega) l1 l2;refine ⟨l', ?_⟩;rw [<- e'];simp (disch := omega) only [aN, aF, aY, wrap64, au, aA, dec_not, dec_and, dD, bK, cond_true, cond_false, Option.bind_some, Option.bind_none, Bool.or_true, Bool.true_or, Bool.and_true, Bool.true_and, Bool.and_false, Bool.false_and, Bool.or_false, Bool.false_or, Bool.not_true, Bool.not_false, Bool.or_self, Bool.and_self, Bool.not_not, if_true, if_false, and_self, true_and, and_true, and_false, false_and, or_true, true_or, or_false, false_or, not_true_eq_false, not_false_eq_true, decide_true, decide_false, eq_self, if_pos, if_neg, eU, dR, wk i (by omega)]
   ·refine ⟨left, ?_⟩;rw [aK.q1];simp (disch := omega) only [aN, aF, aY, wrap64, au, aA, dec_not, dec_and, dD, bK, cond_true, cond_false, Option.bind_some, Option.bind_none, Bool.or_true, Bool.true_or, Bool.and_true, Bool.true_and, Bool.and_false, Bool.false_and, Bool.or_false, Bool.false_or, Bool.not_true, Bool.not_false, Bool.or_self, Bool.and_self, Bool.not_not, if_true, if_false, and_self, true_and, and_true, and_false, false_and, or_true, true_or, or_false, false_or, not_true_eq_false, not_false_eq_true, decide_true, decide_false, eq_self, if_pos, if_neg, eU, dR, aK.b1, aI hx]
 obtain ⟨l, e⟩ := outer xs.length 400000 0 (by omega) (by omega) (by omega);rw [show ((0 : Nat) : Int) = 0 from rfl] at e;refine ⟨decide (l >= 0) && decide ((xs.length : Int) <= 300), ?_⟩;simp only [aK.run, e, aI hx];simp only [cond_true, cond_false, Option.bind_some, Option.bind_none, Bool.or_true, Bool.true_or, Bool.and_true, Bool.true_and, Bool.and_false, Bool.false_and, Bool.or_false, Bool.false_or, Bool.not_true, Bool.not_false, Bool.or_self, Bool.and_self, Bool.not_not, aI hx]
end Go.AM
end
section
namespace Go.AM
theorem zy {n : Nat} (h : n <= 140737488351232) : n < 9223372036854775808 := by omega
theorem ok_v {v : VV} (h : Ty.ok (.pair .bool (.lst (.pair .str (.pair (.lst .str) (.pair .str .str))))) v) : okV v := by
 obtain ⟨_, h1, h2⟩ := h;refine ⟨zy h1, fun k hk => ?_⟩;obtain ⟨a, ⟨b1, b2⟩, c, d⟩ := h2 k hk;exact ⟨zy a.1, zy b1, fun s hs => zy (b2 s hs).1, zy c.1, zy d.1⟩
end Go.AM
end
section
namespace Go.AM
theorem wH {n : Nat} (h : n < 9223372036854775808) : n < fK := h
def um (a b : List Int) : List Int := tab a.length fun i => dX .u8 (rd 0 a (i : Int)) (rd 0 b (i : Int))
@[simp] theorem jZ (a b : List Int) : (um a b).length = a.length := jm
theorem RX (a b : List Int) : Bs (um a b) := FH fun _ _ => Ac _ _
theorem oW {a b : List Int} (h : a.length <= b.length) (hb : b.length < 1000000000000) : fF.run .lim (a, b, ()) = some (um a b) := by
 have e := iP (f := fF.l0 .lim) (fun k m => (b, (a.length : Int), (k : Int), m, ())) (fun k v => dX .u8 v (rd 0 b (k : Int))) a rfl (fun k hk m' hm hj => by
  rw [fF.q0];simp only [fF.b0, au (show (k : Int) < (a.length : Int) by omega), hm, aF (show (0 : Int) <= k by omega) (show (k : Int) < (a.length : Int) by omega), aF (show (0 : Int) <= k by omega) (show (k : Int) < (b.length : Int) by omega), cond_true, oh k (by omega), hj k (Nat.le_refl _), Int.toNat_natCast])
 simp only [fF.run, aI (show a.length < 9223372036854775808 by omega), cond_true];rw [show (0 : Int) = ((0 : Nat) : Int) from rfl, e, fF.q0];simp only [fF.b0, aA (show ¬ (a.length : Int) < (a.length : Int) by omega), cond_false, Option.bind_some];rfl
theorem VK : ∀ n : Nat, Au [0] n = List.replicate n 0
 | 0 => rfl
 | n + 1 => by rw [Au, VK n]; rfl
theorem ql {n : Nat} (h : n <= 1000000) : iC.run .lim ((n : Int), ()) = some (List.replicate n 0) := by
 have : strings_Repeat.run .lim ([0], (n : Int), ()) = some (List.replicate n 0) := by
  show Ej _ = _;unfold Ej;rw [cond_pos (by simp; omega), Int.toNat_natCast, VK]
 simp only [iC.run, this, Option.bind_some]
def P5 (b : List Int) (i : Nat) : Int := if i = 15 then jP .u8 (rd 0 b 15) 1 else Et .u8 (jP .u8 (rd 0 b (i : Int)) 1) (iR .u8 (rd 0 b ((i + 1 : Nat) : Int)) 7)
def Es (b : List Int) : List Int := if rd 0 b 0 >= 128 then (tab 16 (P5 b)).set 15 (dX .u8 (jP .u8 (rd 0 b 15) 1) 135) else tab 16 (P5 b)
theorem VL (b : List Int) (i : Nat) : B8 (P5 b i) := by unfold P5; split <;> first | exact NK _ _ | exact ZJ _ _
theorem qU (b : List Int) : DI (Es b) := by
 unfold Es;split
 ·refine ⟨by simp, fun x hx => ?_⟩;rcases List.mem_or_eq_of_mem_set hx with h | rfl
  ·exact FH (fun k _ => VL b k) x h
  ·exact Ac _ _
 ·exact ⟨jm, FH fun k _ => VL b k⟩
theorem or_zero {a : Int} (h : B8 a) : Et .u8 a 0 = a := by
 show IntKind.u8.wrap (BitVec.ofInt 8 a ||| BitVec.ofInt 8 0).toNat = a;rw [show BitVec.ofInt 8 0 = 0#8 from rfl, BitVec.or_zero, BitVec.toNat_ofInt, kV];unfold B8 at h;omega
def Tn (b : List Int) (k : Nat) : List Int := tab 16 fun i => if k <= i then P5 b i else rd 0 b (i : Int)
theorem UW {b : List Int} {k : Nat} (hk : k < 16) : (Tn b (k + 1)).set k (P5 b k) = Tn b k := by
 unfold Tn;rw [Bc];refine jg fun i _ => ?_
 by_cases h1 : i = k
 ·subst h1; rw [if_pos rfl, if_pos (Nat.le_refl _)]
 ·rw [if_neg h1];by_cases h2 : k <= i
  ·rw [if_pos h2, if_pos (by omega)]
  ·rw [if_neg h2, if_neg (by omega)]
theorem Xo {b : List Int} {k : Nat} (hk : k < 16) : rd 0 (Tn b (k + 1)) (k : Int) = rd 0 b (k : Int) := by unfold Tn; rw [qL hk, if_neg (by omega)]
theorem Xp {x : Int} (h : B8 x) : IntKind.u8.wrap (iR .u8 x 7 * 135) = if x >= 128 then 135 else 0 :=
 jd (p := fun x => IntKind.u8.wrap (iR .u8 x 7 * 135) = if x >= 128 then 135 else 0) (by decide +kernel) h
theorem Pq {b : List Int} (hb : DI b) : iQ.run .lim (b, ()) = some (Es b, 0, ()) := by
 obtain ⟨hl, hB⟩ := hb;have h0 : ∀ (b : List Int), tab 16 (fun i => if 16 <= i then P5 b i else rd 0 b (i : Int)) = tab 16 fun i => rd 0 b (i : Int) := fun b => jg fun i hi => by rw [if_neg (by omega)]
 have e := dI (f := iQ.l0 .lim) (fun k => ((15 : Int) - (k : Int), (if k = 0 then 0 else iR .u8 (rd 0 b ((16 - k : Nat) : Int)) 7 : Int), Tn b (16 - k), ())) (n := 16) (fun k hk => by
  rw [iQ.q0];have ei : (15 : Int) - (k : Int) = ((15 - k : Nat) : Int) := by omega
  have w1 : IntKind.i64.wrap (((15 - k : Nat) : Int) - 1) = (15 : Int) - ((k + 1 : Nat) : Int) := by rw [wrap64 (by omega) (by omega)]; omega
  have hr := Xo (b := b) (k := 15 - k) (by omega);have hs := UW (b := b) (k := 15 - k) (by omega);rw [show 15 - k + 1 = 16 - k by omega] at hr hs;have hx : B8 (rd 0 b ((15 - k : Nat) : Int)) := hB _ (jc (by omega) (by omega));have hg : Et .u8 (jP .u8 (rd 0 b ((15 - k : Nat) : Int)) 1) (if k = 0 then 0 else iR .u8 (rd 0 b ((16 - k : Nat) : Int)) 7) = P5 b (15 - k) := by
   unfold P5;by_cases hk0 : k = 0
   ·subst hk0; rw [if_pos rfl, if_pos (by omega), or_zero (NK _ _)]; rfl
   ·rw [if_neg hk0, if_neg (by omega), show 15 - k + 1 = 16 - k by omega]
  have hl2 : (Tn b (16 - k)).length = 16 := jm;rw [ei];simp only [iQ.b0, au (show ((15 - k : Nat) : Int) >= 0 by omega), hl2, aF (show (0 : Int) <= ((15 - k : Nat) : Int) by omega) (show ((15 - k : Nat) : Int) < ((16 : Nat) : Int) by omega), cond_true, hr, w1, Int.toNat_natCast, hg, hs];rw [if_neg (by omega), show 16 - (k + 1) = 15 - k by omega])
 have hst : Tn b 16 = b := by unfold Tn; rw [h0, <- Hy hl]
 have w0 : IntKind.i64.wrap ((b.length : Int) - 1) = 15 := by rw [wrap64 (by omega) (by omega)]; omega
 rw [Nat.sub_zero, hst, if_pos rfl, show (15 : Int) - ((0 : Nat) : Int) = 15 from rfl, if_neg (by omega), Nat.sub_self] at e;have e0 : Tn b 0 = tab 16 (P5 b) := jg fun i _ => by rw [if_pos (Nat.zero_le _)]
 simp only [iQ.run, aI (show b.length < 9223372036854775808 by omega), cond_true, au (show (b.length : Int) = 16 by omega), Bool.not_true, cond_false, w0, e, e0];rw [iQ.q0];have hx0 : B8 (rd 0 b ((0 : Nat) : Int)) := hB _ (jc (by omega) (by omega));simp only [iQ.b0, aA (show ¬ ((15 : Int) - ((16 : Nat) : Int) >= 0) by omega), cond_false, Option.bind_some, jm, aF (show (0 : Int) <= 15 by omega) (show (15 : Int) < ((16 : Nat) : Int) by omega), cond_true, Xp hx0];have h15 : rd 0 (tab 16 (P5 b)) 15 = jP .u8 (rd 0 b 15) 1 := by
  have := qL (n := 16) (g := P5 b) (k := 15) (by omega);rw [show ((15 : Nat) : Int) = 15 from rfl] at this;rw [this]; rfl
 rw [h15];unfold Es;rw [show ((0 : Nat) : Int) = 0 from rfl];by_cases hc : rd 0 b 0 >= 128
 ·rw [if_pos hc, if_pos hc]
 ·rw [if_neg hc, if_neg hc, xor_zero (NK _ _), Bc];congr 2
theorem qV {b : List Int} (hb : DI b) : jJ.run .lim (b, ()) = some (Es b) := by simp only [jJ.run, Pq hb, Option.bind_some]
def DL (s : List Int) : List Int := s ++ (128 :: List.replicate (15 - s.length) 0)
theorem yE {s : List Int} (h : s.length < 16) : (DL s).length = 16 := by simp [DL]; omega
noncomputable def Tq (key s : List Int) : Nat -> List Int
 | 0 => FD
 | k + 1 => encS key (um (Tq key s k) ((s.drop (16 * k)).take 16))
theorem RY (key s : List Int) : ∀ k, DI (Tq key s k)
 | 0 => ⟨rfl, fun x hx => by rw [(List.mem_replicate.1 hx).2]; exact ⟨by decide, by decide⟩⟩
 | _ + 1 => qQ _ _
noncomputable def Bf (key : List Int) : List Int := Es (encS key FD)
noncomputable def vJ (key s : List Int) : List Int := if s.length = 16 then um s (Bf key) else um (DL s) (Es (Bf key))
noncomputable def RZ (key s : List Int) : List Int := encS key (um (Tq key s ((s.length - 1) / 16)) (vJ key (s.drop (16 * ((s.length - 1) / 16)))))
theorem DN (key s : List Int) : DI (RZ key s) := qQ _ _
theorem Ia {key b : List Int} (hk : key.length = 16 \/ key.length = 32) (hb : b.length = 16) : encR key b = (encS key b, 0) := by unfold encR; rw [if_pos hk, if_pos hb]
theorem Pv {key s : List Int} (h : s.length <= 16) : (vJ key s).length = 16 := by
 unfold vJ;split
 ·simpa
 ·rw [jZ, yE (by omega)]
section
variable {key s : List Int}
theorem yF (hk : key.length = 16 \/ key.length = 32) (hkb : Bs key) (hs : s.length < fK) : cu.run .lim ((key, Bf key, Es (Bf key)), s, ()) = some (RZ key s) := by
 have z := ql (n := 16) (by omega);have hloop := dI (f := cu.l0 .lim) (fun k => (s.drop (16 * k), key, Bf key, Es (Bf key), Tq key s k, key, Bf key, Es (Bf key), ())) (n := (s.length - 1) / 16) (fun k hk' => by
  rw [cu.q0];have hl : (s.drop (16 * k)).length = s.length - 16 * k := List.length_drop;have hc := RY key s k;have h1 : cut (s.drop (16 * k)) 0 16 = (s.drop (16 * k)).take 16 := by have := uS (s.drop (16 * k)) 0 16; simpa using this
  have h2 : cut (s.drop (16 * k)) 16 ((s.drop (16 * k)).length : Int) = s.drop (16 * (k + 1)) := by
   have := uS (s.drop (16 * k)) 16 (s.drop (16 * k)).length;rw [show ((16 : Nat) : Int) = 16 from rfl] at this;rw [this, List.drop_drop, List.take_of_length_le (by rw [List.length_drop]; omega)];congr 1
  have hx := oW (a := Tq key s k) (b := (s.drop (16 * k)).take 16) (by rw [hc.1, List.length_take]; omega) (by rw [List.length_take]; omega);have he := uj (key := key) (b := um (Tq key s k) ((s.drop (16 * k)).take 16)) (wH (by omega)) (by rw [jZ, hc.1]; decide) hkb;rw [Ia hk (by rw [jZ, hc.1])] at he;have hlim : s.length < 9223372036854775808 := hs;simp only [cu.b0, aI (show (s.drop (16 * k)).length < 9223372036854775808 by omega), au (show ((s.drop (16 * k)).length : Int) > 16 by omega), aY (show (0 : Int) <= 0 by omega) (show (0 : Int) <= 16 by omega) (show (16 : Int) <= ((s.drop (16 * k)).length : Int) by omega), aY (show (0 : Int) <= 16 by omega) (show (16 : Int) <= ((s.drop (16 * k)).length : Int) by omega) (Int.le_refl _), cond_true, h1, h2, hx, he, Option.bind_some];rfl)
 simp only [cu.run];rw [show (16 : Int) = ((16 : Nat) : Int) from rfl, z];simp only [Option.bind_some];rw [Nat.mul_zero, List.drop_zero, show Tq key s 0 = FD from rfl] at hloop;rw [hloop];generalize hq : (s.length - 1) / 16 = q;have hl : (s.drop (16 * q)).length = s.length - 16 * q := List.length_drop;have hlim : s.length < 9223372036854775808 := hs;rw [cu.q0];have hc := RY key s q;have h16 : (s.drop (16 * q)).length <= 16 := by omega
 simp only [cu.b0, aI (show (s.drop (16 * q)).length < 9223372036854775808 by omega), aA (show ¬ ((s.drop (16 * q)).length : Int) > 16 by omega), cond_true, cond_false, Option.bind_some];have he := uj (key := key) (b := um (Tq key s q) (vJ key (s.drop (16 * q)))) (wH (by omega)) (by rw [jZ, hc.1]; decide) hkb;rw [Ia hk (by rw [jZ, hc.1])] at he;have hll := Pv (key := key) h16;have hx2 := oW (a := Tq key s q) (b := vJ key (s.drop (16 * q))) (by rw [hc.1, hll]; omega) (by omega);have hcm : RZ key s = encS key (um (Tq key s q) (vJ key (s.drop (16 * q)))) := by unfold RZ; rw [hq]
 rw [hcm];generalize hm : s.drop (16 * q) = m at *;by_cases h3 : m.length = 16
 ·rw [au (show (m.length : Int) = ((16 : Nat) : Int) by omega)];have hx1 := oW (a := m) (b := Bf key) (by rw [h3, show (Bf key).length = 16 from (qU _).1]; omega) (by rw [show (Bf key).length = 16 from (qU _).1]; omega);have hls : vJ key m = um m (Bf key) := by unfold vJ; rw [if_pos h3]
  rw [hls] at hx2 he ⊢
  simp only [cond_true, hx1, Option.bind_some, hx2, he]
 ·rw [aA (show ¬ (m.length : Int) = ((16 : Nat) : Int) by omega)];have hls : vJ key m = um (DL m) (Es (Bf key)) := by unfold vJ; rw [if_neg h3]
  have w15 : IntKind.i64.wrap (15 - (m.length : Int)) = ((15 - m.length : Nat) : Int) := by rw [wrap64 (by omega) (by omega)]; omega
  have hz := ql (n := 15 - m.length) (by omega);have Xq : (m ++ [128]) ++ List.replicate (15 - m.length) (0 : Int) = DL m := by unfold DL; simp
  have hx1 := oW (a := DL m) (b := Es (Bf key)) (by rw [yE (by omega), (qU _).1]; omega) (by rw [(qU _).1]; omega);rw [hls] at hx2 he ⊢
  simp only [cond_false];rw [cond_pos (au (by unfold maxStr; simp; omega)), w15, hz];simp only [Option.bind_some];rw [cond_pos (au (by unfold maxStr; simp; omega)), Xq, hx1];simp only [Option.bind_some, hx2, he]
end
end Go.AM
end
section
namespace Go.AM
noncomputable def Tt (key : List Int) (l : List (List Int)) : Nat -> List Int
 | 0 => RZ key FD
 | k + 1 => um (Es (Tt key l k)) (RZ key (rd [] l (k : Int)))
noncomputable def s2E (key d s : List Int) : List Int :=
 if s.length < 16 then RZ key (um (DL s) (Es d)) else RZ key (s.take (s.length - 16) ++ um (s.drop (s.length - 16)) d)
noncomputable def XR (key : List Int) (l : List (List Int)) : List Int :=
 if l.length = 0 then RZ key (List.replicate 15 0 ++ [1]) else s2E key (Tt key l (l.length - 1)) (rd [] l ((l.length - 1 : Nat) : Int))
theorem R_ (key : List Int) (l : List (List Int)) : ∀ k, DI (Tt key l k)
 | 0 => DN _ _
 | k + 1 => ⟨by rw [Tt, jZ, (qU _).1], RX _ _⟩
theorem LQ (key : List Int) (l : List (List Int)) : DI (XR key l) := by
 unfold XR s2E;split
 ·exact DN _ _
 ·split <;> exact DN _ _
theorem Xr (key : List Int) : DI (Bf key) := qU _
theorem Px {key : List Int} (hk : key.length = 16 \/ key.length = 32) (hkb : Bs key) : qc.run .lim (key, ()) = some ((key, (Bf key, Es (Bf key))), 0, ()) := by
 have z := ql (n := 16) (by omega);have YX : (List.replicate 16 (0 : Int)).length = 16 := rfl;have he := uj (key := key) (b := FD) (wH (by omega)) (by rw [YX]; decide) hkb;rw [Ia hk YX] at he;simp only [qc.run];rw [show (16 : Int) = ((16 : Nat) : Int) from rfl, z];simp only [Option.bind_some, he, decide_true, Bool.not_true, cond_false, qV (qQ key FD)];rw [show Es (encS key FD) = Bf key from rfl, qV (Xr key)];rfl
section
variable {key : List Int}
theorem UY {l : List (List Int)} (hk : key.length = 16 \/ key.length = 32) (hkb : Bs key) (hl : l.length < fK) (hs : ∀ s ∈ l, s.length < fK) :
  dS.run .lim ((key, (Bf key, Es (Bf key))), l, ()) = some (XR key l) := by
 have hlim : l.length < 9223372036854775808 := hl;simp only [dS.run, aI hlim, cond_true];unfold XR;by_cases h0 : l.length = 0
 ·rw [au (show (l.length : Int) = 0 by omega), if_pos h0];have z := ql (n := 15) (by omega);simp only [cond_true];rw [show (15 : Int) = ((15 : Nat) : Int) from rfl, z];simp only [Option.bind_some];rw [cond_pos (by decide), yF hk hkb (by decide)];rfl
 ·rw [aA (show ¬ (l.length : Int) = 0 by omega), if_neg h0];have z := ql (n := 16) (by omega);have w1 : IntKind.i64.wrap ((l.length : Int) - 1) = ((l.length - 1 : Nat) : Int) := by rw [wrap64 (by omega) (by omega)]; omega
  have hc : cut l 0 ((l.length - 1 : Nat) : Int) = l.take (l.length - 1) := by
   have := uS l 0 (l.length - 1);rw [show ((0 : Nat) : Int) = 0 from rfl] at this;rw [this, List.drop_zero, Nat.sub_zero]
  have htl : (l.take (l.length - 1)).length = l.length - 1 := by rw [List.length_take]; omega
  generalize hs1 : rd ([] : List Int) l ((l.length - 1 : Nat) : Int) = s;have hsl : s.length < 9223372036854775808 := by rw [<- hs1]; exact hs _ (jc (by omega) (by omega))
  have hloop := dI (f := dS.l0 .lim) (fun k => (Tt key l k, s, l.take (l.length - 1), ((l.length - 1 : Nat) : Int), (k : Int), key, Bf key, Es (Bf key), ())) (n := l.length - 1) (fun k hk' => by
   rw [dS.q0];have hok := R_ key l k;have ht := yF (key := key) (s := rd [] l (k : Int)) hk hkb (hs _ (jc (by omega) (by omega)));have hx := oW (a := Es (Tt key l k)) (b := RZ key (rd [] l (k : Int))) (by rw [(qU _).1, (DN _ _).1]; omega) (by rw [(DN _ _).1]; omega);simp only [dS.b0, au (show (k : Int) < ((l.length - 1 : Nat) : Int) by omega), htl, aF (show (0 : Int) <= k by omega) (show (k : Int) < ((l.length - 1 : Nat) : Int) by omega), Uf (d := ([] : List Int)) (xs := l) hk', cond_true, qV hok, Option.bind_some, ht, hx, wk k (by omega)];rfl)
  rw [show Tt key l 0 = RZ key FD from rfl, show ((0 : Nat) : Int) = 0 from rfl] at hloop;simp only [cond_false];rw [show (16 : Int) = ((16 : Nat) : Int) from rfl, z];simp only [Option.bind_some, yF hk hkb (show (List.replicate 16 (0 : Int)).length < fK by decide), w1, aF (show (0 : Int) <= ((l.length - 1 : Nat) : Int) by omega) (show ((l.length - 1 : Nat) : Int) < (l.length : Int) by omega), aY (Int.le_refl 0) (show (0 : Int) <= ((l.length - 1 : Nat) : Int) by omega) (show ((l.length - 1 : Nat) : Int) <= (l.length : Int) by omega), cond_true, hc, htl, aI (show l.length - 1 < 9223372036854775808 by omega), hs1];rw [hloop, dS.q0];simp only [dS.b0, aA (show ¬ ((l.length - 1 : Nat) : Int) < ((l.length - 1 : Nat) : Int) by omega), cond_false, Option.bind_some, aI hsl, cond_true];have w2 : IntKind.i64.wrap ((s.length : Int) - ((16 : Nat) : Int)) = (s.length : Int) - 16 := by rw [wrap64 (by omega) (by omega)]; omega
  rw [w2];have hd := R_ key l (l.length - 1);unfold s2E;by_cases h3 : s.length < 16
  ·rw [aA (show ¬ ((s.length : Int) - 16 >= 0) by omega), if_pos h3];have w15 : IntKind.i64.wrap (15 - (s.length : Int)) = ((15 - s.length : Nat) : Int) := by rw [wrap64 (by omega) (by omega)]; omega
   have hz := ql (n := 15 - s.length) (by omega);have Xq : (s ++ [128]) ++ List.replicate (15 - s.length) (0 : Int) = DL s := by unfold DL; simp
   have hx := oW (a := DL s) (b := Es (Tt key l (l.length - 1))) (by rw [yE h3, (qU _).1]; omega) (by rw [(qU _).1]; omega);simp only [cond_false];rw [cond_pos (au (by unfold maxStr; simp; omega)), w15, hz];simp only [Option.bind_some];rw [cond_pos (au (by unfold maxStr; simp; omega)), Xq];simp only [qV hd, Option.bind_some, hx];rw [yF hk hkb (by rw [jZ, yE h3]; decide)];rfl
  ·rw [au (show (s.length : Int) - 16 >= 0 by omega), if_neg h3];have e16 : (s.length : Int) - 16 = ((s.length - 16 : Nat) : Int) := by omega
   have hc1 : cut s ((s.length - 16 : Nat) : Int) (s.length : Int) = s.drop (s.length - 16) := by rw [uS, List.take_of_length_le (by rw [List.length_drop]; omega)]
   have hc2 : cut s 0 ((s.length - 16 : Nat) : Int) = s.take (s.length - 16) := by
    have := uS s 0 (s.length - 16);rw [show ((0 : Nat) : Int) = 0 from rfl] at this;rw [this, List.drop_zero, Nat.sub_zero]
   have hx := oW (a := s.drop (s.length - 16)) (b := Tt key l (l.length - 1)) (by rw [List.length_drop, hd.1]; omega) (by rw [hd.1]; omega);have htl2 : (s.take (s.length - 16) ++ um (s.drop (s.length - 16)) (Tt key l (l.length - 1))).length = s.length := by rw [List.length_append, jZ, List.length_take, List.length_drop]; omega
   simp only [e16, cond_true, aY (Int.le_refl 0) (show (0 : Int) <= ((s.length - 16 : Nat) : Int) by omega) (show ((s.length - 16 : Nat) : Int) <= (s.length : Int) by omega), aY (show (0 : Int) <= ((s.length - 16 : Nat) : Int) by omega) (show ((s.length - 16 : Nat) : Int) <= (s.length : Int) by omega) (Int.le_refl _), hc1, hc2, hx, Option.bind_some];rw [cond_pos (au (by rw [jZ, List.length_take, List.length_drop]; unfold maxStr; omega)), yF hk hkb (by rw [htl2]; exact hsl)];rfl
def FT (v : List Int) : List Int := (v.set 8 (h_ .u8 (rd 0 v 8) 127)).set 12 (h_ .u8 (rd 0 (v.set 8 (h_ .u8 (rd 0 v 8) 127)) 12) 127)
theorem FU (v : List Int) : (FT v).length = v.length := by simp [FT]
noncomputable def Oa (key v s : List Int) : List Int := um s (Pm key (FT v) s.length)
theorem FV (key v s : List Int) : (Oa key v s).length = s.length := jZ _ _
theorem UZ (key v s : List Int) : Bs (Oa key v s) := RX _ _
theorem U0 {key v : List Int} {n : Nat} (hk : key.length = 16 \/ key.length = 32) (hv : v.length = 16) (hn : n <= 65536) : UH key v (n : Int) = Pm key v n := by
 unfold UH UG;rw [if_neg (show ¬ ((n : Int) < 0 \/ (n : Int) > 65536) by omega), if_pos hk, if_pos hv, if_pos rfl, Int.toNat_natCast]
theorem LU {v s : List Int} (hk : key.length = 16 \/ key.length = 32) (hkb : Bs key) (hv : v.length = 16) (hs : s.length <= 65536) : nV.run .lim (key, v, s, ()) = some (Oa key v s) := by
 have ha := LJ (key := key) (at_ := FT v) (n := (s.length : Int)) (wH (by omega)) (by rw [FU, hv]; decide) hkb;rw [U0 hk (by rw [FU, hv]) hs] at ha;have hx := oW (a := s) (b := Pm key (FT v) s.length) (by rw [JF]; omega) (by rw [JF]; omega);unfold FT at ha hx;simp only [nV.run, List.length_set, hv, aF (show (0 : Int) <= 8 by omega) (show (8 : Int) < ((16 : Nat) : Int) by omega), aF (show (0 : Int) <= 12 by omega) (show (12 : Int) < ((16 : Nat) : Int) by omega), aI (show s.length < 9223372036854775808 by omega), cond_true, ha, Option.bind_some, hx];rfl
abbrev vK (key : List Int) : List Int := key.take (key.length / 2)
abbrev FW (key : List Int) : List Int := key.drop (key.length / 2)
def uo (key : List Int) (ad : List (List Int)) : Int := if key.length = 32 \/ key.length = 64 then (if ad.length >= 127 then 18 else 0) else 13
noncomputable def DR (key : List Int) (ad : List (List Int)) (plain : List Int) : List Int :=
 XR (vK key) (ad ++ [plain]) ++ Oa (FW key) (XR (vK key) (ad ++ [plain])) plain
noncomputable def qm (key : List Int) (ad : List (List Int)) (plain : List Int) : List Int × Int :=
 if uo key ad = 0 then (if plain.length > 65536 then ([], 12) else (DR key ad plain, 0)) else ([], uo key ad)
theorem Ob {s : List Int} (h : Bs s) (n : Nat) : Bs (s.take n) := fun x hx => h x (List.mem_of_mem_take hx)
theorem U1 {s : List Int} (h : Bs s) (n : Nat) : Bs (s.drop n) := fun x hx => h x (List.mem_of_mem_drop hx)
theorem DT {key : List Int} (h : key.length = 32 \/ key.length = 64) : ((vK key).length = 16 \/ (vK key).length = 32) /\ ((FW key).length = 16 \/ (FW key).length = 32) := by
 unfold vK FW;rw [List.length_take, List.length_drop]; omega
theorem LV {ad : List (List Int)} (hk : key.length < fK) (hkb : Bs key) (ha : ad.length < fK) :
  ∃ r r1, nU.run .lim (key, ad, ()) = some (r, r1, uo key ad, ()) /\ (uo key ad = 0 -> r = (vK key, (Bf (vK key), Es (Bf (vK key)))) /\ r1 = FW key) := by
 have hk63 : key.length < 9223372036854775808 := hk;have Si : ad.length < 9223372036854775808 := ha;have hd : (key.length : Int).tdiv 2 = ((key.length / 2 : Nat) : Int) := by rw [Int.tdiv_eq_ediv_of_nonneg (Int.natCast_nonneg _)]; simp
 have w1 : IntKind.i64.wrap ((key.length : Int).tdiv 2) = ((key.length / 2 : Nat) : Int) := by rw [hd, wrap64 (by omega) (by omega)]
 unfold uo;simp only [nU.run, aI hk63, aI Si, cond_true, Bool.or_true, w1];by_cases h1 : key.length = 32 \/ key.length = 64
 ·have : (!decide ((key.length : Int) = 32) && !decide ((key.length : Int) = 64)) = false := by
   rcases h1 with h | h
   ·rw [au (show (key.length : Int) = 32 by omega)]; rfl
   ·rw [au (show (key.length : Int) = 64 by omega), Bool.not_true, Bool.and_false]
  rw [this, if_pos h1];simp only [cond_false];by_cases h2 : ad.length >= 127
  ·rw [au (show (ad.length : Int) >= 127 by omega), if_pos h2];exact ⟨_, _, rfl, fun h => absurd h (by decide)⟩
  ·rw [aA (show ¬ (ad.length : Int) >= 127 by omega), if_neg h2];have hc1 : cut key 0 ((key.length / 2 : Nat) : Int) = vK key := by
    have := uS key 0 (key.length / 2);rw [show ((0 : Nat) : Int) = 0 from rfl] at this;rw [this, List.drop_zero, Nat.sub_zero]
   have hc2 : cut key ((key.length / 2 : Nat) : Int) (key.length : Int) = FW key := by rw [uS, List.take_of_length_le (by rw [List.length_drop]; omega)]
   simp only [cond_false, aY (Int.le_refl 0) (show (0 : Int) <= ((key.length / 2 : Nat) : Int) by omega) (show ((key.length / 2 : Nat) : Int) <= (key.length : Int) by omega), aY (show (0 : Int) <= ((key.length / 2 : Nat) : Int) by omega) (show ((key.length / 2 : Nat) : Int) <= (key.length : Int) by omega) (Int.le_refl _), cond_true, hc1, hc2, Px (DT h1).1 (Ob hkb _), Option.bind_some];exact ⟨_, _, rfl, fun _ => ⟨rfl, rfl⟩⟩
 ·rw [aA (show ¬ (key.length : Int) = 32 by omega), aA (show ¬ (key.length : Int) = 64 by omega), if_neg h1];exact ⟨_, _, rfl, fun h => absurd h (by decide)⟩
theorem FX {ad : List (List Int)} (h : uo key ad = 0) : (key.length = 32 \/ key.length = 64) /\ ad.length < 127 := by
 unfold uo at h;split at h
 ·split at h
  ·exact absurd h (by decide)
  ·exact ⟨by assumption, by omega⟩
 ·exact absurd h (by decide)
theorem yG {ad : List (List Int)} (h : ad.length < 4398046511104) : aG.run .lim (ad, ()) = some ad := by
 simp only [aG.run];rw [cond_pos (au (by simpa using h)), List.nil_append]
theorem Sj {ad : List (List Int)} {plain : List Int} (hk : key.length < fK) (hkb : Bs key) (ha : ad.length < fK) (had : ∀ s ∈ ad, s.length < fK) (hp : plain.length < fK) :
  tZ.run .lim (key, ad, plain, ()) = some ((qm key ad plain).1, (qm key ad plain).2, ()) := by
 obtain ⟨r, r1, e, hz⟩ := LV hk hkb ha;have hp63 : plain.length < 9223372036854775808 := hp;unfold qm;simp only [tZ.run, e, Option.bind_some, aI hp63, cond_true];by_cases h0 : uo key ad = 0
 ·obtain ⟨rfl, rfl⟩ := hz h0;obtain ⟨h1, h2⟩ := FX h0;obtain ⟨g1, g2⟩ := DT h1;rw [au h0, if_pos h0];simp only [Bool.not_true, cond_false];by_cases h3 : plain.length > 65536
  ·rw [au (show (plain.length : Int) > 65536 by omega), if_pos h3]; rfl
  ·rw [aA (show ¬ (plain.length : Int) > 65536 by omega), if_neg h3];have hall : ∀ s ∈ ad ++ [plain], s.length < fK := fun s hs => by
    rcases List.mem_append.1 hs with hs | hs
    ·exact had s hs
    ·rw [List.mem_singleton.1 hs]; exact hp
   have hv := (LQ (vK key) (ad ++ [plain])).1;simp only [cond_false, yG (show ad.length < 4398046511104 by omega), Option.bind_some];rw [cond_pos (au (by simp; omega)), UY g1 (Ob hkb _) (wH (by simp; omega)) hall];simp only [Option.bind_some, LU g2 (U1 hkb _) hv (show plain.length <= 65536 by omega)];rw [cond_pos (au (by rw [hv, FV]; unfold maxStr; omega))];rfl
 ·rw [aA h0, if_neg h0];rfl
end
theorem zA (key : List Int) (ad : List (List Int)) (plain : List Int) : (DR key ad plain).length = plain.length + 16 := by unfold DR; rw [List.length_append, (LQ _ _).1, FV]; omega
theorem Oc (key : List Int) (ad : List (List Int)) (plain : List Int) : Bs (DR key ad plain) := fun x h => by
 unfold DR at h;rcases List.mem_append.1 h with h | h
 ·exact (LQ _ _).2 x h
 ·exact UZ _ _ _ x h
end Go.AM
end
section
namespace Go.AM
def uq (key : List Int) (ad : List (List Int)) (n : Nat) : Int := if uU (key, ad, [], []) = 0 then (if n > 65536 then 12 else 0) else uU (key, ad, [], [])
theorem Oe (key : List Int) (ad : List (List Int)) (p t : List Int) : uU (key, ad, p, t) = uU (key, ad, [], []) := rfl
noncomputable def n_ (xs : List KK) (key : List Int) (ad : List (List Int)) (plain : List Int) : List KK × List Int × Int :=
 if uq key ad plain.length = 0 then
  match (List.range xs.length).find? (fun j : Nat => Ae (rd k0 xs (j : Int)) (key, ad, plain, [])) with
  | some k => (xs, (rd k0 xs (k : Int)).2.2.2, 0)
  | none => if xs.length >= 2048 then (xs, [], 18) else (xs ++ [(key, ad, plain, txt (xs.length + 1) plain)], txt (xs.length + 1) plain, 0)
 else (xs, [], uq key ad plain.length)
noncomputable def iL (v : VV) (key : List Int) (ad : List (List Int)) (plain : List Int) : VV × List Int × Int :=
 bif v.1 then ((true, (n_ v.2 key ad plain).1), (n_ v.2 key ad plain).2) else (v, qm key ad plain)
structure YZ (key : List Int) (ad : List (List Int)) (s : List Int) : Prop where
 k : key.length < fK
 kb : Bs key
 a : ad.length < fK
 al : ∀ t ∈ ad, t.length < fK
 s : s.length < fK
theorem JJ (key : List Int) (ad : List (List Int)) : uo key ad = uU (key, ad, [], []) := by
 show _ = if key.length ≠ 32 /\ key.length ≠ 64 then 13 else if ad.length > 126 then 18 else 0
 unfold uo;by_cases h : key.length = 32 \/ key.length = 64
 ·rw [if_pos h, if_neg (show ¬ (key.length ≠ 32 /\ key.length ≠ 64) by omega)];by_cases h2 : ad.length >= 127
  ·rw [if_pos h2, if_pos (show ad.length > 126 by omega)]
  ·rw [if_neg h2, if_neg (show ¬ ad.length > 126 by omega)]
 ·rw [if_neg h, if_pos (show key.length ≠ 32 /\ key.length ≠ 64 by omega)]
theorem Py {xs : List KK} (h : xs.length < 2048) : bH.run .lim (xs, ()) = some xs := by
 simp only [bH.run];rw [cond_pos (au (by simp; omega)), List.nil_append]
theorem Pz (xs : List KK) (key : List Int) (ad : List (List Int)) (plain : List Int) (b : Bool) (hx : xs.length < fK) (hok : ∀ k ∈ xs, UQ k) (ha : ad.length < fK) :
  fC.l0 .lim (xs, (xs.length : Int), 0, key, ad, plain, [], xs, b, xs, false, ()) = match (List.range xs.length).find? (fun j : Nat => Ae (rd k0 xs (j : Int)) (key, ad, plain, [])) with
   | some k => some (.inl ((k : Int), xs, key, ad, plain, [], b, xs, false, ()))
   | none => some (.inr (xs, key, ad, plain, [], b, xs, false, ())) := by
 have Xt : xs.length < 9223372036854775808 := hx;have e := Dz (f := fC.l0 .lim) (fun k => (xs, (xs.length : Int), (k : Int), key, ad, plain, [], xs, b, xs, false, ())) xs.length (fun j : Nat => Ae (rd k0 xs (j : Int)) (key, ad, plain, [])) (fun k => some (.inl ((k : Int), xs, key, ad, plain, [], b, xs, false, ()))) (fun k hk => by
  rw [fC.q0];have hm : UQ (rd k0 xs k) := hok _ (jc (by omega) (by omega));simp only [fC.b0, RN (rd k0 xs k) (key, ad, plain, []) hm.2.1 ha, wk k (by omega), au (show (k : Int) < (xs.length : Int) by omega), aF (show (0 : Int) <= k by omega) (show (k : Int) < (xs.length : Int) by omega), cond_true, Option.bind_some])
 rw [show ((0 : Nat) : Int) = 0 from rfl] at e;rw [e];cases (List.range xs.length).find? (fun j : Nat => Ae (rd k0 xs (j : Int)) (key, ad, plain, [])) with
 | some k => rfl
 | none =>
  simp only;rw [fC.q0];simp only [fC.b0, aA (show ¬ (xs.length : Int) < (xs.length : Int) by omega), cond_false]
theorem U2 {v : VV} (hv : okV v) (hf : qR v = true) {key : List Int} {ad : List (List Int)} {plain : List Int} (T : YZ key ad plain) :
  fC.run .lim (v, key, ad, plain, ()) = some ((iL v key ad plain).1, (iL v key ad plain).2.1, (iL v key ad plain).2.2, ()) := by
 obtain ⟨b, xs⟩ := v;have hx : xs.length < fK := hv.1;have hp63 : plain.length < 9223372036854775808 := T.s;have Xt : xs.length < 9223372036854775808 := hx;unfold iL;cases b with
 | false =>
  have hn : xs = [] := by
   unfold qR at hf;simpa using hf
  subst hn;have hs := Sj T.k T.kb T.a T.al T.s;simp only [fC.run, jK.run, hs, Option.bind_some, cond_false];unfold qm;by_cases h0 : uo key ad = 0
  ·rw [if_pos h0];by_cases h1 : plain.length > 65536
   ·rw [if_pos h1]; rfl
   ·rw [if_neg h1]; rfl
  ·rw [if_neg h0, aA h0]; rfl
 | true =>
  have hr := LM (key, ad, plain, []) T.k T.a;rw [Oe] at hr;have hf' := Pz xs key ad plain true hx hv.2 T.a;simp only [fC.run, hr, Option.bind_some, aI hp63, aI Xt, cond_true, hf'];unfold n_ uq;by_cases h0 : uU (key, ad, [], []) = 0
  ·rw [au h0, if_pos h0];simp only [Bool.not_true, cond_false];by_cases h1 : plain.length > 65536
   ·rw [au (show (plain.length : Int) > 65536 by omega), if_pos h1, if_neg (by decide)]; rfl
   ·rw [aA (show ¬ (plain.length : Int) > 65536 by omega), if_neg h1, if_pos rfl];simp only [cond_false];cases hq : (List.range xs.length).find? (fun j : Nat => Ae (rd k0 xs (j : Int)) (key, ad, plain, [])) with
    | some k =>
     have hk : k < xs.length := List.mem_range.1 (List.mem_of_find?_eq_some hq);simp only [Option.bind_some];rw [cond_pos (au (by omega)), cond_pos (aF (by omega) (by omega))]
    | none =>
     simp only [Option.bind_some, aI Xt, cond_true];by_cases h2 : xs.length >= 2048
     ·rw [au (show (xs.length : Int) >= 2048 by omega), if_pos h2]; rfl
     ·rw [aA (show ¬ (xs.length : Int) >= 2048 by omega), if_neg h2];have ha126 : ad.length <= 126 := by
       have := FX (key := key) (ad := ad) (by rw [JJ]; exact h0);omega
      have w1 : IntKind.i64.wrap ((xs.length : Int) + 1) = (xs.length : Int) + 1 := wrap64 (by omega) (by omega);simp only [cond_false, yG (show ad.length < 4398046511104 by omega), Option.bind_some, w1, number_eq ((xs.length : Int) + 1) plain (by omega) (by omega) (by omega), Py (show xs.length < 2048 by omega)];rw [cond_pos (au (by simp; omega))]
  ·rw [aA h0, if_neg h0, if_neg h0]; rfl
end Go.AM
end
section
namespace Go.AM
theorem DU {key : List Int} {ad : List (List Int)} {n : Nat} (h0 : uq key ad n = 0) : uU (key, ad, [], []) = 0 /\ n <= 65536 := by
 unfold uq at h0;split at h0
 ·split at h0
  ·exact absurd h0 (by decide)
  ·exact ⟨by assumption, by omega⟩
 ·exact absurd h0 (by assumption)
theorem uw (xs : List KK) (key : List Int) (ad : List (List Int)) (plain : List Int) :
  ((n_ xs key ad plain).2.2 ≠ 0 /\ (n_ xs key ad plain).1 = xs /\ (n_ xs key ad plain).2.1 = []) \/
  (uq key ad plain.length = 0 /\ (∃ k, k < xs.length /\ Ae (rd k0 xs (k : Int)) (key, ad, plain, []) = true /\ n_ xs key ad plain = (xs, (rd k0 xs (k : Int)).2.2.2, 0))) \/
  (uq key ad plain.length = 0 /\ xs.length < 2048 /\ (∀ k, k < xs.length -> Ae (rd k0 xs (k : Int)) (key, ad, plain, []) = false) /\ n_ xs key ad plain = (xs ++ [(key, ad, plain, txt (xs.length + 1) plain)], txt (xs.length + 1) plain, 0)) := by
 unfold n_;by_cases h0 : uq key ad plain.length = 0
 ·rw [if_pos h0];cases hq : (List.range xs.length).find? (fun j : Nat => Ae (rd k0 xs (j : Int)) (key, ad, plain, [])) with
  | some k => exact .inr (.inl ⟨h0, k, List.mem_range.1 (List.mem_of_find?_eq_some hq), by simpa using List.find?_some hq, rfl⟩)
  | none =>
   simp only;by_cases h2 : xs.length >= 2048
   ·rw [if_pos h2]; exact .inl ⟨show (18 : Int) ≠ 0 by decide, rfl, rfl⟩
   ·rw [if_neg h2];refine .inr (.inr ⟨h0, by omega, fun k hk => ?_, rfl⟩);have := List.find?_eq_none.1 hq k (List.mem_range.2 hk);simpa using this
 ·rw [if_neg h0]; exact .inl ⟨h0, rfl, rfl⟩
theorem Og {xs : List KK} (h : qR (true, xs) = true) : xs.length <= 2048 /\ ∀ i, i < xs.length -> Ep xs i = false := by
 unfold qR at h;simp only [cond_true, Bool.and_eq_true, decide_eq_true_eq, Bool.not_eq_true', List.any_eq_false, List.mem_range] at h;exact ⟨h.1, fun i hi => by simpa using h.2 i hi⟩
theorem Sm {xs : List KK} {q : KK} {i : Nat} (hi : i < xs.length) : Ep (xs ++ [q]) i = Ep xs i := by
 unfold Ep;rw [LC hi, any_congr (d := fun j => Ae (rd k0 xs (j : Int)) (rd k0 xs (i : Int))) fun j hj => by rw [LC (by omega)]]
theorem Oh {α : Type} {d : α} {xs : List α} {q : α} : rd d (xs ++ [q]) (xs.length : Int) = q := by rw [kN (by simp)]; simp
theorem Sr {v : VV} (hf : qR v = true) (key : List Int) (ad : List (List Int)) (plain : List Int) : qR (iL v key ad plain).1 = true := by
 obtain ⟨b, xs⟩ := v;unfold iL;cases b with
 | false => exact hf
 | true =>
  simp only [cond_true];obtain ⟨f1, f2⟩ := Og hf;rcases uw xs key ad plain with ⟨_, h, _⟩ | ⟨_, k, _, _, h⟩ | ⟨h0, h1, h2, h⟩
  ·rw [h]; exact hf
  ·rw [h]; exact hf
  ·rw [h];obtain ⟨g1, g2⟩ := DU h0;unfold qR;simp only [cond_true, Bool.and_eq_true, decide_eq_true_eq, Bool.not_eq_true', List.any_eq_false, List.mem_range, List.length_append, List.length_singleton];refine ⟨by omega, fun i hi => ?_⟩;by_cases hl : i < xs.length
   ·rw [Sm hl, f2 i hl]; simp
   ·obtain rfl : i = xs.length := by omega
    unfold Ep;rw [Oh];rw [any_congr (d := fun _ => false) fun j hj => by
     rw [LC hj];have := h2 j hj;unfold Ae at this ⊢
     exact this]
    rw [Oe, g1, au rfl, aA (show ¬ plain.length > 65536 by omega), au rfl];simp
theorem PD (n : Int) (k : Nat) : 0 <= byteOf n k /\ byteOf n k < 256 := by unfold byteOf; omega
theorem Xu {xs : List KK} (h : qR (true, xs) = true) {i : Nat} (hi : i < xs.length) : (rd k0 xs (i : Int)).2.2.2 = txt ((i + 1 : Nat) : Int) (rd k0 xs (i : Int)).2.2.1 /\ (rd k0 xs (i : Int)).2.2.1.length <= 65536 := by
 have := (Og h).2 i hi;unfold Ep at this;simp only [Bool.or_eq_false_iff, Bool.not_eq_false', decide_eq_true_eq, decide_eq_false_iff_not] at this;exact ⟨by rw [this.1.2]; congr 1, by omega⟩
theorem U3 (n : Int) (p : List Int) : (txt n p).length = p.length + 16 := by simp [txt, Af]; omega
theorem Y0 (n : Int) (p : List Int) : Bs (txt n p) := fun x hx => by
 unfold txt at hx;rcases List.mem_append.1 hx with h | h
 ·obtain ⟨i, _, rfl⟩ := List.mem_map.1 h;exact PD _ _
 ·rw [(List.mem_replicate.1 h).2]; exact ⟨by decide, by decide⟩
end Go.AM
end
section
namespace Go.AM
def Ext (v w : VV) : Prop := v.1 = w.1 /\ ∃ l, w.2 = v.2 ++ l
theorem Ext.trans {u v w : VV} (a : Ext u v) (b : Ext v w) : Ext u w := by
 obtain ⟨l, hl⟩ := a.2; obtain ⟨m, hm⟩ := b.2;exact ⟨a.1.trans b.1, l ++ m, by rw [hm, hl, List.append_assoc]⟩
theorem U4 {v : VV} {key : List Int} {ad : List (List Int)} {s : List Int} (he : (iL v key ad s).2.2 ≠ 0) : (iL v key ad s).1 = v /\ (iL v key ad s).2.1 = [] := by
 obtain ⟨b, xs⟩ := v;cases b with
 | false =>
  refine ⟨rfl, ?_⟩;simp only [iL, cond_false] at he ⊢
  unfold qm at he ⊢
  by_cases h : uo key ad = 0
  ·rw [if_pos h] at he ⊢
   by_cases h' : s.length > 65536
   ·rw [if_pos h']
   ·rw [if_neg h'] at he; exact absurd rfl he
  ·rw [if_neg h]
 | true =>
  simp only [iL, cond_true] at he ⊢
  rcases uw xs key ad s with ⟨_, h, h'⟩ | ⟨_, _, _, _, h⟩ | ⟨_, _, _, h⟩
  ·rw [h, h']; exact ⟨rfl, rfl⟩
  ·rw [h] at he; exact absurd rfl he
  ·rw [h] at he; exact absurd rfl he
theorem LW {xs : List KK} {key : List Int} {ad : List (List Int)} {s : List Int} (hf : qR (true, xs) = true) (he : (n_ xs key ad s).2.2 = 0) :
  uq key ad s.length = 0 /\ ∃ k, k < (n_ xs key ad s).1.length /\ rd k0 (n_ xs key ad s).1 (k : Int) = (key, ad, s, (n_ xs key ad s).2.1) := by
 rcases uw xs key ad s with ⟨h, _, _⟩ | ⟨h0, k, hk, ha, h⟩ | ⟨h0, h1, h2, h⟩
 ·exact absurd he h
 ·rw [h];refine ⟨h0, k, hk, ?_⟩;unfold Ae at ha;simp only [Bool.and_eq_true, decide_eq_true_eq] at ha;obtain ⟨⟨a1, a2⟩, a3⟩ := ha;rw [<- a1, <- a2, <- a3]
 ·rw [h];exact ⟨h0, xs.length, by simp, Oh⟩
theorem JK {v : VV} {key : List Int} {ad : List (List Int)} {s : List Int} (hf : qR v = true) (he : (iL v key ad s).2.2 = 0) :
  uU (key, ad, [], []) = 0 /\ s.length <= 65536 /\ (iL v key ad s).2.1.length = s.length + 16 /\ Bs (iL v key ad s).2.1 := by
 have hfw := Sr hf key ad s;obtain ⟨b, xs⟩ := v;cases b with
 | false =>
  simp only [iL, cond_false] at he ⊢
  have h0 : uo key ad = 0 /\ s.length <= 65536 := by
   unfold qm at he;by_cases h : uo key ad = 0
   ·rw [if_pos h] at he;by_cases h' : s.length > 65536
    ·rw [if_pos h'] at he; exact absurd he (by decide)
    ·exact ⟨h, by omega⟩
   ·rw [if_neg h] at he; exact absurd he h
  have hr : qm key ad s = (DR key ad s, 0) := by unfold qm; rw [if_pos h0.1, if_neg (by omega)]
  rw [hr];exact ⟨by rw [<- JJ]; exact h0.1, h0.2, zA _ _ _, Oc _ _ _⟩
 | true =>
  simp only [iL, cond_true] at he hfw ⊢
  obtain ⟨h0, k, hk, e⟩ := LW hf he;obtain ⟨g1, g2⟩ := DU h0;have ht := (Xu hfw hk).1;rw [e] at ht;simp only at ht;refine ⟨g1, g2, by rw [ht, U3], by rw [ht]; exact Y0 _ _⟩
end Go.AM
end
section
namespace Go.AM
def findF (l : List FF) (kind : Int) : List Int := ((List.range l.length).filter fun k : Nat => decide ((rd f0 l (k : Int)).1 = kind)).map fun k : Nat => (k : Int)
def vM (l : List FF) (kind : Int) (n : Nat) : List Int := ((List.range n).filter fun k : Nat => decide ((rd f0 l (k : Int)).1 = kind)).map fun k : Nat => (k : Int)
theorem zB (l : List FF) (kind : Int) (n : Nat) : (vM l kind n).length <= n := by
 unfold vM;rw [List.length_map];exact Nat.le_trans (List.length_filter_le _ _) (by simp)
theorem DV (l : List FF) (kind : Int) (n : Nat) : vM l kind (n + 1) = if (rd f0 l (n : Int)).1 = kind then vM l kind n ++ [(n : Int)] else vM l kind n := by
 unfold vM;rw [List.range_succ, List.filter_append, List.map_append];by_cases h : (rd f0 l (n : Int)).1 = kind
 ·rw [if_pos h, List.filter_cons_of_pos (by simpa using h)]; rfl
 ·rw [if_neg h, List.filter_cons_of_neg (by simpa using h)]; simp
theorem Sv {l : List FF} (kind : Int) (hl : l.length <= 140737488351232) (h2 : l.length < 8796093022208) : gK.run .lim (l, kind, ()) = some (findF l kind) := by
 have e := dI (f := gK.l0 .lim) (fun k => (kind, l, (l.length : Int), (k : Int), vM l kind k, ())) (n := l.length) (fun k hk => by
  rw [gK.q0];have hn := zB l kind k;simp only [gK.b0, au (show (k : Int) < (l.length : Int) by omega), aF (show (0 : Int) <= (k : Int) by omega) (show (k : Int) < (l.length : Int) by omega), cond_true, oh k (by omega), DV];by_cases h : (rd f0 l (k : Int)).1 = kind
  ·rw [au h, if_pos h];simp only [cond_true];rw [cond_pos (au (show (vM l kind k).length + [(k : Int)].length < 8796093022208 by simp; omega))]
  ·rw [aA h, if_neg h]; rfl)
 have e0 : gK.l0 .lim (kind, l, (l.length : Int), 0, ([] : List Int), ()) = _ := e;simp only [gK.run, aI (show l.length < 9223372036854775808 by omega), cond_true, e0];rw [gK.q0];simp only [gK.b0, aA (show ¬ (l.length : Int) < (l.length : Int) by omega), cond_false, Option.bind_some];rfl
theorem SA {l : List FF} (kind : Int) (hl : l.length <= 140737488351232) (h2 : l.length < 8796093022208) : bQ.run .lim (l, kind, ()) = some (findF l kind) := by
 have e := dI (f := bQ.l0 .lim) (fun k => (l, kind, (k : Int), vM l kind k, ())) (n := l.length) (fun k hk => by
  rw [bQ.q0];have hn := zB l kind k;simp only [bQ.b0, aI (show l.length < 9223372036854775808 by omega), au (show (k : Int) < (l.length : Int) by omega), aF (show (0 : Int) <= (k : Int) by omega) (show (k : Int) < (l.length : Int) by omega), cond_true, oh k (by omega), DV];by_cases h : (rd f0 l (k : Int)).1 = kind
  ·rw [au h, if_pos h];simp only [cond_true];rw [cond_pos (au (show (vM l kind k).length + [(k : Int)].length < 8796093022208 by simp; omega))]
  ·rw [aA h, if_neg h]; rfl)
 have e0 : bQ.l0 .lim (l, kind, 0, ([] : List Int), ()) = _ := e;simp only [bQ.run, e0];rw [bQ.q0];simp only [bQ.b0, aI (show l.length < 9223372036854775808 by omega), aA (show ¬ (l.length : Int) < (l.length : Int) by omega), cond_true, cond_false, Option.bind_some];rfl
def LX (l : List FF) (kind : Int) : Option Nat := (List.range l.length).find? fun k : Nat => decide ((rd f0 l (k : Int)).1 = kind)
theorem Ag {α : Type} (p : α -> Bool) : ∀ l : List α, l.find? p = (l.filter p).head?
 | [] => rfl
 | a :: l => by
  cases h : p a with
  | true => rw [List.find?_cons_of_pos h, List.filter_cons_of_pos h]; rfl
  | false => rw [List.find?_cons_of_neg (by simp [h]), List.filter_cons_of_neg (by simp [h]), Ag p l]
theorem JL (l : List FF) (kind : Int) : (LX l kind = none /\ findF l kind = []) \/ ∃ k r, LX l kind = some k /\ findF l kind = (k : Int) :: r /\ k < l.length /\ (rd f0 l (k : Int)).1 = kind := by
 unfold LX findF;rw [Ag];cases h : (List.range l.length).filter (fun k : Nat => decide ((rd f0 l (k : Int)).1 = kind)) with
 | nil => exact .inl ⟨rfl, rfl⟩
 | cons k r =>
  have hm : k ∈ (List.range l.length).filter (fun k : Nat => decide ((rd f0 l (k : Int)).1 = kind)) := by rw [h]; exact .head _
  obtain ⟨h1, h2⟩ := List.mem_filter.1 hm;exact .inr ⟨k, _, rfl, rfl, List.mem_range.1 h1, by simpa using h2⟩
theorem FY (l : List FF) (kind : Int) : (findF l kind).length <= l.length := zB l kind l.length
def U5 (l : List FF) (kind : Int) : List Int × Int :=
 if (findF l kind).length = 0 then ([], 19) else if (findF l kind).length = 1 then ((rd f0 l (rd 0 (findF l kind) 0)).2, 0) else ([], 24)
theorem Xv {l : List FF} {kind : Int} (h : (findF l kind).length ≠ 0) : inB 0 ((findF l kind).length : Int) = true /\ inB (rd 0 (findF l kind) 0) (l.length : Int) = true := by
 refine ⟨aF (by omega) (by omega), ?_⟩;rcases JL l kind with ⟨_, q⟩ | ⟨k, r, _, q, hk, _⟩
 ·rw [q] at h; exact absurd rfl h
 ·rw [q];exact aF (show (0 : Int) <= (k : Int) by omega) (show (k : Int) < (l.length : Int) by omega)
theorem U6 {l : List FF} (kind : Int) (hl : l.length < 8796093022208) : fP.run .lim (l, kind, ()) = some ((U5 l kind).1, (U5 l kind).2, ()) := by
 have hn := FY l kind;simp only [fP.run, SA kind (by omega) hl, Option.bind_some, aI (show (findF l kind).length < 9223372036854775808 by omega), cond_true];unfold U5;by_cases h0 : (findF l kind).length = 0
 ·rw [au (show ((findF l kind).length : Int) = 0 by omega), if_pos h0]; rfl
 ·rw [aA (show ¬ ((findF l kind).length : Int) = 0 by omega), if_neg h0];obtain ⟨i1, i2⟩ := Xv h0;by_cases h1 : (findF l kind).length = 1
  ·rw [aA (show ¬ ((findF l kind).length : Int) > 1 by omega), if_pos h1];simp only [cond_true, cond_false, i1, i2]
  ·rw [au (show ((findF l kind).length : Int) > 1 by omega), if_neg h1]; rfl
def qW (n : Nat) : Nat := (4 - n % 4) % 4
def DW (s : List Int) : List Int := s ++ List.replicate (qW s.length) 0
theorem zC : ∀ n, Au [0] n = List.replicate n (0 : Int)
 | 0 => rfl
 | n + 1 => by rw [Au, zC n]; rfl
theorem VN (n : Int) : h_ .i64 n 3 = n % 4 := by
 show IntKind.i64.wrap ((BitVec.ofInt 64 n &&& BitVec.ofInt 64 3).toNat : Int) = _;rw [BitVec.toNat_and, BitVec.toNat_ofInt, show (BitVec.ofInt 64 3).toNat = 2 ^ 2 - 1 from rfl, Nat.and_two_pow_sub_one_eq_mod];rw [wrap64 (by omega) (by omega)]; omega
theorem PE {s : List Int} (h : s.length < 4611686018427387904) : nX.run .lim (s, ()) = some (DW s) := by
 have w : IntKind.i64.wrap (0 - (s.length : Int)) = -(s.length : Int) := by rw [wrap64 (by omega) (by omega)]; omega
 have e : h_ .i64 (-(s.length : Int)) 3 = (qW s.length : Int) := by rw [VN]; unfold qW; omega
 have hp : qW s.length < 4 := by unfold qW; omega
 simp only [nX.run, aI (show s.length < 9223372036854775808 by omega), cond_true, w, e];have hr : strings_Repeat.run .lim ([0], (qW s.length : Int), ()) = some (List.replicate (qW s.length) 0) := by
  show Ej ([0], (qW s.length : Int), ()) = _;unfold Ej;simp only [Int.toNat_natCast];rw [au (show (0 : Int) <= (qW s.length : Int) by omega), Nat.ble_eq_true_of_le (show [(0 : Int)].length * qW s.length <= 140737488355328 by simp; omega), zC]; rfl
 simp only [hr, Option.bind_some];rw [cond_pos (au (show s.length + (List.replicate (qW s.length) (0 : Int)).length <= maxStr by rw [List.length_replicate]; unfold maxStr; omega))];rfl
end Go.AM
end
section
namespace Go.AM
theorem JM {c : Bool} {x : Option Bool} {d : Bool} (h : x = some d) : (bif c then x else some false) = some (c && d) := by cases c <;> simp [h]
end Go.AM
end
section
namespace Go.AM
end Go.AM
end
section
namespace Go.AM
theorem LY {f : FF} (h : N7 f) (x : List Int) : fM (jQ f ++ x) = 4 + f.2.length /\ ¬ Az (jQ f ++ x) /\ Rz (jQ f ++ x) = f /\ (jQ f ++ x).drop (fM (jQ f ++ x)) = x := by
 have h1 := h.k0; have h2 := h.k1; have h3 := h.l0; have h4 := h.l4; have h5 := h.l1;have hl := jY f;have e4 : (jQ f ++ x).take 4 = twoS f.1 ++ twoS ((f.2.length : Int) + 4) := by
  unfold jQ;rw [List.append_assoc, List.take_append_of_le_length (by simp [twoS]), List.take_of_length_le (by simp [twoS])]
 have eL : fM (jQ f ++ x) = 4 + f.2.length := by
  unfold fM;rw [e4, List.drop_append_of_le_length (by simp [twoS]), List.drop_of_length_le (by simp [twoS]), List.nil_append, val_two (by omega) (by omega)];omega
 have e2 : (jQ f ++ x).take 2 = twoS f.1 := by
  have : (jQ f ++ x).take 2 = ((jQ f ++ x).take 4).take 2 := by rw [List.take_take]; rfl
  rw [this, e4, List.take_append_of_le_length (by simp [twoS]), List.take_of_length_le (by simp [twoS])]
 have eT : (jQ f ++ x).take (4 + f.2.length) = jQ f := by rw [<- hl, List.take_left]
 refine ⟨eL, ?_, ?_, ?_⟩
 ·unfold Az;rw [eL, List.length_append, hl];omega
 ·unfold Rz;rw [eL, e2, eT, val_two h1 h2];unfold jQ;rw [List.drop_append_of_le_length (by simp [twoS]), List.drop_of_length_le (by simp [twoS]), List.nil_append]
 ·rw [eL, <- hl, List.drop_left]
theorem U7 : ∀ (l : List FF) (n : Nat) (acc : List FF), (∀ f ∈ l, N7 f) -> (aP l).length <= n -> acc.length + l.length <= 16 -> Eo n (aP l) acc = (acc ++ l, 0) := by
 intro l
 induction l with
 | nil =>
  intro n acc _ _ _;have e : aP [] = [] := rfl;rw [e];cases n with
  | zero => simp [Eo]
  | succ n => simp [Eo]
 | cons f l ih =>
  intro n acc hf hn hl;have hfo := hf f (.head _);have he : aP (f :: l) = jQ f ++ aP l := by simp [aP]
  rw [he] at hn ⊢
  obtain ⟨p1, p2, p3, p4⟩ := LY hfo (aP l);have hlen := jY f;cases n with
  | zero => rw [List.length_append] at hn; omega
  | succ n =>
   have hne : ¬ (jQ f ++ aP l = []) := fun q => by
    have := congrArg List.length q;rw [List.length_append, hlen] at this;simp at this
   rw [List.length_cons] at hl;rw [Eo, if_neg hne, if_neg p2, if_neg (by omega), p3, p4];have := ih n (acc ++ [f]) (fun g hg => hf g (.tail _ hg)) (by rw [List.length_append] at hn; omega) (by simp; omega);rw [this, List.append_assoc]; rfl
theorem Ib {n : Int} (h0 : 0 <= n) (h1 : n < 4294967296) : eY (RF (IntKind.u64.wrap n)) = n := by
 rw [show IntKind.u64.wrap n = n by rw [yC]; omega];have s1 := iF n 0 24 .u64 (by decide);have s2 := iF n 0 16 .u64 (by decide);have s3 := iF n 0 8 .u64 (by decide);have s4 := iF n 0 0 .u64 (by decide);unfold RF rE eY;simp only [s1, s2, s3, s4, kV, List.foldl_cons, List.foldl_nil];omega
theorem Bg {n : Int} (h0 : 0 <= n) (h1 : n < 18446744073709551616) : eY (by8 n) = n := by
 have s1 := iF n 0 56 .u64 (by decide);have s2 := iF n 0 48 .u64 (by decide);have s3 := iF n 0 40 .u64 (by decide);have s4 := iF n 0 32 .u64 (by decide);have s5 := iF n 0 24 .u64 (by decide);have s6 := iF n 0 16 .u64 (by decide);have s7 := iF n 0 8 .u64 (by decide);have s8 := iF n 0 0 .u64 (by decide);unfold by8 rE eY;simp only [s1, s2, s3, s4, s5, s6, s7, s8, kV, List.foldl_cons, List.foldl_nil];omega
structure POk (p : PK) : Prop where
 hd : LK p = true
 a : 0 <= p.2.2.2.2.2.2.1 /\ p.2.2.2.2.2.2.1 < 4294967296
 b : 0 <= p.2.2.2.2.2.2.2.1 /\ p.2.2.2.2.2.2.2.1 < 4294967296
 c : 0 <= p.2.2.2.2.2.2.2.2.1 /\ p.2.2.2.2.2.2.2.2.1 < 4294967296
 d : 0 <= p.2.2.2.2.2.2.2.2.2.1 /\ p.2.2.2.2.2.2.2.2.2.1 < 18446744073709551616
 e : 0 <= p.2.2.2.2.2.2.2.2.2.2.1 /\ p.2.2.2.2.2.2.2.2.2.2.1 < 18446744073709551616
 f : 0 <= p.2.2.2.2.2.2.2.2.2.2.2.1 /\ p.2.2.2.2.2.2.2.2.2.2.2.1 < 18446744073709551616
 g : 0 <= p.2.2.2.2.2.2.2.2.2.2.2.2.1 /\ p.2.2.2.2.2.2.2.2.2.2.2.2.1 < 18446744073709551616
theorem U8 : ∀ a : Nat, a < 4 -> ∀ b : Nat, b < 8 -> ∀ c : Nat, c < 8 -> VJ a b c / 64 = a /\ VJ a b c / 8 % 8 = b /\ VJ a b c % 8 = c := by decide +kernel
theorem Oi : ∀ n : Nat, n < 256 -> sg (IntKind.u8.wrap ((n : Int) - 128)) = (n : Int) - 128 := by decide +kernel
theorem SB {p : PK} (h : POk p) (x : List Int) (fs : List FF) : Zh (vI p ++ x) fs = PK.cut p fs := by
 obtain ⟨a, b, c, d, e, g, r1, r2, r3, q1, q2, q3, q4, l⟩ := p;obtain ⟨h0, h1, h2, h3, h4, h5, h6, h7⟩ := h;unfold LK N9 at h0;simp only [Bool.and_eq_true, decide_eq_true_eq] at h0 h1 h2 h3 h4 h5 h6 h7;obtain ⟨⟨⟨⟨⟨ha, hb⟩, hc⟩, hd⟩, he⟩, hg⟩ := h0;have hB := U8 a.toNat (by omega) b.toNat (by omega) c.toNat (by omega);rw [Int.toNat_of_nonneg ha.1, Int.toNat_of_nonneg hb.1, Int.toNat_of_nonneg hc.1] at hB;have he' := Oi (e + 128).toNat (by omega);rw [Int.toNat_of_nonneg (by omega), show e + 128 - 128 = e by omega] at he';have hg' := Oi (g + 128).toNat (by omega);rw [Int.toNat_of_nonneg (by omega), show g + 128 - 128 = g by omega] at hg';have hd' : IntKind.u8.wrap d = d := by rw [kV]; omega
 have v1 := Ib h1.1 h1.2; have v2 := Ib h2.1 h2.2; have v3 := Ib h3.1 h3.2;have v4 := Bg h4.1 h4.2; have v5 := Bg h5.1 h5.2; have v6 := Bg h6.1 h6.2; have v7 := Bg h7.1 h7.2;show (VJ a b c / 64, VJ a b c / 8 % 8, VJ a b c % 8, IntKind.u8.wrap d, sg (IntKind.u8.wrap e), sg (IntKind.u8.wrap g), eY (RF (IntKind.u64.wrap r1)), eY (RF (IntKind.u64.wrap r2)), eY (RF (IntKind.u64.wrap r3)), eY (by8 q1), eY (by8 q2), eY (by8 q3), eY (by8 q4), fs) = (a, b, c, d, e, g, r1, r2, r3, q1, q2, q3, q4, fs);rw [hB.1, hB.2.1, hB.2.2, hd', he', hg', v1, v2, v3, v4, v5, v6, v7]
theorem PG {p : PK} (h : POk p) (hf : ∀ f ∈ p.fs, N7 f) (h16 : p.fs.length <= 16) (hl : (aP p.fs).length <= 1232) : Tj (vI p ++ aP p.fs) = 0 /\ PZ (vI p ++ aP p.fs) = p := by
 have hd : (vI p ++ aP p.fs).drop 48 = aP p.fs := List.drop_left (l₁ := vI p);have hlen : (vI p ++ aP p.fs).length = 48 + (aP p.fs).length := by rw [List.length_append, uM]
 have ht := U7 p.fs (aP p.fs).length [] hf (Nat.le_refl _) (by simpa using h16);have he : Tj (vI p ++ aP p.fs) = 0 := by
  unfold Tj;rw [if_neg (by omega), if_neg (by omega), hd, ht]
 refine ⟨he, ?_⟩;unfold PZ;rw [if_pos he, hd, ht, SB h];rfl
theorem Y1 (p : PK) : Bs (vI p) := fun x hx => by
 unfold vI RF by8 rE VJ at hx;simp only [List.mem_append, List.mem_cons, List.not_mem_nil, or_false] at hx;rcases hx with (h | h | h | h) | (h | h | h | h) | (h | h | h | h) | (h | h | h | h) | (h | h | h | h | h | h | h | h) | (h | h | h | h | h | h | h | h) | (h | h | h | h | h | h | h | h) | h | h | h | h | h | h | h | h <;> (rw [h]; exact tV _)
theorem U9 {l : List FF} (h : ∀ f ∈ l, Bs f.2) : Bs (aP l) := fun x hx => by
 unfold aP at hx;obtain ⟨t, ht, hx⟩ := List.mem_flatten.1 hx;obtain ⟨f, hf, rfl⟩ := List.mem_map.1 ht;unfold jQ at hx;rcases List.mem_append.1 hx with hx | hx
 ·rcases List.mem_append.1 hx with hx | hx
  ·exact H9 _ x hx
  ·exact H9 _ x hx
 ·exact h f hf x hx
end Go.AM
end
section
namespace Go.AM
def gY (aC sealed : List Int) : List Int := ((twoS 16 ++ twoS (sealed.length : Int)) ++ aC) ++ DW sealed
theorem uN {aC sealed : List Int} (hn : aC.length = 16) : (gY aC sealed).length = 20 + sealed.length + qW sealed.length := by
 unfold gY DW;simp only [List.length_append, jE, List.length_replicate];omega
theorem U_ {s : List Int} (h : Bs s) : Bs (DW s) := h.app fun x hx => by rw [(List.mem_replicate.1 hx).2]; decide
theorem Oj {aC sealed : List Int} (hn : Bs aC) (hs : Bs sealed) : Bs (gY aC sealed) := (((H9 _).app (H9 _)).app hn).app (U_ hs)
noncomputable def kZ (v : VV) (key aC ahead : List Int) (inner : List FF) : VV × FF × Int :=
 if aC.length = 16 then
  if ahead.length > 1280 then (v, f0, 12) else
  if qj inner = 0 then
   if (iL v key [ahead, aC] (pI inner)).2.2 = 0 then ((iL v key [ahead, aC] (pI inner)).1, (1028, gY aC (iL v key [ahead, aC] (pI inner)).2.1), 0)
   else (v, f0, (iL v key [ahead, aC] (pI inner)).2.2)
  else (v, f0, qj inner)
 else (v, f0, 10)
theorem FZ {v : VV} {key : List Int} {ad : List (List Int)} {s : List Int} (hf : qR v = true) (hs : s.length <= 65536) : (iL v key ad s).2.1.length <= s.length + 16 := by
 by_cases he : (iL v key ad s).2.2 = 0
 ·rw [(JK hf he).2.2.1]; exact Nat.le_refl _
 ·rw [(U4 he).2]; simp
theorem Va {v : VV} (hv : okV v) (hf : qR v = true) {key aC ahead : List Int} {inner : List FF} (hk : key.length < fK) (hkb : Bs key) (hn : aC.length < fK) (ha : ahead.length < fK) (hi : FL inner) :
  t_.run .lim (v, key, aC, ahead, inner, ()) = some ((kZ v key aC ahead inner).1, (kZ v key aC ahead inner).2.1, (kZ v key aC ahead inner).2.2, ()) := by
 have hn' : aC.length < 9223372036854775808 := hn;have ha' : ahead.length < 9223372036854775808 := ha;simp only [t_.run, aI hn', aI ha', cond_true];unfold kZ;by_cases h1 : aC.length = 16
 case neg => rw [aA (show ¬ (aC.length : Int) = 16 by omega), if_neg h1]; rfl
 rw [au (show (aC.length : Int) = 16 by omega), if_pos h1];by_cases h2 : ahead.length > 1280
 ·rw [au (show (ahead.length : Int) > 1280 by omega), if_pos h2]; rfl
 rw [aA (show ¬ (ahead.length : Int) > 1280 by omega), if_neg h2];simp only [Bool.not_true, cond_false, FN hi, Option.bind_some];by_cases h3 : qj inner = 0
 case neg => rw [aA h3, if_neg h3]; rfl
 rw [au h3, if_pos h3];have hfl := yD (l := inner);have T : YZ key [ahead, aC] (pI inner) := ⟨hk, hkb, by simp [fK], fun t ht => by
  simp only [List.mem_cons, List.not_mem_nil, or_false] at ht;rcases ht with rfl | rfl
  ·exact ha
  ·exact hn, wH (by omega)⟩
 simp only [Bool.not_true, cond_false, U2 hv hf T, Option.bind_some];have hsl := FZ (key := key) (ad := [ahead, aC]) hf (show (pI inner).length <= 65536 by omega);generalize iL v key [ahead, aC] (pI inner) = w at hsl;obtain ⟨w1, w2, w3⟩ := w;simp only at hsl ⊢
 by_cases h4 : w3 = 0
 case neg => rw [aA h4, if_neg h4]; rfl
 rw [au h4, if_pos h4];have hp : qW w2.length < 4 := by unfold qW; omega
 have hfs : (DW w2).length <= w2.length + 4 := by unfold DW; rw [List.length_append, List.length_replicate]; omega
 have t1 : ∀ n, yu.run .lim (n, ()) = some (twoS n) := fun n => rfl
 simp only [Bool.not_true, cond_false, t1, Option.bind_some, aI (show w2.length < 9223372036854775808 by omega), cond_true];rw [cond_pos (au (show (twoS 16).length + (twoS (w2.length : Int)).length <= maxStr by rw [jE, jE]; decide)), cond_pos (au (show (twoS 16 ++ twoS (w2.length : Int)).length + aC.length <= maxStr by rw [List.length_append, jE, jE, h1]; decide)),
  PE (show w2.length < 4611686018427387904 by omega)]
 simp only [Option.bind_some];rw [cond_pos (au (show ((twoS 16 ++ twoS (w2.length : Int)) ++ aC).length + (DW w2).length <= maxStr by rw [List.length_append, List.length_append, jE, jE, h1]; unfold maxStr; omega))];rfl
noncomputable def j_ (v : VV) (p : PK) (key aC : List Int) (inner : List FF) : VV × List Int × Int :=
 if (findF p.fs 1028).length > 0 then (v, [], 23) else
 if JX p = 0 then
  if (kZ v key aC (D5 p) inner).2.2 = 0 then
   if JX (PK.cut p (p.fs ++ [(kZ v key aC (D5 p) inner).2.1])) = 0 then ((kZ v key aC (D5 p) inner).1, D5 (PK.cut p (p.fs ++ [(kZ v key aC (D5 p) inner).2.1])), 0)
   else (v, [], JX (PK.cut p (p.fs ++ [(kZ v key aC (D5 p) inner).2.1])))
  else (v, [], (kZ v key aC (D5 p) inner).2.2)
 else (v, [], JX p)
theorem Vb (p : PK) : (D5 p).length <= 1280 := by
 unfold D5;split
 ·rename_i h;rw [List.length_append, uM];have hf : qj p.fs = 0 := by
   unfold JX at h;split at h
   ·exact h
   ·exact absurd h (by decide)
  have := yD (l := p.fs);unfold pI at this;rw [if_pos hf] at this;omega
 ·simp
theorem PI {v : VV} (hf : qR v = true) {key aC ahead : List Int} {inner : List FF} : (kZ v key aC ahead inner).2.1.2.length <= 100000 := by
 unfold kZ;split
 ·rename_i hn;split
  ·simp
  ·split
   ·split
    ·rename_i h;have hfl := yD (l := inner);have hsl := FZ (v := v) (key := key) (ad := [ahead, aC]) (s := pI inner) hf (by omega);show (gY aC _).length <= _;rw [uN hn];have : qW (iL v key [ahead, aC] (pI inner)).2.1.length < 4 := by unfold qW; omega
     omega
    ·simp
   ·simp
 ·simp
theorem SC {v : VV} (hv : okV v) (hf : qR v = true) {p : PK} {key aC : List Int} {inner : List FF} (hp : FL p.fs) (hpl : p.fs.length <= 1000000000) (hk : key.length < fK) (hkb : Bs key) (hn : aC.length < fK) (hi : FL inner) :
  qg.run .lim (v, p, key, aC, inner, ()) = some ((j_ v p key aC inner).1, (j_ v p key aC inner).2.1, (j_ v p key aC inner).2.2, ()) := by
 have XT := FY p.fs 1028;have hfe := Sv (l := p.fs) 1028 (by omega) (by omega);have hfe : gK.run .lim (p.2.2.2.2.2.2.2.2.2.2.2.2.2, 1028, ()) = _ := hfe;simp only [qg.run, hfe, Option.bind_some, aI (show (findF p.fs 1028).length < 9223372036854775808 by omega), cond_true];unfold j_;by_cases h1 : (findF p.fs 1028).length > 0
 ·rw [au (show ((findF p.fs 1028).length : Int) > 0 by omega), if_pos h1]; rfl
 rw [aA (show ¬ ((findF p.fs 1028).length : Int) > 0 by omega), if_neg h1];simp only [cond_false, JG hp, Option.bind_some];by_cases h2 : JX p = 0
 case neg => rw [aA h2, if_neg h2]; rfl
 rw [au h2, if_pos h2];have hwl := Vb p;simp only [Bool.not_true, cond_false, Va hv hf hk hkb hn (wH (show (D5 p).length < 9223372036854775808 by omega)) hi, Option.bind_some];have hal := PI (v := v) hf (key := key) (aC := aC) (ahead := D5 p) (inner := inner);generalize kZ v key aC (D5 p) inner = a at hal;obtain ⟨a1, a2, a3⟩ := a;simp only at hal ⊢
 by_cases h3 : a3 = 0
 case neg => rw [aA h3, if_neg h3]; rfl
 rw [au h3, if_pos h3];have hcl : bI.run .lim (p.2.2.2.2.2.2.2.2.2.2.2.2.2, ()) = some p.fs := by
  simp only [bI.run];rw [cond_pos (au (show ([] : List FF).length + p.fs.length < 2932031007402 by simp; omega))];rfl
 have hq : FL (PK.fs (PK.cut p (p.fs ++ [a2]))) := by
  refine ⟨?_, fun f hf => ?_⟩
  ·show (p.fs ++ [a2]).length < _;rw [List.length_append]; simp; omega
  ·rcases List.mem_append.1 hf with hf | hf
   ·exact hp.2 f hf
   ·rw [List.mem_singleton.1 hf]; omega
 have hw := JG hq;have hw : aQ.run .lim ((p.1, p.2.1, p.2.2.1, p.2.2.2.1, p.2.2.2.2.1, p.2.2.2.2.2.1, p.2.2.2.2.2.2.1, p.2.2.2.2.2.2.2.1, p.2.2.2.2.2.2.2.2.1, p.2.2.2.2.2.2.2.2.2.1, p.2.2.2.2.2.2.2.2.2.2.1, p.2.2.2.2.2.2.2.2.2.2.2.1, p.2.2.2.2.2.2.2.2.2.2.2.2.1, p.fs ++ [a2]), ()) = _ := hw;simp only [Bool.not_true, cond_false, hcl, Option.bind_some];rw [cond_pos (au (show p.fs.length + [a2].length < 2932031007402 by simp; omega)), hw];simp only [Option.bind_some];by_cases h4 : JX (PK.cut p (p.fs ++ [a2])) = 0
 ·rw [au h4, if_pos h4]; rfl
 ·rw [aA h4, if_neg h4]; rfl
end Go.AM
end
section
set_option maxRecDepth 100000
namespace Go.AM
theorem Ol {n : Nat} {x : Int} (h : B8 x) : Bs (List.replicate n x) := fun y hy => by rw [(List.mem_replicate.1 hy).2]; exact h
end Go.AM
end
section
namespace Go.AM
abbrev RK := Int × List Int × Int
abbrev r0 : RK := (0, ([], 0))
abbrev CK := Int × List Int × List Int
def DX (a : Int) : Int := if a = 15 then 32 else if a = 17 then 64 else 0
theorem SE (a : Int) : kW.run .lim (a, ()) = some (DX a) := by
 simp only [kW.run];unfold DX;by_cases h : a = 15
 ·rw [au h, if_pos h]; rfl
 ·rw [aA h, if_neg h];by_cases h2 : a = 17
  ·rw [au h2, if_pos h2]; rfl
  ·rw [aA h2, if_neg h2]; rfl
theorem PL (a : Int) : fB.run .lim (a, ()) = some (DX a) := by
 simp only [fB.run];unfold DX;by_cases h : a = 15
 ·rw [au h, if_pos h]; rfl
 ·rw [aA h, if_neg h];by_cases h2 : a = 17
  ·rw [au h2, if_pos h2]; rfl
  ·rw [aA h2, if_neg h2]; rfl
def LZ (k : CK) : Bool := decide (DX k.1 > 0) && decide ((k.2.1.length : Int) = DX k.1) && decide ((k.2.2.length : Int) = DX k.1)
structure KOk (k : CK) : Prop where
 a : k.2.1.length < fK
 b : k.2.2.length < fK
theorem Vd {k : CK} (h : KOk k) : tX.run .lim (k, ()) = some (LZ k) := by
 have h1 : k.2.1.length < 9223372036854775808 := h.a;have h2 : k.2.2.length < 9223372036854775808 := h.b;simp only [tX.run, SE, Option.bind_some, aI h1, aI h2, Bool.or_true, cond_true];rfl
theorem SG {k : CK} (h : KOk k) : iD.run .lim (k, ()) = some (LZ k) := by
 have h1 : k.2.1.length < 9223372036854775808 := h.a;have h2 : k.2.2.length < 9223372036854775808 := h.b;simp only [iD.run, PL, Option.bind_some, aI h1, aI h2, Bool.or_true, cond_true];rfl
theorem L6 (a b : List (List Int)) (ha : a.length < fK) (hb : b.length < fK) : bG.run .lim (a, b, ()) = some (decide (a = b)) := by
 have Si : a.length < 9223372036854775808 := ha;have hb63 : b.length < 9223372036854775808 := hb;simp only [bG.run, aI Si, aI hb63, cond_true];by_cases hl : a.length = b.length
 ·have e := mO (f := bG.l0 .lim) (fun i => (a, b, (i : Int), ())) a.length (fun k => !decide (rd [] a (k : Int) = rd [] b (k : Int))) (some (.inl (false, ()))) (fun k hk => by
   rw [bG.q0];simp only [bG.b0, aI Si, au (show (k : Int) < (a.length : Int) by omega), aF (show (0 : Int) <= (k : Int) by omega) (show (k : Int) < (a.length : Int) by omega), aF (show (0 : Int) <= (k : Int) by omega) (show (k : Int) < (b.length : Int) by omega), cond_true, wk k (by omega)])
  rw [show ((0 : Nat) : Int) = 0 from rfl] at e;rw [au (show (a.length : Int) = (b.length : Int) by omega)];simp only [Bool.not_true, cond_false, e, Hw hl];by_cases h : a = b
  ·rw [au h];simp only [Bool.not_true, cond_false];rw [bG.q0];simp only [bG.b0, aI Si, aA (show ¬ (a.length : Int) < (a.length : Int) by omega), cond_true, cond_false, Option.bind_some]
  ·rw [aA h]; rfl
 ·rw [aA (show ¬ (a.length : Int) = (b.length : Int) by omega), aA (fun h => hl (by rw [h]))]; rfl
end Go.AM
end
section
set_option maxRecDepth 100000
namespace Go.AM
abbrev AS := CK × List (List Int) × List Int × List Int × Int × Int × Int × Int × Int
def wI (s : List Int) : Bool := (decide (12 <= s.length) && decide (s.length <= 256)) && decide (s.length % 4 = 0)
theorem Ve {s : List Int} (h : s.length < 9223372036854775808) : iE.run .lim (s, ()) = some (wI s) := by
 have e1 : decide ((s.length : Int) >= 12) = decide (12 <= s.length) := decide_eq_decide.2 (by omega);have e2 : decide ((s.length : Int) <= 256) = decide (s.length <= 256) := decide_eq_decide.2 (by omega);have e3 : decide ((s.length : Int).tmod 4 = 0) = decide (s.length % 4 = 0) := decide_eq_decide.2 (by rw [Int.tmod_eq_emod_of_nonneg (by omega)]; omega);simp only [iE.run, aI h, Bool.or_true, cond_true, e1, e2, e3];rfl
theorem Xw {s : List Int} (h : s.length < 9223372036854775808) : yt.run .lim (s, ()) = some (wI s) := by
 have e1 : decide ((s.length : Int) >= 12) = decide (12 <= s.length) := decide_eq_decide.2 (by omega);have e2 : decide ((s.length : Int) <= 256) = decide (s.length <= 256) := decide_eq_decide.2 (by omega);have e3 : decide (h_ .i64 (s.length : Int) 3 = 0) = decide (s.length % 4 = 0) := decide_eq_decide.2 (by rw [VN]; omega);simp only [yt.run, aI h, Bool.or_true, cond_true, e1, e2, e3];rfl
theorem Vf {l : List (List Int)} {s : List Int} : ((List.range l.length).any fun k => decide (rd [] l (k : Int) = s)) = decide (s ∈ l) := by
 by_cases h : s ∈ l
 ·rw [au h];obtain ⟨i, hi, rfl⟩ := List.mem_iff_getElem.1 h;exact List.any_eq_true.2 ⟨i, List.mem_range.2 hi, au (kN hi)⟩
 ·rw [aA h];refine List.any_eq_false.2 fun i hi q => h ?_
  have hi := List.mem_range.1 hi;have q := of_decide_eq_true q;rw [kN hi] at q;rw [<- q]; exact List.getElem_mem hi
theorem Vg {l : List (List Int)} {s : List Int} (hl : l.length < 4611686018427387904) : bU.run .lim (l, s, ()) = some (decide (s ∈ l)) := by
 have h63 : l.length < 9223372036854775808 := by omega
 have e := mO (f := bU.l0 .lim) (fun k => (l, s, (k : Int), ())) l.length (fun k => decide (rd [] l (k : Int) = s)) (some (.inl (true, ()))) (fun k hk => by
  rw [bU.q0];simp only [bU.b0, aI h63, au (show (k : Int) < (l.length : Int) by omega), aF (show (0 : Int) <= (k : Int) by omega) (show (k : Int) < (l.length : Int) by omega), cond_true, oh k (by omega)])
 have e0 : bU.l0 .lim (l, s, 0, ()) = _ := e;simp only [bU.run, e0, Vf];cases decide (s ∈ l) with
 | true => rfl
 | false =>
  rw [cond_false, bU.q0];simp only [bU.b0, aI h63, aA (show ¬ (l.length : Int) < (l.length : Int) by omega), cond_true, cond_false, Option.bind_some]
def L8 (l : List (List Int)) : Int :=
 if l.length > 8 then 18 else if ((List.range l.length).any fun k : Nat => !wI (rd [] l (k : Int))) = true then 12 else if ((List.range l.length).any fun k : Nat => decide (rd [] l (k : Int) ∈ l.take k)) = true then 24 else 0
theorem PN {l : List (List Int)} (hl : l.length < 9223372036854775808) (hs : ∀ s ∈ l, s.length < 9223372036854775808) : aV.run .lim (l, ()) = some (L8 l) := by
 simp only [aV.run, aI hl, cond_true];unfold L8;by_cases h8 : l.length > 8
 ·rw [au (show (l.length : Int) > 8 by omega), if_pos h8]; rfl
 rw [aA (show ¬ (l.length : Int) > 8 by omega), if_neg h8, cond_false];have e := mO (f := aV.l0 .lim) (fun k => (l, (k : Int), ())) l.length (fun k => !wI (rd [] l (k : Int))) (some (.inl (12, ()))) (fun k hk => by
  rw [aV.q0];have hm := hs _ (jc (d := ([] : List Int)) (xs := l) (i := (k : Int)) (by omega) (by omega));simp only [aV.b0, aI hl, au (show (k : Int) < (l.length : Int) by omega), aF (show (0 : Int) <= (k : Int) by omega) (show (k : Int) < (l.length : Int) by omega), cond_true, Ve hm, Option.bind_some, oh k (by omega)])
 have e0 : aV.l0 .lim (l, 0, ()) = _ := e;rw [e0];cases h1 : (List.range l.length).any fun k : Nat => !wI (rd [] l (k : Int)) with
 | true => rfl
 | false =>
  rw [if_neg (by decide), cond_false, aV.q0];simp only [aV.b0, aI hl, aA (show ¬ (l.length : Int) < (l.length : Int) by omega), cond_true, cond_false, Option.bind_some];have e := mO (f := aV.l1 .lim) (fun k => (l, (k : Int), ())) l.length (fun k => decide (rd [] l (k : Int) ∈ l.take k)) (some (.inl (24, ()))) (fun k hk => by
   rw [aV.q1];have hc : cut l 0 (k : Int) = l.take k := rfl;have ht : (l.take k).length < 4611686018427387904 := by rw [List.length_take]; omega
   simp only [aV.b1, aI hl, au (show (k : Int) < (l.length : Int) by omega), aF (show (0 : Int) <= (k : Int) by omega) (show (k : Int) < (l.length : Int) by omega), aY (show (0 : Int) <= 0 by omega) (show (0 : Int) <= (k : Int) by omega) (show (k : Int) <= (l.length : Int) by omega), cond_true, hc, Vg ht, Option.bind_some, oh k (by omega)])
  have e1 : aV.l1 .lim (l, 0, ()) = _ := e;rw [e1];cases h2 : (List.range l.length).any fun k : Nat => decide (rd [] l (k : Int) ∈ l.take k) with
  | true => rfl
  | false =>
   rw [if_neg (by decide), cond_false, aV.q1];simp only [aV.b1, aI hl, aA (show ¬ (l.length : Int) < (l.length : Int) by omega), cond_true, cond_false, Option.bind_some]
structure Xx (l : List (List Int)) : Prop where
 few : l.length <= 8
 may : ∀ s ∈ l, wI s = true
 nod : l.Nodup
theorem Om {l : List (List Int)} : L8 l = 0 ↔ Xx l := by
 unfold L8;by_cases h8 : l.length > 8
 ·rw [if_pos h8]; exact ⟨fun h => absurd h (by decide), fun h => absurd h.few (by omega)⟩
 rw [if_neg h8];by_cases h1 : ((List.range l.length).any fun k : Nat => !wI (rd [] l (k : Int))) = true
 ·rw [if_pos h1];refine ⟨fun h => absurd h (by decide), fun h => ?_⟩;obtain ⟨k, hk, q⟩ := List.any_eq_true.1 h1;have hk := List.mem_range.1 hk;rw [kN hk, h.may _ (List.getElem_mem hk)] at q;cases q
 rw [if_neg h1];by_cases h2 : ((List.range l.length).any fun k : Nat => decide (rd [] l (k : Int) ∈ l.take k)) = true
 ·rw [if_pos h2];refine ⟨fun h => absurd h (by decide), fun h => ?_⟩;obtain ⟨k, hk, q⟩ := List.any_eq_true.1 h2;have hk := List.mem_range.1 hk;have q := of_decide_eq_true q;rw [kN hk] at q;obtain ⟨j, hj, e⟩ := List.mem_iff_getElem.1 q;have hj' : j < k := by rw [List.length_take] at hj; omega
  rw [List.getElem_take] at e;exact absurd e (List.pairwise_iff_getElem.1 h.nod j k (by omega) hk hj')
 rw [if_neg h2];refine ⟨fun _ => ⟨by omega, fun s hs => ?_, ?_⟩, fun _ => rfl⟩
 ·obtain ⟨k, hk, rfl⟩ := List.mem_iff_getElem.1 hs;cases hm : wI l[k] with
  | true => rfl
  | false => exact absurd (List.any_eq_true.2 ⟨k, List.mem_range.2 hk, by rw [kN hk, hm]; rfl⟩) h1
 ·refine List.pairwise_iff_getElem.2 fun i j hi hj hij e => h2 ?_
  refine List.any_eq_true.2 ⟨j, List.mem_range.2 hj, au ?_⟩;rw [kN hj, <- e];exact List.mem_iff_getElem.2 ⟨i, by rw [List.length_take]; omega, List.getElem_take⟩
structure VO (x : AS) : Prop where
 k : KOk x.1
 kb : Bs x.1.2.1 /\ Bs x.1.2.2
 j : x.2.1.length < 9223372036854775808
 js : ∀ s ∈ x.2.1, s.length < 9223372036854775808
 jb : ∀ s ∈ x.2.1, Bs s
 u : x.2.2.1.length < 9223372036854775808
def L9 (x : AS) : Bool := (LZ x.1 && decide (L8 x.2.1 = 0)) && (if x.2.2.1 = [] then decide (x.2.2.2.1 = []) && decide (x.2.2.2.2.1 = 0) else decide (x.2.2.1.length = 32))
theorem F5 {x : AS} (h : VO x) : eG.run .lim (x, ()) = some (L9 x) := by
 simp only [eG.run, SG h.k, Option.bind_some, PN h.j h.js, aI h.u];unfold L9;have e32 : decide ((x.2.2.1.length : Int) = 32) = decide (x.2.2.1.length = 32) := decide_eq_decide.2 (by omega);cases hk : LZ x.1 with
 | false => rfl
 | true =>
  by_cases hj : L8 x.2.1 = 0
  ·rw [au hj];by_cases hu : x.2.2.1 = []
   ·rw [if_pos hu, au hu, hj]; rfl
   ·rw [if_neg hu, aA hu, hj, e32]; rfl
  ·rw [aA hj];show (Option.bind (some (L8 x.2.1)) _) = _;rw [Option.bind_some, aA hj]; rfl
theorem DY {l : List (List Int)} (h : l.length < 9223372036854775808) : bG.run .lim (l, l, ()) = some true := by rw [L6 l l h h, au rfl]
theorem Ic {x : AS} (h : x.2.1.length < 9223372036854775808) : gW.run .lim (x, x, ()) = some true := by simp only [gW.run, decide_true, Bool.and_self, cond_true, DY h, Option.bind_some]
theorem Vh {v : VV} (hv : okV v) {x : AS} (hx : VO x) {s : List Int} (hs : s.length < 9223372036854775808) : ∃ r, gV.run .lim (v, x, s, ()) = some r /\ (r = true -> qR v = true /\ L9 x = true /\ s.length <= 4000) := by
 obtain ⟨r, er⟩ := LP v hv;have ef := UU v hv;simp only [gV.run, er, Option.bind_some, JM ef, JM (F5 hx), aI hs, Bool.or_true, cond_true];refine ⟨_, rfl, fun q => ?_⟩;simp only [Bool.and_eq_true, decide_eq_true_eq] at q;exact ⟨q.1.1.2.2, q.1.2.2, by omega⟩
end Go.AM
end
section
set_option maxRecDepth 100000
namespace Go.AM
end Go.AM
end
section
set_option maxRecDepth 100000
namespace Go.AM
end Go.AM
end
section
set_option maxRecDepth 100000
namespace Go.AM
end Go.AM
end
section
set_option maxRecDepth 100000
namespace Go.AM
theorem SH (e : Int) (b : Bool) : kX.run .lim (e, b, ()) = some (b, e, ()) := rfl
theorem L_ {n : Nat} (h : n <= 140737488355328) : strings_Repeat.run .lim ([0], (n : Int), ()) = some (List.replicate n 0) := by
 show Ej ([0], (n : Int), ()) = _;unfold Ej;simp only [Int.toNat_natCast];rw [au (show (0 : Int) <= (n : Int) by omega), Nat.ble_eq_true_of_le (show [(0 : Int)].length * n <= 140737488355328 by simp; omega), zC]; rfl
def Y2 (a : Bool) (e : Int) (b : Bool) (f : Int) : Int := bif a then (bif b then 0 else f) else e
theorem Xy (u aC : List Int) (t1 : Int) (b1 b2 : Bool) (z) : fG.l0 .lim (u, aC, t1, (b1, 10, ()), (b2, 19, ()), z) = some (u, aC, t1, Y2 b1 10 b2 19, z) := by
 rw [fG.q0];simp only [fG.b0];cases b1 <;> cases b2 <;> rfl
theorem Xz (u aC : List Int) (t1 : Int) {c n : Nat} (hc : c <= 1000) (hn : n <= 1000) (a0 : Bool) (a1 : (List (List Int × (List (List Int) × (List Int × List Int))))) (a2 : Int) (a3 : List Int) (a4 : List Int) (a5 : List (List Int)) (a6 : List Int) (a7 : List Int) (a8 : Int) (a9 : Int) (a10 : Int) (a11 : Int) (a12 : Int) (Zi : Bool) (Zj : Int) (Zk : List Int) (a16 : List Int) (a17 : List Int) (Zl : List Int) (Zm : Int) (a20 : Int) (a21 : Int) (a22 : Int) (a23 : Int) {l : List FF} (hl : l.length <= 1000) : fG.l1 .lim (u, aC, t1, ((4 + c : Nat) : Int), (n : Int), 0, a0, a1, a2, a3, a4, a5, a6, a7, a8, a9, a10, a11, a12, Zi, Zj, Zk, a16, a17, Zl, Zm, a20, a21, a22, a23, l, ()) = some (u, aC, t1, a0, a1, a2, a3, a4, a5, a6, a7, a8, a9, a10, a11, a12, Zi, Zj, Zk, a16, a17, Zl, Zm, a20, a21, a22, a23, l ++ List.replicate n (772, List.replicate c 0), ()) := by
 have hz := L_ (n := c) (by omega);have hw : IntKind.i64.wrap (((4 + c : Nat) : Int) - 4) = (c : Int) := by rw [wrap64 (by omega) (by omega)]; omega
 have e := dI (f := fG.l1 .lim) (fun j => (u, aC, t1, ((4 + c : Nat) : Int), (n : Int), (j : Int), a0, a1, a2, a3, a4, a5, a6, a7, a8, a9, a10, a11, a12, Zi, Zj, Zk, a16, a17, Zl, Zm, a20, a21, a22, a23, l ++ List.replicate j (772, List.replicate c 0), ())) (n := n) (fun j hj => by
  rw [fG.q1];simp only [fG.b1, au (show (j : Int) < (n : Int) by omega), cond_true, hw, hz, Option.bind_some, oh j (by omega)];rw [cond_pos (au (by simp; omega)), List.append_assoc, <- List.replicate_succ'])
 have e0 : fG.l1 .lim (u, aC, t1, ((4 + c : Nat) : Int), (n : Int), 0, a0, a1, a2, a3, a4, a5, a6, a7, a8, a9, a10, a11, a12, Zi, Zj, Zk, a16, a17, Zl, Zm, a20, a21, a22, a23, l, ()) = _ := (congrArg (fG.l1 .lim) (by rw [List.replicate_zero, List.append_nil]; rfl)).trans e;rw [e0, fG.q1];simp only [fG.b1, aA (show ¬ (n : Int) < (n : Int) by omega), cond_false]
def holdN (k c : Nat) : Nat := min (8 - k) (1156 / (4 + c) - 1)
def iw (u c : List Int) (n : Nat) : List FF := [(260, u), (516, c)] ++ List.replicate n (772, List.replicate c.length 0)
def jk (u c : List Int) (n : Nat) (t1 : Int) : PK := ((0 : Int), (4, (3, (0, (0, (0, (0, (0, (0, (0, (0, (0, (t1, iw u c n)))))))))))))
noncomputable def wJ (v : VV) (x : AS) (u aC : List Int) (t1 : Int) : VV × AS × List Int × Int :=
 if ¬ u.length = 32 then (v, x, [], 10) else
 match x.2.1 with
 | [] => (v, x, [], 19)
 | c :: rest =>
  if (j_ v (jk u c (holdN (rest.length + 1) c.length) t1) x.1.2.1 aC []).2.2 = 0 then
   ((j_ v (jk u c (holdN (rest.length + 1) c.length) t1) x.1.2.1 aC []).1, (x.1, rest, u, (j_ v (jk u c (holdN (rest.length + 1) c.length) t1) x.1.2.1 aC []).2.1, t1, IntKind.u64.wrap (x.2.2.2.2.2.1 + 1), x.2.2.2.2.2.2.1, x.2.2.2.2.2.2.2.1, x.2.2.2.2.2.2.2.2), (j_ v (jk u c (holdN (rest.length + 1) c.length) t1) x.1.2.1 aC []).2.1, 0)
  else (v, x, [], (j_ v (jk u c (holdN (rest.length + 1) c.length) t1) x.1.2.1 aC []).2.2)
theorem JO (k c : Nat) : holdN k c <= 8 := by unfold holdN; omega
theorem SI {k c : Nat} (hk : k <= 8) (hc : c <= 256) : mn (IntKind.i64.wrap (8 - (k : Int))) (IntKind.i64.wrap ((IntKind.i64.wrap ((1156 : Int).tdiv (IntKind.i64.wrap (4 + (c : Int))))) - 1)) = (holdN k c : Int) := by
 have h1 : IntKind.i64.wrap (8 - (k : Int)) = ((8 - k : Nat) : Int) := by rw [wrap64 (by omega) (by omega)]; omega
 have h2 : IntKind.i64.wrap (4 + (c : Int)) = ((4 + c : Nat) : Int) := by rw [wrap64 (by omega) (by omega)]; omega
 have h3 : (1156 : Int).tdiv ((4 + c : Nat) : Int) = ((1156 / (4 + c) : Nat) : Int) := by rw [Int.tdiv_eq_ediv_of_nonneg (by omega)]; rfl
 have h4 : 1156 / (4 + c) <= 1156 := Nat.div_le_self _ _;have h5 : 1 <= 1156 / (4 + c) := (Nat.le_div_iff_mul_le (by omega)).2 (by omega);rw [h1, h2, h3, wrap64 (n := ((1156 / (4 + c) : Nat) : Int)) (by omega) (by omega), wrap64 (by omega) (by omega)];unfold holdN;rw [dR];generalize 1156 / (4 + c) = q at h4 h5;omega
theorem Vj {u c : List Int} {n : Nat} (hn : n <= 8) (hu : u.length <= 140737488351232) (hc : c.length <= 140737488351232) : FL (iw u c n) /\ (iw u c n).length = 2 + n := by
 have e : (iw u c n).length = 2 + n := by unfold iw; simp; omega
 refine ⟨⟨by omega, fun f hf => ?_⟩, e⟩;unfold iw at hf;simp only [List.cons_append, List.nil_append, List.mem_cons, List.mem_replicate] at hf;rcases hf with rfl | rfl | ⟨_, rfl⟩
 ·exact hu
 ·exact hc
 ·simpa using hc
theorem Mc {v : VV} (hv : okV v) (hf : qR v = true) {x : AS} (hx : VO x) (hj : Xx x.2.1) {u aC : List Int} (hu : u.length <= 140737488351232) (hn : aC.length < fK) (t1 : Int) :
  fG.run .lim (v, x, u, aC, t1, ()) = some ((wJ v x u aC t1).1, (wJ v x u aC t1).2.1, (wJ v x u aC t1).2.2.1, (wJ v x u aC t1).2.2.2, ()) := by
 simp only [fG.run, aI (zy hu), aI hx.j, cond_true, SH, Option.bind_some];rw [Xy];unfold wJ;by_cases h1 : u.length = 32
 case neg => rw [if_pos h1, aA (show ¬ (u.length : Int) = 32 by omega)]; rfl
 rw [if_neg (not_not_intro h1), au (show (u.length : Int) = 32 by omega)];obtain ⟨ky, j, q⟩ := x;have h8 := hj.few;have hm := hj.may;have hkb := hx.kb.1;have hkl := hx.k.a;simp only at h8 hm hkb hkl ⊢
 cases j with
 | nil => rfl
 | cons c rest =>
  have hc := hm c (.head _);have hcl : 12 <= c.length /\ c.length <= 256 := by
   unfold wI at hc;simp only [Bool.and_eq_true, decide_eq_true_eq] at hc;exact hc.1
  have h8 : rest.length + 1 <= 8 := h8;have hl : (c :: rest).length = rest.length + 1 := rfl;rw [au (show ((c :: rest).length : Int) > 0 by rw [hl]; omega)];have hr : rd ([] : List Int) (c :: rest) 0 = c := rfl;have hN := SI (k := rest.length + 1) (c := c.length) h8 hcl.2;have hNl := JO (c :: rest).length c.length;have hw4 : IntKind.i64.wrap (4 + (c.length : Int)) = ((4 + c.length : Nat) : Int) := by rw [wrap64 (by omega) (by omega)]; omega
  have hi0 : inB 0 ((c :: rest).length : Int) = true := aF (by omega) (by rw [hl]; omega);have hsc : ay (c.length : Int) = true := aI (by omega);have hsj : ay ((c :: rest).length : Int) = true := aI (by rw [hl]; omega);rw [<- hl, hw4] at hN;simp only [Y2, cond_true, Option.bind_some, decide_true, Bool.not_true, cond_false, hi0, hr, hsc, hsj, hN, hw4, aA (show ¬ ((4 + c.length : Nat) : Int) = 0 by omega), Bool.not_false];rw [Xz (c := c.length) (n := holdN (c :: rest).length c.length) (l := [(260, u), (516, c)]) (hc := by omega) (hn := by omega) (hl := by simp)];obtain ⟨fl, fn⟩ := Vj (u := u) (c := c) hNl hu (show c.length <= 140737488351232 by omega);have nm := SC hv hf (p := jk u c (holdN (c :: rest).length c.length) t1) (key := ky.2.1) (aC := aC) (inner := []) fl (by show (iw u c _).length <= _; rw [fn]; omega) hkl hkb hn ⟨by decide, fun f hf => nomatch hf⟩;have nm : qg.run .lim ((v.1, v.2), (0, (4, (3, (0, (0, (0, (0, (0, (0, (0, (0, (0, (t1, [(260, u), (516, c)] ++ List.replicate (holdN (c :: rest).length c.length) (772, List.replicate c.length 0)))))))))))))), ky.2.1, aC, ([] : List FF), ()) = _ := nm;simp only [Option.bind_some, nm, <- hl];generalize j_ v (jk u c (holdN (c :: rest).length c.length) t1) ky.2.1 aC [] = M;obtain ⟨w, s, e⟩ := M;simp only;by_cases h2 : e = 0
  case neg => rw [aA h2, if_neg h2]; rfl
  have hcut : cut (c :: rest) 1 ((c :: rest).length : Int) = rest := by
   show ((c :: rest).take (Int.toNat _)).drop 1 = _;rw [Int.toNat_natCast, List.take_length]; rfl
  have clo : aG.run .lim (rest, ()) = some rest := yG (by omega);rw [au h2, if_pos h2];simp only [Bool.not_true, cond_false, aY (show (0 : Int) <= 1 by omega) (show (1 : Int) <= ((c :: rest).length : Int) by rw [hl]; omega) (Int.le_refl _), cond_true, hcut, clo, Option.bind_some];rfl
end Go.AM
end
section
set_option maxRecDepth 100000
namespace Go.AM
abbrev rJ : List Int := List.replicate 32 107
abbrev Ij : List Int := List.replicate 16 107
abbrev wL : List Int := List.replicate 104 0
abbrev PO : VV := (false, [])
theorem SL : okV PO := ⟨by decide, fun k hk => nomatch hk⟩
theorem JQ : Bs rJ := Ol (by decide)
theorem SN : Bs wL := Ol (by decide)
abbrev bwX : AS := ((15, (rJ, rJ)), ([wL], ([], ([], (0, (0, (0, (0, 0))))))))
theorem XA : bg.l0 .lim ([], 0, ()) = some (rJ, ()) := by
 have e := dI (f := bg.l0 .lim) (fun j => (List.replicate j (107 : Int), (j : Int), ())) (n := 32) (fun k hk => by
  rw [bg.q0];have hl : ∀ x : Int, decide ((List.replicate k x).length + [x].length <= maxStr) = true := fun x => au (by unfold maxStr; simp; omega)
  simp only [bg.b0, au (show (k : Int) < 32 by omega), cond_true, hl, oh k (by omega)];rw [List.replicate_succ'])
 refine (show bg.l0 .lim ([], 0, ()) = bg.l0 .lim (List.replicate 32 (107 : Int), ((32 : Nat) : Int), ()) from e).trans ?_;rw [bg.q0];rfl
theorem Oo {v w : VV} {p : PK} {key aC sealed : List Int} (hd : LK p = true) (XT : findF p.fs 1028 = []) (hf : ∀ f ∈ p.fs, N7 f) (h16 : p.fs.length + 1 <= 16) (hl : (aP p.fs).length + 40 <= 1232) (hn : aC.length = 16) (hnb : Bs aC)
  (hs : iL v key [vI p ++ aP p.fs, aC] [] = (w, sealed, 0)) (hsl : sealed.length = 16) (hsb : Bs sealed) : j_ v p key aC [] = (w, vI p ++ aP (p.fs ++ [(1028, gY aC sealed)]), 0) := by
 have hp : qW sealed.length = 0 := by rw [hsl]; rfl
 have hal : (gY aC sealed).length = 36 := by rw [uN hn, hp, hsl]
 have hG : N7 (1028, gY aC sealed) := ⟨by show (0 : Int) <= 1028; decide, by show (1028 : Int) < 65536; decide, by show 12 <= (gY aC sealed).length; omega, by show (gY aC sealed).length % 4 = 0; omega, by show (gY aC sealed).length < 65532; omega, Oj hnb hsb⟩;have w1 : JX p = 0 := by unfold JX; rw [if_pos hd]; exact H_ hf (by omega) (by omega)
 have w2 : D5 p = vI p ++ aP p.fs := by unfold D5; rw [if_pos w1]
 have ha : kZ v key aC (vI p ++ aP p.fs) [] = (w, (1028, gY aC sealed), 0) := by
  unfold kZ;rw [if_pos hn, if_neg (show ¬ (vI p ++ aP p.fs).length > 1280 by rw [List.length_append, uM]; omega), if_pos (show qj [] = 0 from rfl)];have h : pI [] = [] := rfl;rw [h, hs, if_pos rfl]
 have he : aP (p.fs ++ [(1028, gY aC sealed)]) = aP p.fs ++ jQ (1028, gY aC sealed) := by simp [aP]
 have hfl : (aP (p.fs ++ [(1028, gY aC sealed)])).length = (aP p.fs).length + 40 := by rw [he, List.length_append, jY]; show _ + (4 + (gY aC sealed).length) = _; omega
 have w3 : JX (PK.cut p (p.fs ++ [(1028, gY aC sealed)])) = 0 := by
  unfold JX;rw [if_pos (show LK (PK.cut p (p.fs ++ [(1028, gY aC sealed)])) = true from hd)];refine H_ (l := p.fs ++ [(1028, gY aC sealed)]) (fun f hq => ?_) (by simp; omega) (by omega);rcases List.mem_append.1 hq with hq | hq
  ·exact hf f hq
  ·rw [List.mem_singleton.1 hq]; exact hG
 have w4 : D5 (PK.cut p (p.fs ++ [(1028, gY aC sealed)])) = vI p ++ aP (p.fs ++ [(1028, gY aC sealed)]) := by unfold D5; rw [if_pos w3]; rfl
 unfold j_;rw [XT, if_neg (by decide), if_pos w1, w2, ha, if_pos rfl, if_pos w3, w4]
abbrev SQ : PK := jk rJ wL 7 5
noncomputable abbrev XU : List Int := vI SQ ++ aP SQ.fs
noncomputable abbrev VP : List Int := DR rJ [XU, Ij] []
theorem Vk : iL PO rJ [XU, Ij] [] = (PO, VP, 0) := by
 show (PO, qm rJ [XU, Ij] []) = _;unfold qm;rw [if_pos (show uo rJ [XU, Ij] = 0 from rfl), if_neg (show ¬ ([] : List Int).length > 65536 by decide)]
theorem XB : ∀ f ∈ SQ.fs, N7 f := fun f hf => by
 have hf : f ∈ [(260, rJ), (516, wL)] ++ List.replicate 7 ((772 : Int), List.replicate wL.length (0 : Int)) := hf;simp only [List.cons_append, List.nil_append, List.mem_cons, List.mem_replicate] at hf;rcases hf with rfl | rfl | ⟨_, rfl⟩
 ·exact ⟨by decide, by decide, by decide, by decide, by decide, JQ⟩
 ·exact ⟨by decide, by decide, by decide, by decide, by decide, SN⟩
 ·exact ⟨by decide, by decide, by decide, by decide, by decide, SN⟩
theorem Oq : (aP SQ.fs).length = 900 := by decide +kernel
noncomputable abbrev Y3 : List Int := vI SQ ++ aP (SQ.fs ++ [(1028, gY Ij VP)])
theorem Vl : j_ PO SQ rJ Ij [] = (PO, Y3, 0) :=
 Oo (by decide) (by decide +kernel) XB (by decide) (by rw [Oq]; decide) (by decide) (Ol (by decide)) Vk (zA rJ [XU, Ij] []) (Oc _ _ _)
theorem Ot : Y3.length = 988 := by
 have hsl : VP.length = 16 := zA rJ [XU, Ij] [];have hp : qW VP.length = 0 := by rw [hsl]; rfl
 have hal : (gY Ij VP).length = 36 := by rw [uN (by decide), hp, hsl]
 have he : aP (SQ.fs ++ [(1028, gY Ij VP)]) = aP SQ.fs ++ jQ (1028, gY Ij VP) := by simp [aP]
 rw [List.length_append, uM, he, List.length_append, Oq, jY];show 48 + (900 + (4 + (gY Ij VP).length)) = _;omega
theorem SS (e : List UInt8) : (Lib.compact [e]).length = 1 := rfl
theorem PS (c : List Int) : gJ.run .lim ([c], ()) = some false := by
 have s1 : gJ.l0 .lim ([c], 1, 0, [c], [], ()) = gJ.l0 .lim ([c], 1, 1, [c], [c], ()) := by rw [gJ.q0]; rfl
 have s2 : gJ.l0 .lim ([c], 1, 1, [c], [c], ()) = some ([c], [c], ()) := by rw [gJ.q0]; rfl
 have hs : vH [c] = [Ei (WG c)] := by unfold vH; rw [List.map_cons, List.map_nil, List.mergeSort_singleton]; rfl
 have hc : (mM (vH [c])).length = 1 := by rw [hs]; unfold mM; rw [List.length_map]; exact SS _
 simp only [gJ.run];rw [cond_pos (show ay (([c] : List (List Int)).length : Int) = true from rfl)];show (Option.bind (gJ.l0 .lim ([c], 1, 0, [c], [], ())) _) = _;rw [s1, s2];simp only [Option.bind_some, hc];rw [hs];rfl
theorem Vm : fO.run .lim ([wL], ()) = some 0 := by
 have hm : pY.run .lim (wL, ()) = some false := by
  simp only [pY.run, Xw (s := wL) (by decide), Option.bind_some];decide
 have s1 : fO.l0 .lim ([wL], 1, 0, [wL], (true, 18, ()), ()) = fO.l0 .lim ([wL], 1, 1, [wL], (true, 18, ()), ()) := by
  rw [fO.q0];have hr : rd ([] : List Int) [wL] 0 = wL := rfl;simp only [fO.b0, au (show (0 : Int) < 1 by decide), cond_true, hr, hm, Option.bind_some, cond_false];rfl
 have s2 : fO.l0 .lim ([wL], 1, 1, [wL], (true, 18, ()), ()) = some (.inr ([wL], (true, 18, ()), ())) := by rw [fO.q0]; rfl
 have s3 : fO.l1 .lim ((true, 18, ()), (true, 12, ()), (true, 24, ()), ()) = some (0, ()) := by rw [fO.q1]; rfl
 simp only [fO.run, SH, Option.bind_some];rw [cond_pos (show ay (([wL] : List (List Int)).length : Int) = true from rfl)];show (Option.bind (fO.l0 .lim ([wL], 1, 0, [wL], (true, 18, ()), ())) _) = _;rw [s1, s2];simp only [Option.bind_some, PS, Bool.not_false, s3]
theorem PU : jh.run .lim ((15, (rJ, rJ)), [wL], ()) = some (bwX, 0, ()) := by
 have hk := Vd (k := (15, (rJ, rJ))) ⟨by decide, by decide⟩;have hfk : LZ (15, (rJ, rJ)) = true := by decide
 rw [hfk] at hk;have clo : aG.run .lim ([wL], ()) = some [wL] := yG (by decide);have s1 : jh.l0 .lim ((true, 13, ()), (true, 19, ()), 15, rJ, rJ, [wL], 0, [], [], [], [], 0, 0, 0, 0, 0, ()) = some (0, 15, rJ, rJ, [wL], 0, [], [], [], [], 0, 0, 0, 0, 0, ()) := by
  rw [jh.q0];simp only [jh.b0, cond_true, Vm, Option.bind_some];rfl
 simp only [jh.run, hk, SH, Option.bind_some];rw [cond_pos (show ay (([wL] : List (List Int)).length : Int) = true from rfl)];show (Option.bind (jh.l0 .lim ((true, 13, ()), (true, 19, ()), 15, rJ, rJ, [wL], 0, [], [], [], [], 0, 0, 0, 0, 0, ())) _) = _;rw [s1];simp only [Option.bind_some, decide_true, Bool.not_true, cond_false, clo]
theorem XC : VO bwX := ⟨⟨by decide, by decide⟩, ⟨JQ, JQ⟩, by decide, fun s hs => by rw [List.mem_singleton.1 hs]; decide, fun s hs => by rw [List.mem_singleton.1 hs]; exact SN, by decide⟩
theorem Y4 : Xx [wL] := ⟨by decide, fun s hs => by rw [List.mem_singleton.1 hs]; decide, by simp⟩
noncomputable abbrev Zn : AS := ((15, (rJ, rJ)), ([], (rJ, (Y3, (5, (1, (0, (0, 0))))))))
theorem XD : VO Zn := ⟨⟨by decide, by decide⟩, ⟨JQ, JQ⟩, by decide, fun s hs => (by cases hs), fun s hs => (by cases hs), by decide⟩
theorem Vo : wJ PO bwX rJ Ij 5 = (PO, Zn, Y3, 0) := by
 unfold wJ;rw [if_neg (not_not_intro (by decide))];show (if (j_ PO SQ rJ Ij []).2.2 = 0 then _ else _) = _;have e : jk rJ wL (holdN (([] : List (List Int)).length + 1) wL.length) 5 = SQ := rfl;simp only [e, Vl];rfl
theorem Vp : wJ PO Zn rJ Ij 6 = (PO, Zn, [], 19) := by
 unfold wJ;rw [if_neg (not_not_intro (by decide))]
theorem yH : bg.run .lim () = some true := by
 have a1 := Mc (v := PO) SL rfl XC Y4 (u := rJ) (aC := Ij) (by decide) (by decide) 5;have a2 := Mc (v := PO) SL rfl XD ⟨by decide, fun s hs => (by cases hs), .nil⟩ (u := rJ) (aC := Ij) (by decide) (by decide) 6;rw [Vo] at a1;rw [Vp] at a2;have hc : cut rJ 0 16 = Ij := by decide
 have hcb : eX 0 16 (rJ.length : Int) = true := by decide
 have hb : Nat.blt 104 70368744177664 = true := rfl;simp only [bg.run, XA, Option.bind_some, hb, cond_true, PU, hcb, hc, a1, a2];have h5 : ay ((Y3.length : Nat) : Int) = true := by rw [Ot]; decide
 rw [h5, Ot];decide
end Go.AM
end
section
set_option maxRecDepth 100000
namespace Go.AM
theorem Vq {x : AS} (h : L9 x = true) : LZ x.1 = true /\ Xx x.2.1 := by
 unfold L9 at h;simp only [Bool.and_eq_true, decide_eq_true_eq] at h;exact ⟨h.1.1, Om.1 h.1.2⟩
theorem Xx.le {l : List (List Int)} (h : Xx l) : ∀ s ∈ l, s.length <= 256 := fun s hs => by
 have := h.may s hs;unfold wI at this;simp only [Bool.and_eq_true, decide_eq_true_eq] at this;exact this.1.2
abbrev tyV : Ty := .pair .bool (.lst (.pair .str (.pair (.lst .str) (.pair .str .str))))
abbrev tyA : Ty := .pair (.pair (.int .i64) (.pair .str .str)) (.pair (.lst .str) (.pair .str (.pair .str (.pair (.int .u64) (.pair (.int .u64) (.pair (.int .u64) (.pair (.int .u64) (.int .u64))))))))
theorem a_ok {x : AS} (h : Ty.ok tyA x) : VO x := by
 obtain ⟨⟨_, h1, h2⟩, h3, h4, _⟩ := h;exact ⟨⟨zy h1.1, zy h2.1⟩, ⟨h1.2, h2.2⟩, zy h3.1, fun s hs => zy (h3.2 s hs).1, fun s hs => (h3.2 s hs).2, zy h4.1⟩
end Go.AM
end
section
set_option maxRecDepth 100000
namespace Go.AM
theorem Md (u c : List Int) : ∀ {n : Nat}, n <= 8 -> findF (iw u c n) 1028 = []
 | 0, _ => rfl
 | 1, _ => rfl
 | 2, _ => rfl
 | 3, _ => rfl
 | 4, _ => rfl
 | 5, _ => rfl
 | 6, _ => rfl
 | 7, _ => rfl
 | 8, _ => rfl
 | n + 9, h => absurd h (by omega)
theorem Me (u c g : List Int) : ∀ {n : Nat}, n <= 8 -> U5 (iw u c n ++ [(1028, g)]) 516 = (c, 0)
 | 0, _ => rfl
 | 1, _ => rfl
 | 2, _ => rfl
 | 3, _ => rfl
 | 4, _ => rfl
 | 5, _ => rfl
 | 6, _ => rfl
 | 7, _ => rfl
 | 8, _ => rfl
 | n + 9, h => absurd h (by omega)
theorem F6 (f : FF) : ∀ n : Nat, (aP (List.replicate n f)).length = n * (4 + f.2.length)
 | 0 => by rw [Nat.zero_mul]; rfl
 | n + 1 => by
  have e : aP (List.replicate (n + 1) f) = jQ f ++ aP (List.replicate n f) := by simp [aP, List.replicate_succ]
  rw [e, List.length_append, jY, F6 f n, Nat.add_mul, Nat.one_mul]; omega
theorem JR {u c : List Int} (hu : u.length = 32) (n : Nat) : (aP (iw u c n)).length = 36 + (n + 1) * (4 + c.length) := by
 have e : aP (iw u c n) = jQ (260, u) ++ (jQ (516, c) ++ aP (List.replicate n (772, List.replicate c.length 0))) := by unfold iw; simp [aP]
 rw [e, List.length_append, List.length_append, jY, jY, F6];show 4 + u.length + (4 + c.length + n * (4 + (List.replicate c.length (0 : Int)).length)) = _;rw [List.length_replicate, Nat.add_mul, Nat.one_mul, hu]; omega
theorem F7 {k c : Nat} (hc : c <= 256) : (holdN k c + 1) * (4 + c) <= 1156 := by
 have h1 : 1 <= 1156 / (4 + c) := (Nat.le_div_iff_mul_le (by omega)).2 (by omega);have h2 : holdN k c + 1 <= 1156 / (4 + c) := by unfold holdN; omega
 exact Nat.le_trans (Nat.mul_le_mul_right _ h2) (Nat.div_mul_le_self _ _)
theorem SV {c : List Int} (h : wI c = true) : 12 <= c.length /\ c.length <= 256 /\ c.length % 4 = 0 := by
 unfold wI at h;simp only [Bool.and_eq_true, decide_eq_true_eq] at h;exact ⟨h.1.1, h.1.2, h.2⟩
theorem Ou {u c : List Int} (hu : u.length = 32) (hub : Bs u) (hc : wI c = true) (hcb : Bs c) (n : Nat) : ∀ f ∈ iw u c n, N7 f := fun f hf => by
 obtain ⟨c1, c2, c3⟩ := SV hc;unfold iw at hf;simp only [List.cons_append, List.nil_append, List.mem_cons, List.mem_replicate] at hf;rcases hf with rfl | rfl | ⟨_, rfl⟩
 ·exact ⟨by show (0 : Int) <= 260; decide, by show (260 : Int) < 65536; decide, by show 12 <= u.length; omega, by show u.length % 4 = 0; omega, by show u.length < 65532; omega, hub⟩
 ·exact ⟨by show (0 : Int) <= 516; decide, by show (516 : Int) < 65536; decide, by show 12 <= c.length; omega, by show c.length % 4 = 0; omega, by show c.length < 65532; omega, hcb⟩
 ·exact ⟨by show (0 : Int) <= 772; decide, by show (772 : Int) < 65536; decide, by show 12 <= (List.replicate c.length (0 : Int)).length; rw [List.length_replicate]; omega, by show (List.replicate c.length (0 : Int)).length % 4 = 0; rw [List.length_replicate]; omega, by show (List.replicate c.length (0 : Int)).length < 65532; rw [List.length_replicate]; omega, Ol (by decide)⟩
theorem SX (v : VV) (key : List Int) (ad : List (List Int)) : (iL v key ad []).2.2 ≠ 19 := by
 obtain ⟨b, xs⟩ := v;cases b with
 | true =>
  show (n_ xs key ad []).2.2 ≠ 19;unfold n_;split
  ·split
   ·show (0 : Int) ≠ 19; decide
   ·split
    ·show (18 : Int) ≠ 19; decide
    ·show (0 : Int) ≠ 19; decide
  ·show uq key ad _ ≠ 19;unfold uq uU;split
   ·split <;> decide
   ·split
    ·decide
    ·split <;> decide
 | false =>
  show (qm key ad []).2 ≠ 19;unfold qm;split
  ·split
   ·show (12 : Int) ≠ 19; decide
   ·show (0 : Int) ≠ 19; decide
  ·show uo key ad ≠ 19;unfold uo;split
   ·split <;> decide
   ·decide
theorem SY {v : VV} (hf : qR v = true) {u c key aC : List Int} {n : Nat} {t1 : Int} (hu : u.length = 32) (hub : Bs u) (hc : wI c = true) (hcb : Bs c) (hn : n <= 8) (hfit : (n + 1) * (4 + c.length) <= 1156) (hnb : Bs aC) :
  ((j_ v (jk u c n t1) key aC []).2.2 ≠ 0 /\ (j_ v (jk u c n t1) key aC []).2.2 ≠ 19) \/
  ∃ g w, N7 (1028, g) /\ g.length = 36 /\ j_ v (jk u c n t1) key aC [] = (w, vI (jk u c n t1) ++ aP (iw u c n ++ [(1028, g)]), 0) := by
 have hl := JR (c := c) hu n;have hd : LK (jk u c n t1) = true := rfl;have XT : findF (jk u c n t1).fs 1028 = [] := Md u c hn;have hok := Ou hu hub hc hcb n;have hfl : (iw u c n).length = 2 + n := by unfold iw; simp; omega
 have w1 : JX (jk u c n t1) = 0 := by unfold JX; rw [if_pos hd]; exact H_ (l := iw u c n) hok (by omega) (by omega)
 have w2 : D5 (jk u c n t1) = vI (jk u c n t1) ++ aP (iw u c n) := by unfold D5; rw [if_pos w1]; rfl
 by_cases h16 : aC.length = 16
 case neg =>
  left
  have ha : kZ v key aC (D5 (jk u c n t1)) [] = (v, f0, 10) := by unfold kZ; rw [if_neg h16]
  unfold j_;rw [XT, if_neg (by decide), if_pos w1, ha];exact ⟨(show (10 : Int) ≠ 0 by decide), (show (10 : Int) ≠ 19 by decide)⟩
 have hA : (vI (jk u c n t1) ++ aP (iw u c n)).length <= 1280 := by rw [List.length_append, uM]; omega
 have hsv : ∃ S, S = iL v key [vI (jk u c n t1) ++ aP (iw u c n), aC] [] := ⟨_, rfl⟩;obtain ⟨S, hS⟩ := hsv;by_cases h0 : S.2.2 = 0
 ·right
  have hy := JK (v := v) (key := key) (ad := [vI (jk u c n t1) ++ aP (iw u c n), aC]) (s := []) hf (by rw [<- hS]; exact h0);rw [<- hS] at hy;obtain ⟨_, _, y1, y2⟩ := hy;obtain ⟨w, sealed, e⟩ := S;simp only at h0 y1 y2;subst h0;have hsl : sealed.length = 16 := by simpa using y1
  have hp : qW sealed.length = 0 := by rw [hsl]; rfl
  have hal : (gY aC sealed).length = 36 := by rw [uN h16, hp, hsl]
  refine ⟨gY aC sealed, w, ⟨by show (0 : Int) <= 1028; decide, by show (1028 : Int) < 65536; decide, by show 12 <= (gY aC sealed).length; omega, by show (gY aC sealed).length % 4 = 0; omega, by show (gY aC sealed).length < 65532; omega, Oj hnb y2⟩, hal, ?_⟩;exact Oo (p := jk u c n t1) hd XT hok (by show (iw u c n).length + 1 <= 16; omega) (by show (aP (iw u c n)).length + 40 <= 1232; omega) h16 hnb hS.symm hsl y2
 ·left
  have ha : kZ v key aC (D5 (jk u c n t1)) [] = (v, f0, S.2.2) := by
   unfold kZ;rw [if_pos h16, w2, if_neg (show ¬ (vI (jk u c n t1) ++ aP (iw u c n)).length > 1280 by omega), if_pos (show qj [] = 0 from rfl), show pI [] = [] from rfl, <- hS, if_neg h0]
  have hne : S.2.2 ≠ 19 := by rw [hS]; exact SX _ _ _
  unfold j_;rw [XT, if_neg (by decide), if_pos w1, ha, if_neg h0];exact ⟨h0, hne⟩
theorem XE (p : PK) (l : List FF) : vI (PK.cut p l) = vI p := rfl
theorem XF (p : PK) (l : List FF) : (PK.cut p l).fs = l := rfl
theorem XG {n : Int} (h : Ty.ok (.int .u64) n) : 0 <= n /\ n < 18446744073709551616 := by
 obtain ⟨h3, h4⟩ := h;have h1 : (IntKind.min .u64) = 0 := by decide
 have h2 : (IntKind.max .u64) = 18446744073709551615 := by decide
 rw [h1] at h3; rw [h2] at h4;omega
theorem PV {t : Int} {c : List Int} {J : List (List Int)} (hJ : J.length <= 8) (hc : ¬ c ∈ J) (z) : aJ.l0 .lim (t, c, J, (J.length : Int), 0, z) = some (.inr (t, z)) := by
 have e := dI (f := aJ.l0 .lim) (fun k => (t, c, J, (J.length : Int), (k : Int), z)) (n := J.length) (fun k hk => by
  rw [aJ.q0];have hm := jc (d := ([] : List Int)) (xs := J) (i := (k : Int)) (by omega) (by omega);simp only [aJ.b0, au (show (k : Int) < (J.length : Int) by omega), aF (show (0 : Int) <= (k : Int) by omega) (show (k : Int) < (J.length : Int) by omega), cond_true, aA (show ¬ rd ([] : List Int) J (k : Int) = c from fun q => hc (q ▸ hm)), cond_false, oh k (by omega)])
 have e0 : aJ.l0 .lim (t, c, J, (J.length : Int), 0, z) = _ := e;rw [e0, aJ.q0];simp only [aJ.b0, aA (show ¬ (J.length : Int) < (J.length : Int) by omega), cond_false]
theorem JU {v : VV} (hv : okV v) {x : AS} (hx : VO x) {u aC : List Int} (hu : u.length <= 140737488351232) (hub : Bs u) (hn : aC.length < fK) (hnb : Bs aC) {t : Int} (ht : 0 <= t /\ t < 18446744073709551616) : aJ.run .lim (v, x, u, aC, t, ()) = some true := by
 obtain ⟨r, er, hr⟩ := Vh hv hx (s := []) (by decide);simp only [aJ.run, er, Option.bind_some, yH];cases r with
 | false => rfl
 | true =>
  obtain ⟨hf, hfx, _⟩ := hr rfl;obtain ⟨hk, hj⟩ := Vq hfx;have ea := Mc hv hf hx hj hu hn t;have sv := RV v v hv hv;rw [au rfl] at sv;have sx := Ic (x := x) hx.j;have fail : ∀ e : Int, ¬ e = 0 -> (¬ e = 19 \/ x.2.1 = []) -> wJ v x u aC t = (v, x, [], e) -> aJ.run .lim (v, x, u, aC, t, ()) = some true := fun e h0 h19 he => by
   rw [he] at ea;simp only [aJ.run, er, Option.bind_some, yH, Bool.not_true, cond_false, ea, aA h0, Bool.not_false, cond_true, sv, sx, Bool.and_self, decide_true, aI hx.j, Bool.or_true];rcases h19 with h | h
   ·rw [aA h]; rfl
   ·rw [h]; simp
  by_cases h32 : u.length = 32
  case neg =>
   have := fail 10 (by decide) (.inl (by decide)) (by unfold wJ; rw [if_pos h32]);simpa only [aJ.run, er, Option.bind_some, yH] using this
  obtain ⟨ky, j, q⟩ := x;cases j with
  | nil =>
   have := fail 19 (by decide) (.inr rfl) (by unfold wJ; rw [if_neg (not_not_intro h32)]);simpa only [aJ.run, er, Option.bind_some, yH] using this
  | cons c rest =>
   have hm : wI c = true := hj.may c (.head _);have hcb : Bs c := hx.jb c (.head _);obtain ⟨c1, c2, c3⟩ := SV hm;have hN8 := JO (rest.length + 1) c.length;rcases SY (v := v) (key := ky.2.1) (t1 := t) hf h32 hub hm hcb hN8 (F7 c2) hnb with ⟨z1, z2⟩ | ⟨g, w, hg, hgl, hM⟩
   ·have := fail _ z1 (.inl z2) (by
     unfold wJ;rw [if_neg (not_not_intro h32)];show (if (j_ v (jk u c (holdN (rest.length + 1) c.length) t) ky.2.1 aC []).2.2 = 0 then _ else _) = _;rw [if_neg z1])
    simpa only [aJ.run, er, Option.bind_some, yH] using this
   have hs : wJ v (ky, c :: rest, q) u aC t = (w, (ky, rest, u, vI (jk u c (holdN (rest.length + 1) c.length) t) ++ aP (iw u c (holdN (rest.length + 1) c.length) ++ [(1028, g)]), t, IntKind.u64.wrap (q.2.2.2.1 + 1), q.2.2.2.2.1, q.2.2.2.2.2.1, q.2.2.2.2.2.2), vI (jk u c (holdN (rest.length + 1) c.length) t) ++ aP (iw u c (holdN (rest.length + 1) c.length) ++ [(1028, g)]), 0) := by
    unfold wJ;rw [if_neg (not_not_intro h32)];show (if (j_ v (jk u c (holdN (rest.length + 1) c.length) t) ky.2.1 aC []).2.2 = 0 then _ else _) = _;rw [hM]; rfl
   rw [hs] at ea;have hfit := F7 (k := rest.length + 1) c2;have hok := Ou h32 hub hm hcb (holdN (rest.length + 1) c.length);have hl := JR (c := c) h32 (holdN (rest.length + 1) c.length);have hone := Me u c g hN8;generalize holdN (rest.length + 1) c.length = n at *;have hfl : (iw u c n).length = 2 + n := by unfold iw; simp; omega
   have he : aP (iw u c n ++ [(1028, g)]) = aP (iw u c n) ++ jQ (1028, g) := by simp [aP]
   have hel : (aP (iw u c n ++ [(1028, g)])).length = (aP (iw u c n)).length + 40 := by rw [he, List.length_append, jY]; show _ + (4 + g.length) = _; omega
   have Y5 : ∀ f ∈ iw u c n ++ [(1028, g)], N7 f := fun f hq => by
    rcases List.mem_append.1 hq with hq | hq
    ·exact hok f hq
    ·rw [List.mem_singleton.1 hq]; exact hg
   have hQ : POk (PK.cut (jk u c n t) (iw u c n ++ [(1028, g)])) := ⟨rfl, by show (0 : Int) <= 0 /\ (0 : Int) < 4294967296; decide, by show (0 : Int) <= 0 /\ (0 : Int) < 4294967296; decide, by show (0 : Int) <= 0 /\ (0 : Int) < 4294967296; decide, by show (0 : Int) <= 0 /\ (0 : Int) < 18446744073709551616; decide, by show (0 : Int) <= 0 /\ (0 : Int) < 18446744073709551616; decide, by show (0 : Int) <= 0 /\ (0 : Int) < 18446744073709551616; decide, ht⟩;obtain ⟨r1, r2⟩ := PG (p := PK.cut (jk u c n t) (iw u c n ++ [(1028, g)])) hQ Y5 (by show (iw u c n ++ [(1028, g)]).length <= 16; rw [List.length_append, hfl]; simp; omega) (by show (aP (iw u c n ++ [(1028, g)])).length <= 1232; omega);rw [XE, XF] at r1 r2;have hTl : (vI (jk u c n t) ++ aP (iw u c n ++ [(1028, g)])).length <= 1280 := by rw [List.length_append, uM]; omega
   have hTb : Bs (vI (jk u c n t) ++ aP (iw u c n ++ [(1028, g)])) := (Y1 _).app (U9 fun f hf => (Y5 f hf).b);have rr := RH hTb (by omega);rw [r1, r2] at rr;generalize vI (jk u c n t) ++ aP (iw u c n ++ [(1028, g)]) = T at *;have hjr : Xx rest := ⟨by have := hj.few; simp at this; omega, fun s hs => hj.may s (.tail _ hs), (List.nodup_cons.1 hj.nod).2⟩;have hcr : ¬ c ∈ rest := (List.nodup_cons.1 hj.nod).1;have hyo : VO (ky, rest, u, T, t, IntKind.u64.wrap (q.2.2.2.1 + 1), q.2.2.2.2.1, q.2.2.2.2.2.1, q.2.2.2.2.2.2) := ⟨hx.k, hx.kb, Nat.lt_of_le_of_lt hjr.few (by decide), fun s hs => Nat.lt_of_le_of_lt (hjr.le s hs) (by decide), fun s hs => hx.jb s (.tail _ hs), by show u.length < _; omega⟩;have hfy := F5 hyo;have hft : L9 (ky, rest, u, T, t, IntKind.u64.wrap (q.2.2.2.1 + 1), q.2.2.2.2.1, q.2.2.2.2.2.1, q.2.2.2.2.2.2) = true := by
    have hk : LZ ky = true := hk;have hun : ¬ u = [] := fun h => by rw [h] at h32; cases h32
    unfold L9;simp only [hk, Om.2 hjr, decide_true, Bool.and_self, if_neg hun, h32]
   rw [hft] at hfy;have on := U6 (l := iw u c n ++ [(1028, g)]) 516 (by rw [List.length_append, hfl]; simp; omega);rw [hone] at on;have hl' : (c :: rest).length = rest.length + 1 := rfl;have h8 := hj.few;have h8 : rest.length + 1 <= 8 := h8;have hcut : cut (c :: rest) 1 ((c :: rest).length : Int) = rest := by
    show ((c :: rest).take (Int.toNat _)).drop 1 = _;rw [Int.toNat_natCast, List.take_length]; rfl
   have htx := DY (l := rest) (by omega);have hr0 : rd ([] : List Int) (c :: rest) 0 = c := rfl;have hsj : ay ((c :: rest).length : Int) = true := aI (by rw [hl']; omega);have hi0 : inB 0 ((c :: rest).length : Int) = true := aF (by omega) (by rw [hl']; omega);have hcb1 : eX 1 ((c :: rest).length : Int) ((c :: rest).length : Int) = true := aY (by omega) (by rw [hl']; omega) (Int.le_refl _);have on : fP.run .lim ((PK.cut (jk u c n t) (iw u c n ++ [(1028, g)])).2.2.2.2.2.2.2.2.2.2.2.2.2, 516, ()) = some (c, 0, ()) := on;simp only [Bool.not_true, cond_false, ea, Option.bind_some, decide_true, rr, hsj, Bool.or_true, cond_true, aA (show ¬ ((c :: rest).length : Int) = 0 by rw [hl']; omega), aI (show T.length < 9223372036854775808 by omega), Bool.or_self, aA (show ¬ (T.length : Int) > 1280 by omega), Bool.not_false, hfy, on, hr0, hi0, hcb1, hcut, htx, aI (show rest.length < 9223372036854775808 by omega)];rw [PV hjr.few hcr];simp only [Option.bind_some];have hm3 : decide ((PK.cut (jk u c n t) (iw u c n ++ [(1028, g)])).2.2.1 = 3) = true := rfl;have hxm : decide ((PK.cut (jk u c n t) (iw u c n ++ [(1028, g)])).2.2.2.2.2.2.2.2.2.2.2.2.1 = t) = true := au rfl;simp only [hm3, hxm, Bool.and_self, cond_true, Option.bind_some]
theorem Ie : ∀ x, oks [.ag tyV, .ag tyA, .one .str, .one .str, .one (.int .u64)] x -> aJ.run .lim x = some true := by
 intro x h
 match x with
 | (v, x, u, aC, t, ()) =>
  obtain ⟨h1, h2, h3, h4, h5, _⟩ := h;exact JU (ok_v h1) (a_ok h2) h3.1 h3.2 (zy h4.1) h4.2 (XG h5)
end Go.AM
end
