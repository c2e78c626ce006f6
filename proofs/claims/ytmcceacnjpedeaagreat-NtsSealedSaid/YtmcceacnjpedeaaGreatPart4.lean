import Derived.Test.YtmcceacnjpedeaaGreatPart3

/-! The functions that the laws of this seat reach, as plain functions, and what these answer; no condition. -/
set_option linter.unusedSimpArgs false
set_option linter.unusedVariables false

section
namespace Go.AM
noncomputable def yG (key : List Int) (l : List (List Int)) : Nat -> List Int
 | 0 => uY key CW
 | k + 1 => dU (vC (yG key l k)) (uY key (rd [] l (k : Int)))
noncomputable def s2E (key d s : List Int) : List Int :=
 if s.length < 16 then uY key (dU (uI s) (vC d)) else uY key (s.take (s.length - 16) ++ dU (s.drop (s.length - 16)) d)
noncomputable def FQ (key : List Int) (l : List (List Int)) : List Int :=
 if l.length = 0 then uY key (List.replicate 15 0 ++ [1]) else s2E key (yG key l (l.length - 1)) (rd [] l ((l.length - 1 : Nat) : Int))
theorem JI (key : List Int) (l : List (List Int)) : ∀ k, CY (yG key l k)
 | 0 => zh _ _
 | k + 1 => ⟨by rw [yG, fB, (lS _).1], UH _ _⟩
theorem BJ (key : List Int) (l : List (List Int)) : CY (FQ key l) := by
 unfold FQ s2E;split
 ·exact zh _ _
 ·split <;> exact zh _ _
theorem Zu (key : List Int) : CY (xk key) := lS _
theorem RI {key : List Int} (hk : key.length = 16 \/ key.length = 32) (hkb : Bs key) : sF.run .lim (key, ()) = some ((key, (xk key, vC (xk key))), 0, ()) := by
 have z := qG (n := 16) (by omega);have UJ : (List.replicate 16 (0 : Int)).length = 16 := rfl;have he := w_ (key := key) (b := CW) (kH (by omega)) (by rw [UJ]; decide) hkb;rw [xQ hk UJ] at he;simp only [sF.run];rw [show (16 : Int) = ((16 : Nat) : Int) from rfl, z];simp only [Option.bind_some, he, decide_true, Bool.not_true, cond_false, uH (pG key CW)];rw [show vC (encS key CW) = xk key from rfl, uH (Zu key)];rfl
section
variable {key : List Int}
theorem Qk {l : List (List Int)} (hk : key.length = 16 \/ key.length = 32) (hkb : Bs key) (hl : l.length < dF) (hs : ∀ s ∈ l, s.length < dF) :
  eX.run .lim ((key, (xk key, vC (xk key))), l, ()) = some (FQ key l) := by
 have hlim : l.length < 9223372036854775808 := hl;simp only [eX.run, aF hlim, cond_true];unfold FQ;by_cases h0 : l.length = 0
 ·rw [au (show (l.length : Int) = 0 by omega), if_pos h0];have z := qG (n := 15) (by omega);simp only [cond_true];rw [show (15 : Int) = ((15 : Nat) : Int) from rfl, z];simp only [Option.bind_some];rw [cond_pos (by decide), Au hk hkb (by decide)];rfl
 ·rw [aA (show ¬ (l.length : Int) = 0 by omega), if_neg h0];have z := qG (n := 16) (by omega);have w1 : IntKind.i64.wrap ((l.length : Int) - 1) = ((l.length - 1 : Nat) : Int) := by rw [wrap64 (by omega) (by omega)]; omega
  have hc : cut l 0 ((l.length - 1 : Nat) : Int) = l.take (l.length - 1) := by
   have := mV l 0 (l.length - 1);rw [show ((0 : Nat) : Int) = 0 from rfl] at this;rw [this, List.drop_zero, Nat.sub_zero]
  have htl : (l.take (l.length - 1)).length = l.length - 1 := by rw [List.length_take]; omega
  generalize hs1 : rd ([] : List Int) l ((l.length - 1 : Nat) : Int) = s;have hsl : s.length < 9223372036854775808 := by rw [<- hs1]; exact hs _ (fC (by omega) (by omega))
  have hloop := dA (f := eX.l0 .lim) (fun k => (yG key l k, s, l.take (l.length - 1), ((l.length - 1 : Nat) : Int), (k : Int), key, xk key, vC (xk key), ())) (n := l.length - 1) (fun k hk' => by
   rw [eX.q0];have hok := JI key l k;have ht := Au (key := key) (s := rd [] l (k : Int)) hk hkb (hs _ (fC (by omega) (by omega)));have hx := pJ (a := vC (yG key l k)) (b := uY key (rd [] l (k : Int))) (by rw [(lS _).1, (zh _ _).1]; omega) (by rw [(zh _ _).1]; omega);simp only [eX.b0, au (show (k : Int) < ((l.length - 1 : Nat) : Int) by omega), htl, aH (show (0 : Int) <= k by omega) (show (k : Int) < ((l.length - 1 : Nat) : Int) by omega), pF (d := ([] : List Int)) (xs := l) hk', cond_true, uH hok, Option.bind_some, ht, hx, wk k (by omega)];rfl)
  rw [show yG key l 0 = uY key CW from rfl, show ((0 : Nat) : Int) = 0 from rfl] at hloop;simp only [cond_false];rw [show (16 : Int) = ((16 : Nat) : Int) from rfl, z];simp only [Option.bind_some, Au hk hkb (show (List.replicate 16 (0 : Int)).length < dF by decide), w1, aH (show (0 : Int) <= ((l.length - 1 : Nat) : Int) by omega) (show ((l.length - 1 : Nat) : Int) < (l.length : Int) by omega), aQ (Int.le_refl 0) (show (0 : Int) <= ((l.length - 1 : Nat) : Int) by omega) (show ((l.length - 1 : Nat) : Int) <= (l.length : Int) by omega), cond_true, hc, htl, aF (show l.length - 1 < 9223372036854775808 by omega), hs1];rw [hloop, eX.q0];simp only [eX.b0, aA (show ¬ ((l.length - 1 : Nat) : Int) < ((l.length - 1 : Nat) : Int) by omega), cond_false, Option.bind_some, aF hsl, cond_true];have w2 : IntKind.i64.wrap ((s.length : Int) - ((16 : Nat) : Int)) = (s.length : Int) - 16 := by rw [wrap64 (by omega) (by omega)]; omega
  rw [w2];have hd := JI key l (l.length - 1);unfold s2E;by_cases h3 : s.length < 16
  ·rw [aA (show ¬ ((s.length : Int) - 16 >= 0) by omega), if_pos h3];have w15 : IntKind.i64.wrap (15 - (s.length : Int)) = ((15 - s.length : Nat) : Int) := by rw [wrap64 (by omega) (by omega)]; omega
   have hz := qG (n := 15 - s.length) (by omega);have Zt : (s ++ [128]) ++ List.replicate (15 - s.length) (0 : Int) = uI s := by unfold uI; simp
   have hx := pJ (a := uI s) (b := vC (yG key l (l.length - 1))) (by rw [mO h3, (lS _).1]; omega) (by rw [(lS _).1]; omega);simp only [cond_false];rw [cond_pos (au (by unfold maxStr; simp; omega)), w15, hz];simp only [Option.bind_some];rw [cond_pos (au (by unfold maxStr; simp; omega)), Zt];simp only [uH hd, Option.bind_some, hx];rw [Au hk hkb (by rw [fB, mO h3]; decide)];rfl
  ·rw [au (show (s.length : Int) - 16 >= 0 by omega), if_neg h3];have e16 : (s.length : Int) - 16 = ((s.length - 16 : Nat) : Int) := by omega
   have hc1 : cut s ((s.length - 16 : Nat) : Int) (s.length : Int) = s.drop (s.length - 16) := by rw [mV, List.take_of_length_le (by rw [List.length_drop]; omega)]
   have hc2 : cut s 0 ((s.length - 16 : Nat) : Int) = s.take (s.length - 16) := by
    have := mV s 0 (s.length - 16);rw [show ((0 : Nat) : Int) = 0 from rfl] at this;rw [this, List.drop_zero, Nat.sub_zero]
   have hx := pJ (a := s.drop (s.length - 16)) (b := yG key l (l.length - 1)) (by rw [List.length_drop, hd.1]; omega) (by rw [hd.1]; omega);have Zv : (s.take (s.length - 16) ++ dU (s.drop (s.length - 16)) (yG key l (l.length - 1))).length = s.length := by rw [List.length_append, fB, List.length_take, List.length_drop]; omega
   simp only [e16, cond_true, aQ (Int.le_refl 0) (show (0 : Int) <= ((s.length - 16 : Nat) : Int) by omega) (show ((s.length - 16 : Nat) : Int) <= (s.length : Int) by omega), aQ (show (0 : Int) <= ((s.length - 16 : Nat) : Int) by omega) (show ((s.length - 16 : Nat) : Int) <= (s.length : Int) by omega) (Int.le_refl _), hc1, hc2, hx, Option.bind_some];rw [cond_pos (au (by rw [fB, List.length_take, List.length_drop]; unfold maxStr; omega)), Au hk hkb (by rw [Zv]; exact hsl)];rfl
theorem Xx {l : List (List Int)} (hk : key.length = 16 \/ key.length = 32) (hkb : Bs key) (hl : l.length <= 127) (hs : ∀ s ∈ l, s.length < dF) :
  dO.run .lim (key, l, ()) = some (FQ key l, 0, ()) := by
 have hsz : iW.run .lim (key, ()) = some true := by
  have JJ : key.length < 9223372036854775808 := by omega
  simp only [iW.run, aF JJ, cond_true, Bool.or_true];rcases hk with h | h
  ·rw [au (show (key.length : Int) = 16 by omega)]; rfl
  ·rw [au (show (key.length : Int) = 32 by omega), Bool.or_true]
 simp only [dO.run, hsz, Option.bind_some, Bool.not_true, cond_false, aF (show l.length < 9223372036854775808 by omega), cond_true, aA (show ¬ (l.length : Int) > 127 by omega)];unfold FQ;by_cases h0 : l.length = 0
 ·rw [au (show (l.length : Int) = 0 by omega), if_pos h0];have z := xO (n := 15) (by omega);simp only [cond_true];rw [show (15 : Int) = ((15 : Nat) : Int) from rfl, z];simp only [Option.bind_some];rw [cond_pos (by decide), xq hk hkb (by decide)];rfl
 ·rw [aA (show ¬ (l.length : Int) = 0 by omega), if_neg h0];have z := xO (n := 16) (by omega);have w1 : IntKind.i64.wrap ((l.length : Int) - 1) = ((l.length - 1 : Nat) : Int) := by rw [wrap64 (by omega) (by omega)]; omega
  have hloop := dA (f := dO.l0 .lim) (fun k => (key, l, yG key l k, (k : Int), ())) (n := l.length - 1) (fun k hk' => by
   rw [dO.q0];have hok := JI key l k;have ht := xq (key := key) (s := rd [] l (k : Int)) hk hkb (hs _ (fC (by omega) (by omega)));have hx := mM (a := vC (yG key l k)) (b := uY key (rd [] l (k : Int))) (by rw [(lS _).1, (zh _ _).1]; omega) (by rw [(zh _ _).1]; omega);simp only [dO.b0, aF (show l.length < 9223372036854775808 by omega), w1, au (show (k : Int) < ((l.length - 1 : Nat) : Int) by omega), aH (show (0 : Int) <= k by omega) (show (k : Int) < (l.length : Int) by omega), cond_true, xP hok, Option.bind_some, ht, hx, wk k (by omega)];rfl)
  rw [show yG key l 0 = uY key CW from rfl, show ((0 : Nat) : Int) = 0 from rfl] at hloop;simp only [cond_false];rw [show (16 : Int) = ((16 : Nat) : Int) from rfl, z];simp only [Option.bind_some, xq hk hkb (show (List.replicate 16 (0 : Int)).length < dF by decide)];rw [hloop, dO.q0];generalize hs1 : rd ([] : List Int) l ((l.length - 1 : Nat) : Int) = s;have hsl : s.length < 9223372036854775808 := by rw [<- hs1]; exact hs _ (fC (by omega) (by omega))
  simp only [dO.b0, aF (show l.length < 9223372036854775808 by omega), w1, aA (show ¬ ((l.length - 1 : Nat) : Int) < ((l.length - 1 : Nat) : Int) by omega), cond_false, Option.bind_some, cond_true, aH (show (0 : Int) <= ((l.length - 1 : Nat) : Int) by omega) (show ((l.length - 1 : Nat) : Int) < (l.length : Int) by omega), hs1, aF hsl];have w2 : IntKind.i64.wrap ((s.length : Int) - ((16 : Nat) : Int)) = (s.length : Int) - 16 := by rw [wrap64 (by omega) (by omega)]; omega
  rw [w2];have hd := JI key l (l.length - 1);unfold s2E;by_cases h3 : s.length < 16
  ·rw [au (show (s.length : Int) < ((16 : Nat) : Int) by omega), if_pos h3];have hx := mM (a := vC (yG key l (l.length - 1))) (b := uI s) (by rw [mO h3, (lS _).1]; omega) (by rw [mO h3]; omega);rw [RD (by rw [mO h3, (lS _).1])] at hx;simp only [cond_true, xP hd, Iu h3, Option.bind_some, hx];rw [xq hk hkb (by rw [fB, mO h3]; decide)];rfl
  ·rw [aA (show ¬ (s.length : Int) < ((16 : Nat) : Int) by omega), if_neg h3];have e16 : (s.length : Int) - 16 = ((s.length - 16 : Nat) : Int) := by omega
   have hc1 : cut s ((s.length - 16 : Nat) : Int) (s.length : Int) = s.drop (s.length - 16) := by rw [mV, List.take_of_length_le (by rw [List.length_drop]; omega)]
   have hc2 : cut s 0 ((s.length - 16 : Nat) : Int) = s.take (s.length - 16) := by
    have := mV s 0 (s.length - 16);rw [show ((0 : Nat) : Int) = 0 from rfl] at this;rw [this, List.drop_zero, Nat.sub_zero]
   have hx := mM (a := s.drop (s.length - 16)) (b := yG key l (l.length - 1)) (by rw [List.length_drop, hd.1]; omega) (by rw [hd.1]; omega);have Zv : (s.take (s.length - 16) ++ dU (s.drop (s.length - 16)) (yG key l (l.length - 1))).length = s.length := by rw [List.length_append, fB, List.length_take, List.length_drop]; omega
   simp only [e16, cond_false, aQ (Int.le_refl 0) (show (0 : Int) <= ((s.length - 16 : Nat) : Int) by omega) (show ((s.length - 16 : Nat) : Int) <= (s.length : Int) by omega), aQ (show (0 : Int) <= ((s.length - 16 : Nat) : Int) by omega) (show ((s.length - 16 : Nat) : Int) <= (s.length : Int) by omega) (Int.le_refl _), cond_true, hc1, hc2, hx, Option.bind_some];rw [cond_pos (au (by rw [fB, List.length_take, List.length_drop]; unfold maxStr; omega)), xq hk hkb (by rw [Zv]; exact hsl)];rfl
def Aw (v : List Int) : List Int := (v.set 8 (gB .u8 (rd 0 v 8) 127)).set 12 (gB .u8 (rd 0 (v.set 8 (gB .u8 (rd 0 v 8) 127)) 12) 127)
theorem xR (v : List Int) : (Aw v).length = v.length := by simp [Aw]
noncomputable def uZ (key v s : List Int) : List Int := dU s (Ov key (Aw v) s.length)
theorem nM (key v s : List Int) : (uZ key v s).length = s.length := fB _ _
theorem Ql (key v s : List Int) : Bs (uZ key v s) := UH _ _
theorem OE (key v : List Int) {s : List Int} (h : Bs s) : uZ key v (uZ key v s) = s := by
 unfold uZ;rw [fB, RF (by rw [xg]; omega) h]
theorem Qm {key v : List Int} {n : Nat} (hk : key.length = 16 \/ key.length = 32) (hv : v.length = 16) (hn : n <= 65536) : Ru key v (n : Int) = Ov key v n := by
 unfold Ru Rt;rw [if_neg (show ¬ ((n : Int) < 0 \/ (n : Int) > 65536) by omega), if_pos hk, if_pos hv, if_pos rfl, Int.toNat_natCast]
theorem FT {v s : List Int} (hk : key.length = 16 \/ key.length = 32) (hkb : Bs key) (hv : v.length = 16) (hs : s.length <= 65536) : lM.run .lim (key, v, s, ()) = some (uZ key v s) := by
 have ha := Ox (key := key) (at_ := Aw v) (n := (s.length : Int)) (kH (by omega)) (by rw [xR, hv]; decide) hkb;rw [Qm hk (by rw [xR, hv]) hs] at ha;have hx := pJ (a := s) (b := Ov key (Aw v) s.length) (by rw [xg]; omega) (by rw [xg]; omega);unfold Aw at ha hx;simp only [lM.run, List.length_set, hv, aH (show (0 : Int) <= 8 by omega) (show (8 : Int) < ((16 : Nat) : Int) by omega), aH (show (0 : Int) <= 12 by omega) (show (12 : Int) < ((16 : Nat) : Int) by omega), aF (show s.length < 9223372036854775808 by omega), cond_true, ha, Option.bind_some, hx];rfl
theorem JK {v s : List Int} (hk : key.length = 16 \/ key.length = 32) (hkb : Bs key) (hv : v.length = 16) (hs : s.length <= 65536) : gX.run .lim (key, v, s, ()) = some (uZ key v s) := by
 have ha := Oy (key := key) (at_ := Aw v) (n := (s.length : Int)) (kH (by omega)) (by rw [xR, hv]; decide) hkb;rw [Qm hk (by rw [xR, hv]) hs] at ha;have hx := mM (a := s) (b := Ov key (Aw v) s.length) (by rw [xg]; omega) (by rw [xg]; omega);unfold Aw at ha hx;simp only [gX.run, List.length_set, hv, aH (show (0 : Int) <= 8 by omega) (show (8 : Int) < ((16 : Nat) : Int) by omega), aH (show (0 : Int) <= 12 by omega) (show (12 : Int) < ((16 : Nat) : Int) by omega), aF (show s.length < 9223372036854775808 by omega), cond_true, ha, Option.bind_some, hx];rfl
abbrev jY (key : List Int) : List Int := key.take (key.length / 2)
abbrev xu (key : List Int) : List Int := key.drop (key.length / 2)
def oO (key : List Int) (ad : List (List Int)) : Int := if key.length = 32 \/ key.length = 64 then (if ad.length >= 127 then 18 else 0) else 13
noncomputable def oW (key : List Int) (ad : List (List Int)) (plain : List Int) : List Int :=
 FQ (jY key) (ad ++ [plain]) ++ uZ (xu key) (FQ (jY key) (ad ++ [plain])) plain
noncomputable def xw (key : List Int) (ad : List (List Int)) (plain : List Int) : List Int × Int :=
 if oO key ad = 0 then (if plain.length > 65536 then ([], 12) else (oW key ad plain, 0)) else ([], oO key ad)
noncomputable def kV (key sealed : List Int) : List Int := uZ (xu key) (sealed.take 16) (sealed.drop 16)
noncomputable def sQ (key : List Int) (ad : List (List Int)) (sealed : List Int) : List Int × Int :=
 if oO key ad = 0 then (if sealed.length < 16 then ([], 11) else if sealed.length > 65552 then ([], 12) else
  if FQ (jY key) (ad ++ [kV key sealed]) = sealed.take 16 then (kV key sealed, 0) else ([], 17)) else ([], oO key ad)
theorem Az {s : List Int} (h : Bs s) (n : Nat) : Bs (s.take n) := fun x hx => h x (List.mem_of_mem_take hx)
theorem JL {s : List Int} (h : Bs s) (n : Nat) : Bs (s.drop n) := fun x hx => h x (List.mem_of_mem_drop hx)
theorem uJ {key : List Int} (h : key.length = 32 \/ key.length = 64) : ((jY key).length = 16 \/ (jY key).length = 32) /\ ((xu key).length = 16 \/ (xu key).length = 32) := by
 unfold jY xu;rw [List.length_take, List.length_drop]; omega
theorem FU {ad : List (List Int)} (hk : key.length < dF) (hkb : Bs key) (ha : ad.length < dF) :
  ∃ r r1, lK.run .lim (key, ad, ()) = some (r, r1, oO key ad, ()) /\ (oO key ad = 0 -> r = (jY key, (xk (jY key), vC (xk (jY key)))) /\ r1 = xu key) := by
 have JJ : key.length < 9223372036854775808 := hk;have UK : ad.length < 9223372036854775808 := ha;have hd : (key.length : Int).tdiv 2 = ((key.length / 2 : Nat) : Int) := by rw [Int.tdiv_eq_ediv_of_nonneg (Int.natCast_nonneg _)]; simp
 have w1 : IntKind.i64.wrap ((key.length : Int).tdiv 2) = ((key.length / 2 : Nat) : Int) := by rw [hd, wrap64 (by omega) (by omega)]
 unfold oO;simp only [lK.run, aF JJ, aF UK, cond_true, Bool.or_true, w1];by_cases h1 : key.length = 32 \/ key.length = 64
 ·have : (!decide ((key.length : Int) = 32) && !decide ((key.length : Int) = 64)) = false := by
   rcases h1 with h | h
   ·rw [au (show (key.length : Int) = 32 by omega)]; rfl
   ·rw [au (show (key.length : Int) = 64 by omega), Bool.not_true, Bool.and_false]
  rw [this, if_pos h1];simp only [cond_false];by_cases h2 : ad.length >= 127
  ·rw [au (show (ad.length : Int) >= 127 by omega), if_pos h2];exact ⟨_, _, rfl, fun h => absurd h (by decide)⟩
  ·rw [aA (show ¬ (ad.length : Int) >= 127 by omega), if_neg h2];have hc1 : cut key 0 ((key.length / 2 : Nat) : Int) = jY key := by
    have := mV key 0 (key.length / 2);rw [show ((0 : Nat) : Int) = 0 from rfl] at this;rw [this, List.drop_zero, Nat.sub_zero]
   have hc2 : cut key ((key.length / 2 : Nat) : Int) (key.length : Int) = xu key := by rw [mV, List.take_of_length_le (by rw [List.length_drop]; omega)]
   simp only [cond_false, aQ (Int.le_refl 0) (show (0 : Int) <= ((key.length / 2 : Nat) : Int) by omega) (show ((key.length / 2 : Nat) : Int) <= (key.length : Int) by omega), aQ (show (0 : Int) <= ((key.length / 2 : Nat) : Int) by omega) (show ((key.length / 2 : Nat) : Int) <= (key.length : Int) by omega) (Int.le_refl _), cond_true, hc1, hc2, RI (uJ h1).1 (Az hkb _), Option.bind_some];exact ⟨_, _, rfl, fun _ => ⟨rfl, rfl⟩⟩
 ·rw [aA (show ¬ (key.length : Int) = 32 by omega), aA (show ¬ (key.length : Int) = 64 by omega), if_neg h1];exact ⟨_, _, rfl, fun h => absurd h (by decide)⟩
theorem MG {ad : List (List Int)} (hk : key.length < dF) (ha : ad.length < dF) : iD.run .lim (key, ad, ()) = some (oO key ad) := by
 have JJ : key.length < 9223372036854775808 := hk;have UK : ad.length < 9223372036854775808 := ha;unfold oO;simp only [iD.run, aF JJ, aF UK, cond_true, Bool.or_true];by_cases h1 : key.length = 32 \/ key.length = 64
 ·have : (!decide ((key.length : Int) = 32) && !decide ((key.length : Int) = 64)) = false := by
   rcases h1 with h | h
   ·rw [au (show (key.length : Int) = 32 by omega)]; rfl
   ·rw [au (show (key.length : Int) = 64 by omega), Bool.not_true, Bool.and_false]
  rw [this, if_pos h1];by_cases h2 : ad.length >= 127
  ·rw [au (show (ad.length : Int) >= 127 by omega), if_pos h2]; rfl
  ·rw [aA (show ¬ (ad.length : Int) >= 127 by omega), if_neg h2]; rfl
 ·rw [aA (show ¬ (key.length : Int) = 32 by omega), aA (show ¬ (key.length : Int) = 64 by omega), if_neg h1]; rfl
theorem xU {ad : List (List Int)} (h : oO key ad = 0) : (key.length = 32 \/ key.length = 64) /\ ad.length < 127 := by
 unfold oO at h;split at h
 ·split at h
  ·exact absurd h (by decide)
  ·exact ⟨by assumption, by omega⟩
 ·exact absurd h (by decide)
theorem FV {ad : List (List Int)} (h : ad.length < 4398046511104) : bn.run .lim (ad, ()) = some ad := by
 simp only [bn.run];rw [cond_pos (au (by simpa using h)), List.nil_append]
theorem UL {ad : List (List Int)} {plain : List Int} (hk : key.length < dF) (hkb : Bs key) (ha : ad.length < dF) (had : ∀ s ∈ ad, s.length < dF) (hp : plain.length < dF) :
  wV.run .lim (key, ad, plain, ()) = some ((xw key ad plain).1, (xw key ad plain).2, ()) := by
 obtain ⟨r, r1, e, hz⟩ := FU hk hkb ha;have hp63 : plain.length < 9223372036854775808 := hp;unfold xw;simp only [wV.run, e, Option.bind_some, aF hp63, cond_true];by_cases h0 : oO key ad = 0
 ·obtain ⟨rfl, rfl⟩ := hz h0;obtain ⟨h1, h2⟩ := xU h0;obtain ⟨g1, g2⟩ := uJ h1;rw [au h0, if_pos h0];simp only [Bool.not_true, cond_false];by_cases h3 : plain.length > 65536
  ·rw [au (show (plain.length : Int) > 65536 by omega), if_pos h3]; rfl
  ·rw [aA (show ¬ (plain.length : Int) > 65536 by omega), if_neg h3];have hall : ∀ s ∈ ad ++ [plain], s.length < dF := fun s hs => by
    rcases List.mem_append.1 hs with hs | hs
    ·exact had s hs
    ·rw [List.mem_singleton.1 hs]; exact hp
   have hv := (BJ (jY key) (ad ++ [plain])).1;simp only [cond_false, FV (show ad.length < 4398046511104 by omega), Option.bind_some];rw [cond_pos (au (by simp; omega)), Qk g1 (Az hkb _) (kH (by simp; omega)) hall];simp only [Option.bind_some, FT g2 (JL hkb _) hv (show plain.length <= 65536 by omega)];rw [cond_pos (au (by rw [hv, nM]; unfold maxStr; omega))];rfl
 ·rw [aA h0, if_neg h0];rfl
theorem Xy {ad : List (List Int)} {plain : List Int} (hk : key.length = 16 \/ key.length = 32) (hkb : Bs key) (ha : ad.length < 127) (hs : ∀ s ∈ ad ++ [plain], s.length < dF) : jE.run .lim (key, ad, plain, ()) = some (FQ key (ad ++ [plain])) := by
 simp only [jE.run];rw [cond_pos (au (by omega)), cond_pos (au (by simp; omega)), Xx hk hkb (by simp; omega) hs];rfl
theorem RJ {a b : List Int} (h : a.length = b.length) (ha : Bs a) (hb : Bs b) : dU a b = List.replicate a.length 0 ↔ b = a := by
 constructor
 ·intro e;refine (BD (d := 0) h.symm fun k hk => ?_);have h1 : rd 0 (dU a b) (k : Int) = 0 := by rw [e, mW (by simp; omega)]; simp
  rw [xM (by omega)] at h1;have := xor_assoc (rd 0 a (k : Int)) (rd 0 b (k : Int)) (rd 0 b (k : Int));rw [h1, xor_self, zero_xor (hb _ (fC (by omega) (by omega))), xor_zero (ha _ (fC (by omega) (by omega)))] at this;exact this
 ·rintro rfl
  refine BD (d := 0) (by simp) fun k hk => ?_
  rw [fB] at hk;rw [xM hk, xor_self, mW (by simpa using hk)]; simp
theorem UN {ad : List (List Int)} {sealed : List Int} (hk : key.length < dF) (hkb : Bs key) (ha : ad.length < dF) (had : ∀ s ∈ ad, s.length < dF) (hp : sealed.length < dF) (hpb : Bs sealed) :
  wY.run .lim (key, ad, sealed, ()) = some ((sQ key ad sealed).1, (sQ key ad sealed).2, ()) := by
 obtain ⟨r, r1, e, hz⟩ := FU hk hkb ha;have hp63 : sealed.length < 9223372036854775808 := hp;unfold sQ;simp only [wY.run, e, Option.bind_some, aF hp63, cond_true];by_cases h0 : oO key ad = 0
 ·obtain ⟨rfl, rfl⟩ := hz h0;obtain ⟨h1, h2⟩ := xU h0;obtain ⟨g1, g2⟩ := uJ h1;rw [au h0, if_pos h0];simp only [Bool.not_true, cond_false];by_cases h3 : sealed.length < 16
  ·rw [au (show (sealed.length : Int) < 16 by omega), if_pos h3]; rfl
  ·rw [aA (show ¬ (sealed.length : Int) < 16 by omega), if_neg h3];simp only [cond_false];by_cases h4 : sealed.length > 65552
   ·rw [au (show (sealed.length : Int) > 65552 by omega), if_pos h4]; rfl
   ·rw [aA (show ¬ (sealed.length : Int) > 65552 by omega), if_neg h4];have hc1 : cut sealed 0 16 = sealed.take 16 := by
     have := mV sealed 0 16;simpa using this
    have hc2 : cut sealed 16 (sealed.length : Int) = sealed.drop 16 := by
     have := mV sealed 16 sealed.length;rw [show ((16 : Nat) : Int) = 16 from rfl] at this;rw [this, List.take_of_length_le (by rw [List.length_drop]; omega)]
    have ht : (sealed.take 16).length = 16 := by rw [List.length_take]; omega
    have hdl : (sealed.drop 16).length = sealed.length - 16 := List.length_drop;have hol : (kV key sealed).length = sealed.length - 16 := by unfold kV; rw [nM, hdl]
    have hall : ∀ s ∈ ad ++ [kV key sealed], s.length < dF := fun s hs => by
     rcases List.mem_append.1 hs with hs | hs
     ·exact had s hs
     ·rw [List.mem_singleton.1 hs, hol]; exact kH (by omega)
    have hv := BJ (jY key) (ad ++ [kV key sealed]);have z := qG (n := 16) (by omega);have hx := pJ (a := sealed.take 16) (b := FQ (jY key) (ad ++ [kV key sealed])) (by rw [ht, hv.1]; omega) (by rw [hv.1]; omega);have hst := FT (v := sealed.take 16) (s := sealed.drop 16) g2 (JL hkb _) ht (by omega);rw [show uZ (xu key) (sealed.take 16) (sealed.drop 16) = kV key sealed from rfl] at hst;simp only [cond_false, aQ (Int.le_refl 0) (show (0 : Int) <= 16 by omega) (show (16 : Int) <= (sealed.length : Int) by omega), aQ (show (0 : Int) <= 16 by omega) (show (16 : Int) <= (sealed.length : Int) by omega) (Int.le_refl _), cond_true, hc1, hc2, hst, Option.bind_some, FV (show ad.length < 4398046511104 by omega)];rw [cond_pos (au (by simp; omega)), Qk g1 (Az hkb _) (kH (by simp; omega)) hall];simp only [Option.bind_some, hx];rw [show (16 : Int) = ((16 : Nat) : Int) from rfl, z];simp only [Option.bind_some];have hiff := RJ (a := sealed.take 16) (b := FQ (jY key) (ad ++ [kV key sealed])) (by rw [ht, hv.1]) (Az hpb _) hv.2;rw [ht] at hiff;by_cases h5 : FQ (jY key) (ad ++ [kV key sealed]) = sealed.take 16
    ·rw [au (hiff.2 h5), if_pos h5]; rfl
    ·rw [aA (fun q => h5 (hiff.1 q)), if_neg h5]; rfl
 ·rw [aA h0, if_neg h0];rfl
theorem UO {ad : List (List Int)} {sealed : List Int} (hk : key.length < dF) (hkb : Bs key) (ha : ad.length < dF) (had : ∀ s ∈ ad, s.length < dF) (hp : sealed.length < dF) :
  jw.run .lim (key, ad, sealed, ()) = some ((sQ key ad sealed).1, (sQ key ad sealed).2, ()) := by
 have hp63 : sealed.length < 9223372036854775808 := hp;have JJ : key.length < 9223372036854775808 := hk;have hd : (key.length : Int).tdiv 2 = ((key.length / 2 : Nat) : Int) := by rw [Int.tdiv_eq_ediv_of_nonneg (Int.natCast_nonneg _)]; simp
 have w1 : IntKind.i64.wrap ((key.length : Int).tdiv 2) = ((key.length / 2 : Nat) : Int) := by rw [hd, wrap64 (by omega) (by omega)]
 unfold sQ;simp only [jw.run, MG hk ha, Option.bind_some, aF hp63, aF JJ, cond_true, w1];by_cases h0 : oO key ad = 0
 ·obtain ⟨h1, h2⟩ := xU h0;obtain ⟨g1, g2⟩ := uJ h1;rw [au h0, if_pos h0];simp only [Bool.not_true, cond_false];by_cases h3 : sealed.length < 16
  ·rw [au (show (sealed.length : Int) < 16 by omega), if_pos h3]; rfl
  ·rw [aA (show ¬ (sealed.length : Int) < 16 by omega), if_neg h3];simp only [cond_false];by_cases h4 : sealed.length > 65552
   ·rw [au (show (sealed.length : Int) > 65552 by omega), if_pos h4]; rfl
   ·rw [aA (show ¬ (sealed.length : Int) > 65552 by omega), if_neg h4];have hc1 : cut sealed 0 16 = sealed.take 16 := by
     have := mV sealed 0 16;simpa using this
    have hc2 : cut sealed 16 (sealed.length : Int) = sealed.drop 16 := by
     have := mV sealed 16 sealed.length;rw [show ((16 : Nat) : Int) = 16 from rfl] at this;rw [this, List.take_of_length_le (by rw [List.length_drop]; omega)]
    have hc3 : cut key 0 ((key.length / 2 : Nat) : Int) = jY key := by
     have := mV key 0 (key.length / 2);rw [show ((0 : Nat) : Int) = 0 from rfl] at this;rw [this, List.drop_zero, Nat.sub_zero]
    have hc4 : cut key ((key.length / 2 : Nat) : Int) (key.length : Int) = xu key := by rw [mV, List.take_of_length_le (by rw [List.length_drop]; omega)]
    have ht : (sealed.take 16).length = 16 := by rw [List.length_take]; omega
    have hdl : (sealed.drop 16).length = sealed.length - 16 := List.length_drop;have hol : (kV key sealed).length = sealed.length - 16 := by unfold kV; rw [nM, hdl]
    have hall : ∀ s ∈ ad ++ [kV key sealed], s.length < dF := fun s hs => by
     rcases List.mem_append.1 hs with hs | hs
     ·exact had s hs
     ·rw [List.mem_singleton.1 hs, hol]; exact kH (by omega)
    have hst := JK (v := sealed.take 16) (s := sealed.drop 16) g2 (JL hkb _) ht (by omega);rw [show uZ (xu key) (sealed.take 16) (sealed.drop 16) = kV key sealed from rfl] at hst;simp only [cond_false, aQ (Int.le_refl 0) (show (0 : Int) <= 16 by omega) (show (16 : Int) <= (sealed.length : Int) by omega), aQ (show (0 : Int) <= 16 by omega) (show (16 : Int) <= (sealed.length : Int) by omega) (Int.le_refl _), aQ (Int.le_refl 0) (show (0 : Int) <= ((key.length / 2 : Nat) : Int) by omega) (show ((key.length / 2 : Nat) : Int) <= (key.length : Int) by omega), aQ (show (0 : Int) <= ((key.length / 2 : Nat) : Int) by omega) (show ((key.length / 2 : Nat) : Int) <= (key.length : Int) by omega) (Int.le_refl _), cond_true, hc1, hc2, hc3, hc4, hst, Option.bind_some, Xy g1 (Az hkb _) h2 hall];by_cases h5 : FQ (jY key) (ad ++ [kV key sealed]) = sealed.take 16
    ·rw [au h5, if_pos h5]; rfl
    ·rw [aA h5, if_neg h5]; rfl
 ·rw [aA h0, if_neg h0];rfl
end
theorem RN {key : List Int} {ad : List (List Int)} {plain : List Int} (h0 : oO key ad = 0) (hp : plain.length <= 65536) (hpb : Bs plain) : sQ key ad (oW key ad plain) = (plain, 0) := by
 have hv := BJ (jY key) (ad ++ [plain]);have ht : (oW key ad plain).take 16 = FQ (jY key) (ad ++ [plain]) := by unfold oW; rw [List.take_append_of_le_length (by rw [hv.1]; omega), List.take_of_length_le (by rw [hv.1]; omega)]
 have hd : (oW key ad plain).drop 16 = uZ (xu key) (FQ (jY key) (ad ++ [plain])) plain := by unfold oW; rw [List.drop_append_of_le_length (by rw [hv.1]; omega), List.drop_of_length_le (by rw [hv.1]; omega), List.nil_append]
 have hl : (oW key ad plain).length = plain.length + 16 := by unfold oW; rw [List.length_append, hv.1, nM]; omega
 have ho : kV key (oW key ad plain) = plain := by unfold kV; rw [ht, hd, OE _ _ hpb]
 unfold sQ;rw [if_pos h0, if_neg (by omega), if_neg (by omega), ho, ht, if_pos rfl]
theorem Iw (key : List Int) (ad : List (List Int)) (plain : List Int) : (oW key ad plain).length = plain.length + 16 := by unfold oW; rw [List.length_append, (BJ _ _).1, nM]; omega
theorem Qn (key : List Int) (ad : List (List Int)) (plain : List Int) : Bs (oW key ad plain) := fun x h => by
 unfold oW at h;rcases List.mem_append.1 h with h | h
 ·exact (BJ _ _).2 x h
 ·exact Ql _ _ _ x h
end Go.AM
end
section
namespace Go.AM
def sS (key : List Int) (ad : List (List Int)) (n : Nat) : Int := if oN (key, ad, [], []) = 0 then (if n > 65536 then 12 else 0) else oN (key, ad, [], [])
theorem JM (key : List Int) (ad : List (List Int)) (p t : List Int) : oN (key, ad, p, t) = oN (key, ad, [], []) := rfl
noncomputable def sU (xs : List KK) (key : List Int) (ad : List (List Int)) (plain : List Int) : List KK × List Int × Int :=
 if sS key ad plain.length = 0 then
  match (List.range xs.length).find? (fun j : Nat => FK (rd k0 xs (j : Int)) (key, ad, plain, [])) with
  | some k => (xs, (rd k0 xs (k : Int)).2.2.2, 0)
  | none => if xs.length >= 2048 then (xs, [], 18) else (xs ++ [(key, ad, plain, txt (xs.length + 1) plain)], txt (xs.length + 1) plain, 0)
 else (xs, [], sS key ad plain.length)
noncomputable def yH (xs : List KK) (key : List Int) (ad : List (List Int)) (t : List Int) : List Int × Int :=
 if oN (key, ad, [], []) = 0 then (if t.length < 16 then ([], 11) else if t.length > 65552 then ([], 12) else
  match (List.range xs.length).find? (fun j : Nat => hit key ad t (rd k0 xs (j : Int))) with
  | some k => ((rd k0 xs (k : Int)).2.2.1, 0)
  | none => ([], 17)) else ([], oN (key, ad, [], []))
noncomputable def jU (v : VV) (key : List Int) (ad : List (List Int)) (plain : List Int) : VV × List Int × Int :=
 bif v.1 then ((true, (sU v.2 key ad plain).1), (sU v.2 key ad plain).2) else (v, xw key ad plain)
noncomputable def fM (v : VV) (key : List Int) (ad : List (List Int)) (t : List Int) : List Int × Int := bif v.1 then yH v.2 key ad t else sQ key ad t
structure UQ (key : List Int) (ad : List (List Int)) (s : List Int) : Prop where
 k : key.length < dF
 kb : Bs key
 a : ad.length < dF
 al : ∀ t ∈ ad, t.length < dF
 s : s.length < dF
theorem FW (key : List Int) (ad : List (List Int)) : oO key ad = oN (key, ad, [], []) := by
 show _ = if key.length ≠ 32 /\ key.length ≠ 64 then 13 else if ad.length > 126 then 18 else 0
 unfold oO;by_cases h : key.length = 32 \/ key.length = 64
 ·rw [if_pos h, if_neg (show ¬ (key.length ≠ 32 /\ key.length ≠ 64) by omega)];by_cases h2 : ad.length >= 127
  ·rw [if_pos h2, if_pos (show ad.length > 126 by omega)]
  ·rw [if_neg h2, if_neg (show ¬ ad.length > 126 by omega)]
 ·rw [if_neg h, if_pos (show key.length ≠ 32 /\ key.length ≠ 64 by omega)]
theorem RP {xs : List KK} (h : xs.length < 2048) : bW.run .lim (xs, ()) = some xs := by
 simp only [bW.run];rw [cond_pos (au (by simp; omega)), List.nil_append]
theorem RQ (xs : List KK) (key : List Int) (ad : List (List Int)) (plain : List Int) (b : Bool) (hx : xs.length < dF) (hok : ∀ k ∈ xs, Rz k) (ha : ad.length < dF) :
  iG.l0 .lim (xs, (xs.length : Int), 0, key, ad, plain, [], xs, b, xs, false, ()) = match (List.range xs.length).find? (fun j : Nat => FK (rd k0 xs (j : Int)) (key, ad, plain, [])) with
   | some k => some (.inl ((k : Int), xs, key, ad, plain, [], b, xs, false, ()))
   | none => some (.inr (xs, key, ad, plain, [], b, xs, false, ())) := by
 have FX : xs.length < 9223372036854775808 := hx;have e := qp (f := iG.l0 .lim) (fun k => (xs, (xs.length : Int), (k : Int), key, ad, plain, [], xs, b, xs, false, ())) xs.length (fun j : Nat => FK (rd k0 xs (j : Int)) (key, ad, plain, [])) (fun k => some (.inl ((k : Int), xs, key, ad, plain, [], b, xs, false, ()))) (fun k hk => by
  rw [iG.q0];have hm : Rz (rd k0 xs k) := hok _ (fC (by omega) (by omega));simp only [iG.b0, UE (rd k0 xs k) (key, ad, plain, []) hm.2.1 ha, wk k (by omega), au (show (k : Int) < (xs.length : Int) by omega), aH (show (0 : Int) <= k by omega) (show (k : Int) < (xs.length : Int) by omega), cond_true, Option.bind_some])
 rw [show ((0 : Nat) : Int) = 0 from rfl] at e;rw [e];cases (List.range xs.length).find? (fun j : Nat => FK (rd k0 xs (j : Int)) (key, ad, plain, [])) with
 | some k => rfl
 | none =>
  simp only;rw [iG.q0];simp only [iG.b0, aA (show ¬ (xs.length : Int) < (xs.length : Int) by omega), cond_false]
theorem Xz {v : VV} (hv : okV v) (hf : uG v = true) {key : List Int} {ad : List (List Int)} {plain : List Int} (T : UQ key ad plain) :
  iG.run .lim (v, key, ad, plain, ()) = some ((jU v key ad plain).1, (jU v key ad plain).2.1, (jU v key ad plain).2.2, ()) := by
 obtain ⟨b, xs⟩ := v;have hx : xs.length < dF := hv.1;have hp63 : plain.length < 9223372036854775808 := T.s;have FX : xs.length < 9223372036854775808 := hx;unfold jU;cases b with
 | false =>
  have hn : xs = [] := by
   unfold uG at hf;simpa using hf
  subst hn;have hs := UL T.k T.kb T.a T.al T.s;simp only [iG.run, kQ.run, hs, Option.bind_some, cond_false];unfold xw;by_cases h0 : oO key ad = 0
  ·rw [if_pos h0];by_cases h1 : plain.length > 65536
   ·rw [if_pos h1]; rfl
   ·rw [if_neg h1]; rfl
  ·rw [if_neg h0, aA h0]; rfl
 | true =>
  have hr := FN (key, ad, plain, []) T.k T.a;rw [JM] at hr;have hf' := RQ xs key ad plain true hx hv.2 T.a;simp only [iG.run, hr, Option.bind_some, aF hp63, aF FX, cond_true, hf'];unfold sU sS;by_cases h0 : oN (key, ad, [], []) = 0
  ·rw [au h0, if_pos h0];simp only [Bool.not_true, cond_false];by_cases h1 : plain.length > 65536
   ·rw [au (show (plain.length : Int) > 65536 by omega), if_pos h1, if_neg (by decide)]; rfl
   ·rw [aA (show ¬ (plain.length : Int) > 65536 by omega), if_neg h1, if_pos rfl];simp only [cond_false];cases hq : (List.range xs.length).find? (fun j : Nat => FK (rd k0 xs (j : Int)) (key, ad, plain, [])) with
    | some k =>
     have hk : k < xs.length := List.mem_range.1 (List.mem_of_find?_eq_some hq);simp only [Option.bind_some];rw [cond_pos (au (by omega)), cond_pos (aH (by omega) (by omega))]
    | none =>
     simp only [Option.bind_some, aF FX, cond_true];by_cases h2 : xs.length >= 2048
     ·rw [au (show (xs.length : Int) >= 2048 by omega), if_pos h2]; rfl
     ·rw [aA (show ¬ (xs.length : Int) >= 2048 by omega), if_neg h2];have ha126 : ad.length <= 126 := by
       have := xU (key := key) (ad := ad) (by rw [FW]; exact h0);omega
      have w1 : IntKind.i64.wrap ((xs.length : Int) + 1) = (xs.length : Int) + 1 := wrap64 (by omega) (by omega);simp only [cond_false, FV (show ad.length < 4398046511104 by omega), Option.bind_some, w1, number_eq ((xs.length : Int) + 1) plain (by omega) (by omega) (by omega), RP (show xs.length < 2048 by omega)];rw [cond_pos (au (by simp; omega))]
  ·rw [aA h0, if_neg h0, if_neg h0]; rfl
theorem Gz {key : List Int} {ad : List (List Int)} (hk : key.length < dF) (ha : ad.length < dF) (n : Nat) : iE.run .lim (key, ad, (n : Int), ()) = some (sS key ad n) := by
 have JJ : key.length < 9223372036854775808 := hk;have UK : ad.length < 9223372036854775808 := ha;unfold sS oN;simp only [iE.run, aF JJ, aF UK, cond_true, Bool.or_true];by_cases h1 : key.length ≠ 32 /\ key.length ≠ 64
 ·rw [if_pos h1, aA (show ¬ (key.length : Int) = 32 by omega), aA (show ¬ (key.length : Int) = 64 by omega)]; rfl
 ·rw [if_neg h1];have : (!decide ((key.length : Int) = 32) && !decide ((key.length : Int) = 64)) = false := by
   by_cases h : key.length = 32
   ·rw [au (show (key.length : Int) = 32 by omega)]; rfl
   ·rw [au (show (key.length : Int) = 64 by omega), Bool.not_true, Bool.and_false]
  rw [this];by_cases h2 : ad.length > 126
  ·rw [au (show (ad.length : Int) > 126 by omega), if_pos h2]; rfl
  ·rw [aA (show ¬ (ad.length : Int) > 126 by omega), if_neg h2, if_pos rfl];by_cases h3 : n > 65536
   ·rw [au (show (n : Int) > 65536 by omega), if_pos h3]; rfl
   ·rw [aA (show ¬ (n : Int) > 65536 by omega), if_neg h3]; rfl
theorem OG (xs : List KK) (key : List Int) (ad : List (List Int)) (t : List Int) (hx : xs.length < dF) (hok : ∀ k ∈ xs, Rz k) (ha : ad.length < dF) :
  gW.l0 .lim (xs, (xs.length : Int), 0, key, ad, [], t, xs, ()) = match (List.range xs.length).find? (fun j : Nat => hit key ad t (rd k0 xs (j : Int))) with
   | some k => some (.inl ((k : Int), xs, ()))
   | none => some (.inr (xs, ())) := by
 have FX : xs.length < 9223372036854775808 := hx;have e := qp (f := gW.l0 .lim) (fun k => (xs, (xs.length : Int), (k : Int), key, ad, [], t, xs, ())) xs.length (fun j : Nat => hit key ad t (rd k0 xs (j : Int))) (fun k => some (.inl ((k : Int), xs, ()))) (fun k hk => by
  rw [gW.q0];have hm : Rz (rd k0 xs k) := hok _ (fC (by omega) (by omega));simp only [gW.b0, Me _ _ hm.2.1 ha, wk k (by omega), au (show (k : Int) < (xs.length : Int) by omega), aH (show (0 : Int) <= k by omega) (show (k : Int) < xs.length by omega)];unfold hit;cases decide ((rd k0 xs k).2.2.2 = t) && decide ((rd k0 xs k).1 = key) <;> simp only [cond_true, cond_false, Option.bind_some, Option.bind_none, Bool.or_true, Bool.true_or, Bool.and_true, Bool.true_and, Bool.and_false, Bool.false_and, Bool.or_false, Bool.false_or, Bool.not_true, Bool.not_false, Bool.or_self, Bool.and_self, Bool.not_not])
 rw [show ((0 : Nat) : Int) = 0 from rfl] at e;rw [e];cases (List.range xs.length).find? (fun j : Nat => hit key ad t (rd k0 xs (j : Int))) with
 | some k => rfl
 | none =>
  simp only;rw [gW.q0];simp only [gW.b0, aA (show ¬ (xs.length : Int) < (xs.length : Int) by omega), cond_false]
theorem OH (xs : List KK) (key : List Int) (ad : List (List Int)) (t : List Int) (hx : xs.length < dF) (hok : ∀ k ∈ xs, Rz k) (ha : ad.length < dF) :
  b_.l0 .lim (key, ad, t, 0, true, xs, ()) = match (List.range xs.length).find? (fun j : Nat => hit key ad t (rd k0 xs (j : Int))) with
   | some k => some (.inl ((rd k0 xs (k : Int)).2.2.1, 0, ()))
   | none => some (.inr (())) := by
 have FX : xs.length < 9223372036854775808 := hx;have e := qp (f := b_.l0 .lim) (fun k => (key, ad, t, (k : Int), true, xs, ())) xs.length (fun j : Nat => hit key ad t (rd k0 xs (j : Int))) (fun k => some (.inl ((rd k0 xs (k : Int)).2.2.1, 0, ()))) (fun k hk => by
  rw [b_.q0];have hm : Rz (rd k0 xs k) := hok _ (fC (by omega) (by omega));simp only [b_.b0, aF FX, texts_eq _ _ hm.2.1 ha, wk k (by omega), au (show (k : Int) < (xs.length : Int) by omega), aH (show (0 : Int) <= k by omega) (show (k : Int) < xs.length by omega)];unfold hit;cases decide ((rd k0 xs k).2.2.2 = t) && decide ((rd k0 xs k).1 = key) <;> simp only [cond_true, cond_false, Option.bind_some, Option.bind_none, Bool.or_true, Bool.true_or, Bool.and_true, Bool.true_and, Bool.and_false, Bool.false_and, Bool.or_false, Bool.false_or, Bool.not_true, Bool.not_false, Bool.or_self, Bool.and_self, Bool.not_not])
 rw [show ((0 : Nat) : Int) = 0 from rfl] at e;rw [e];cases (List.range xs.length).find? (fun j : Nat => hit key ad t (rd k0 xs (j : Int))) with
 | some k => rfl
 | none =>
  simp only;rw [b_.q0];simp only [b_.b0, aF FX, cond_true, aA (show ¬ (xs.length : Int) < (xs.length : Int) by omega), cond_false]
theorem UR {v : VV} (hv : okV v) {key : List Int} {ad : List (List Int)} {t : List Int} (T : UQ key ad t) (htb : Bs t) :
  gW.run .lim (v, key, ad, t, ()) = some ((fM v key ad t).1, (fM v key ad t).2, ()) := by
 obtain ⟨b, xs⟩ := v;have hx : xs.length < dF := hv.1;have hp63 : t.length < 9223372036854775808 := T.s;have FX : xs.length < 9223372036854775808 := hx;unfold fM;cases b with
 | false =>
  have hs := UN T.k T.kb T.a T.al T.s htb;simp only [gW.run, kR.run, hs, Option.bind_some, cond_false]
 | true =>
  have hr := FN (key, ad, [], t) T.k T.a;rw [JM] at hr;have hf' := OG xs key ad t hx hv.2 T.a;simp only [gW.run, hr, Option.bind_some, aF hp63, aF FX, cond_true, hf'];unfold yH;by_cases h0 : oN (key, ad, [], []) = 0
  ·rw [au h0, if_pos h0];simp only [Bool.not_true, cond_false];by_cases h1 : t.length < 16
   ·rw [au (show (t.length : Int) < 16 by omega), if_pos h1]; rfl
   ·rw [aA (show ¬ (t.length : Int) < 16 by omega), if_neg h1];by_cases h2 : t.length > 65552
    ·rw [au (show (t.length : Int) > 65552 by omega), if_pos h2]; rfl
    ·rw [aA (show ¬ (t.length : Int) > 65552 by omega), if_neg h2];simp only [cond_false];cases hq : (List.range xs.length).find? (fun j : Nat => hit key ad t (rd k0 xs (j : Int))) with
     | some k =>
      have hk : k < xs.length := List.mem_range.1 (List.mem_of_find?_eq_some hq);simp only [Option.bind_some];rw [cond_neg (aA (by omega)), cond_pos (aH (by omega) (by omega))]
     | none => rfl
  ·rw [aA h0, if_neg h0]; rfl
theorem RU {v : VV} (hv : okV v) {key : List Int} {ad : List (List Int)} {t : List Int} (T : UQ key ad t) :
  b_.run .lim (v, key, ad, t, ()) = some ((fM v key ad t).1, (fM v key ad t).2, ()) := by
 obtain ⟨b, xs⟩ := v;have hx : xs.length < dF := hv.1;have hp63 : t.length < 9223372036854775808 := T.s;have FX : xs.length < 9223372036854775808 := hx;unfold fM;cases b with
 | false =>
  have hs := UO T.k T.kb T.a T.al T.s;simp only [b_.run, hs, Option.bind_some, cond_false, Bool.not_false, cond_true]
 | true =>
  have hr := Gz T.k T.a 0;have h00 : sS key ad 0 = oN (key, ad, [], []) := by
   unfold sS;by_cases h : oN (key, ad, [], []) = 0
   ·rw [if_pos h, if_neg (by omega), h]
   ·rw [if_neg h]
  rw [h00, show ((0 : Nat) : Int) = 0 from rfl] at hr;have hf' := OH xs key ad t hx hv.2 T.a;simp only [b_.run, hr, Option.bind_some, aF hp63, aF FX, cond_true, cond_false, Bool.not_true, hf'];unfold yH;by_cases h0 : oN (key, ad, [], []) = 0
  ·rw [au h0, if_pos h0];simp only [Bool.not_true, cond_false];by_cases h1 : t.length < 16
   ·rw [au (show (t.length : Int) < 16 by omega), if_pos h1]; rfl
   ·rw [aA (show ¬ (t.length : Int) < 16 by omega), if_neg h1];by_cases h2 : t.length > 65552
    ·rw [au (show (t.length : Int) > 65552 by omega), if_pos h2]; rfl
    ·rw [aA (show ¬ (t.length : Int) > 65552 by omega), if_neg h2];simp only [cond_false];cases hq : (List.range xs.length).find? (fun j : Nat => hit key ad t (rd k0 xs (j : Int))) with
     | some k => rfl
     | none => rfl
  ·rw [aA h0, if_neg h0]; rfl
end Go.AM
end
section
namespace Go.AM
theorem FY {key : List Int} {ad : List (List Int)} {n : Nat} (h0 : sS key ad n = 0) : oN (key, ad, [], []) = 0 /\ n <= 65536 := by
 unfold sS at h0;split at h0
 ·split at h0
  ·exact absurd h0 (by decide)
  ·exact ⟨by assumption, by omega⟩
 ·exact absurd h0 (by assumption)
theorem xA (xs : List KK) (key : List Int) (ad : List (List Int)) (plain : List Int) :
  ((sU xs key ad plain).2.2 ≠ 0 /\ (sU xs key ad plain).1 = xs /\ (sU xs key ad plain).2.1 = []) \/
  (sS key ad plain.length = 0 /\ (∃ k, k < xs.length /\ FK (rd k0 xs (k : Int)) (key, ad, plain, []) = true /\ sU xs key ad plain = (xs, (rd k0 xs (k : Int)).2.2.2, 0))) \/
  (sS key ad plain.length = 0 /\ xs.length < 2048 /\ (∀ k, k < xs.length -> FK (rd k0 xs (k : Int)) (key, ad, plain, []) = false) /\ sU xs key ad plain = (xs ++ [(key, ad, plain, txt (xs.length + 1) plain)], txt (xs.length + 1) plain, 0)) := by
 unfold sU;by_cases h0 : sS key ad plain.length = 0
 ·rw [if_pos h0];cases hq : (List.range xs.length).find? (fun j : Nat => FK (rd k0 xs (j : Int)) (key, ad, plain, [])) with
  | some k => exact .inr (.inl ⟨h0, k, List.mem_range.1 (List.mem_of_find?_eq_some hq), by simpa using List.find?_some hq, rfl⟩)
  | none =>
   simp only;by_cases h2 : xs.length >= 2048
   ·rw [if_pos h2]; exact .inl ⟨show (18 : Int) ≠ 0 by decide, rfl, rfl⟩
   ·rw [if_neg h2];refine .inr (.inr ⟨h0, by omega, fun k hk => ?_, rfl⟩);have := List.find?_eq_none.1 hq k (List.mem_range.2 hk);simpa using this
 ·rw [if_neg h0]; exact .inl ⟨h0, rfl, rfl⟩
theorem Qo {xs : List KK} (h : uG (true, xs) = true) : xs.length <= 2048 /\ ∀ i, i < xs.length -> Gy xs i = false := by
 unfold uG at h;simp only [cond_true, Bool.and_eq_true, decide_eq_true_eq, Bool.not_eq_true', List.any_eq_false, List.mem_range] at h;exact ⟨h.1, fun i hi => by simpa using h.2 i hi⟩
theorem UU {xs : List KK} {q : KK} {i : Nat} (hi : i < xs.length) : Gy (xs ++ [q]) i = Gy xs i := by
 unfold Gy;rw [JB hi, any_congr (d := fun j => FK (rd k0 xs (j : Int)) (rd k0 xs (i : Int))) fun j hj => by rw [JB (by omega)]]
theorem Qp {α : Type} {d : α} {xs : List α} {q : α} : rd d (xs ++ [q]) (xs.length : Int) = q := by rw [mW (by simp)]; simp
theorem UW {v : VV} (hf : uG v = true) (key : List Int) (ad : List (List Int)) (plain : List Int) : uG (jU v key ad plain).1 = true := by
 obtain ⟨b, xs⟩ := v;unfold jU;cases b with
 | false => exact hf
 | true =>
  simp only [cond_true];obtain ⟨f1, f2⟩ := Qo hf;rcases xA xs key ad plain with ⟨_, h, _⟩ | ⟨_, k, _, _, h⟩ | ⟨h0, h1, h2, h⟩
  ·rw [h]; exact hf
  ·rw [h]; exact hf
  ·rw [h];obtain ⟨g1, g2⟩ := FY h0;unfold uG;simp only [cond_true, Bool.and_eq_true, decide_eq_true_eq, Bool.not_eq_true', List.any_eq_false, List.mem_range, List.length_append, List.length_singleton];refine ⟨by omega, fun i hi => ?_⟩;by_cases hl : i < xs.length
   ·rw [UU hl, f2 i hl]; simp
   ·obtain rfl : i = xs.length := by omega
    unfold Gy;rw [Qp];rw [any_congr (d := fun _ => false) fun j hj => by
     rw [JB hj];have := h2 j hj;unfold FK at this ⊢
     exact this]
    rw [JM, g1, au rfl, aA (show ¬ plain.length > 65536 by omega), au rfl];simp
theorem RV (n : Int) (k : Nat) : 0 <= byteOf n k /\ byteOf n k < 256 := by unfold byteOf; omega
theorem UY {xs : List KK} (h : uG (true, xs) = true) {i : Nat} (hi : i < xs.length) : (rd k0 xs (i : Int)).2.2.2 = txt ((i + 1 : Nat) : Int) (rd k0 xs (i : Int)).2.2.1 /\ (rd k0 xs (i : Int)).2.2.1.length <= 65536 := by
 have := (Qo h).2 i hi;unfold Gy at this;simp only [Bool.or_eq_false_iff, Bool.not_eq_false', decide_eq_true_eq, decide_eq_false_iff_not] at this;exact ⟨by rw [this.1.2]; congr 1, by omega⟩
theorem Qq (n : Int) (p : List Int) : (txt n p).length = p.length + 16 := by simp [txt, CZ]; omega
theorem txt_B (n : Int) (p : List Int) : Bs (txt n p) := fun x hx => by
 unfold txt at hx;rcases List.mem_append.1 hx with h | h
 ·obtain ⟨i, _, rfl⟩ := List.mem_map.1 h;exact RV _ _
 ·rw [(List.mem_replicate.1 h).2]; exact ⟨by decide, by decide⟩
end Go.AM
end
section
namespace Go.AM
def vB (v : VV) : Prop := ∀ k ∈ v.2, Bs k.2.2.1
def Ext (v w : VV) : Prop := v.1 = w.1 /\ ∃ l, w.2 = v.2 ++ l
theorem Ext.trans {u v w : VV} (a : Ext u v) (b : Ext v w) : Ext u w := by
 obtain ⟨l, hl⟩ := a.2; obtain ⟨m, hm⟩ := b.2;exact ⟨a.1.trans b.1, l ++ m, by rw [hm, hl, List.append_assoc]⟩
theorem XA {v : VV} {key : List Int} {ad : List (List Int)} {s : List Int} (he : (jU v key ad s).2.2 ≠ 0) : (jU v key ad s).1 = v /\ (jU v key ad s).2.1 = [] := by
 obtain ⟨b, xs⟩ := v;cases b with
 | false =>
  refine ⟨rfl, ?_⟩;simp only [jU, cond_false] at he ⊢
  unfold xw at he ⊢
  by_cases h : oO key ad = 0
  ·rw [if_pos h] at he ⊢
   by_cases h' : s.length > 65536
   ·rw [if_pos h']
   ·rw [if_neg h'] at he; exact absurd rfl he
  ·rw [if_neg h]
 | true =>
  simp only [jU, cond_true] at he ⊢
  rcases xA xs key ad s with ⟨_, h, h'⟩ | ⟨_, _, _, _, h⟩ | ⟨_, _, _, h⟩
  ·rw [h, h']; exact ⟨rfl, rfl⟩
  ·rw [h] at he; exact absurd rfl he
  ·rw [h] at he; exact absurd rfl he
theorem OI {xs : List KK} {key : List Int} {ad : List (List Int)} {s : List Int} (hf : uG (true, xs) = true) (he : (sU xs key ad s).2.2 = 0) :
  sS key ad s.length = 0 /\ ∃ k, k < (sU xs key ad s).1.length /\ rd k0 (sU xs key ad s).1 (k : Int) = (key, ad, s, (sU xs key ad s).2.1) := by
 rcases xA xs key ad s with ⟨h, _, _⟩ | ⟨h0, k, hk, ha, h⟩ | ⟨h0, h1, h2, h⟩
 ·exact absurd he h
 ·rw [h];refine ⟨h0, k, hk, ?_⟩;unfold FK at ha;simp only [Bool.and_eq_true, decide_eq_true_eq] at ha;obtain ⟨⟨a1, a2⟩, a3⟩ := ha;rw [<- a1, <- a2, <- a3]
 ·rw [h];exact ⟨h0, xs.length, by simp, Qp⟩
theorem UZ {v : VV} {key : List Int} {ad : List (List Int)} {s : List Int} (hf : uG v = true) (he : (jU v key ad s).2.2 = 0) :
  oN (key, ad, [], []) = 0 /\ s.length <= 65536 /\ (jU v key ad s).2.1.length = s.length + 16 /\ Bs (jU v key ad s).2.1 := by
 have hfw := UW hf key ad s;obtain ⟨b, xs⟩ := v;cases b with
 | false =>
  simp only [jU, cond_false] at he ⊢
  have h0 : oO key ad = 0 /\ s.length <= 65536 := by
   unfold xw at he;by_cases h : oO key ad = 0
   ·rw [if_pos h] at he;by_cases h' : s.length > 65536
    ·rw [if_pos h'] at he; exact absurd he (by decide)
    ·exact ⟨h, by omega⟩
   ·rw [if_neg h] at he; exact absurd he h
  have hr : xw key ad s = (oW key ad s, 0) := by unfold xw; rw [if_pos h0.1, if_neg (by omega)]
  rw [hr];exact ⟨by rw [<- FW]; exact h0.1, h0.2, Iw _ _ _, Qn _ _ _⟩
 | true =>
  simp only [jU, cond_true] at he hfw ⊢
  obtain ⟨h0, k, hk, e⟩ := OI hf he;obtain ⟨g1, g2⟩ := FY h0;have ht := (UY hfw hk).1;rw [e] at ht;simp only at ht;refine ⟨g1, g2, by rw [ht, Qq], by rw [ht]; exact txt_B _ _⟩
theorem FZ {xs : List KK} {key : List Int} {ad : List (List Int)} {t : List Int} (h : (yH xs key ad t).2 = 0) :
  ∃ k, k < xs.length /\ rd k0 xs (k : Int) = (key, ad, (yH xs key ad t).1, t) := by
 unfold yH at h ⊢
 by_cases h0 : oN (key, ad, [], []) = 0
 ·rw [if_pos h0] at h ⊢
  by_cases h1 : t.length < 16
  ·rw [if_pos h1] at h; exact absurd h (by decide)
  ·rw [if_neg h1] at h ⊢
   by_cases h2 : t.length > 65552
   ·rw [if_pos h2] at h; exact absurd h (by decide)
   ·rw [if_neg h2] at h ⊢
    cases hq : (List.range xs.length).find? (fun j : Nat => hit key ad t (rd k0 xs (j : Int))) with
    | none => rw [hq] at h; exact absurd h (show (17 : Int) ≠ 0 by decide)
    | some k =>
     have hh : hit key ad t (rd k0 xs (k : Int)) = true := by simpa using List.find?_some hq
     unfold hit at hh;simp only [Bool.and_eq_true, decide_eq_true_eq] at hh;obtain ⟨⟨a1, a2⟩, a3⟩ := hh;refine ⟨k, List.mem_range.1 (List.mem_of_find?_eq_some hq), ?_⟩;simp only;rw [<- a1, <- a2, <- a3]
 ·rw [if_neg h0] at h; exact absurd h h0
theorem U0 {v : VV} {key : List Int} {ad : List (List Int)} {t : List Int} (hf : uG v = true) (hb : vB v) (h : (fM v key ad t).2 = 0) :
  oN (key, ad, [], []) = 0 /\ (fM v key ad t).1.length <= 65536 /\ t.length = (fM v key ad t).1.length + 16 /\ Bs (fM v key ad t).1 := by
 obtain ⟨b, xs⟩ := v;cases b with
 | false =>
  simp only [fM, cond_false] at h ⊢
  unfold sQ at h ⊢
  by_cases h0 : oO key ad = 0
  ·rw [if_pos h0] at h ⊢
   by_cases h1 : t.length < 16
   ·rw [if_pos h1] at h; exact absurd h (by decide)
   ·rw [if_neg h1] at h ⊢
    by_cases h2 : t.length > 65552
    ·rw [if_pos h2] at h; exact absurd h (by decide)
    ·rw [if_neg h2] at h ⊢
     split at h
     ·rename_i q;rw [if_pos q];have hl : (kV key t).length = t.length - 16 := by unfold kV; rw [nM, List.length_drop]
      refine ⟨by rw [<- FW]; exact h0, by rw [hl]; omega, by rw [hl]; omega, ?_⟩;unfold kV; exact Ql _ _ _
     ·exact absurd h (by decide)
  ·rw [if_neg h0] at h; exact absurd h h0
 | true =>
  simp only [fM, cond_true] at h ⊢
  obtain ⟨k, hk, e⟩ := FZ h;obtain ⟨f1, f2⟩ := UY hf hk;rw [e] at f1 f2;simp only at f1 f2;refine ⟨?_, f2, (congrArg List.length f1).trans (Qq _ _), ?_⟩
  ·unfold yH at h;by_cases h0 : oN (key, ad, [], []) = 0
   ·exact h0
   ·rw [if_neg h0] at h; exact absurd h h0
  ·have := hb (rd k0 xs (k : Int)) (fC (by omega) (by show (k : Int) < (xs.length : Int); omega));rw [e] at this;exact this
theorem v_B {v : VV} (h : Ty.ok (.pair .bool (.lst (.pair .str (.pair (.lst .str) (.pair .str .str))))) v) : vB v := by
 obtain ⟨_, h1, h2⟩ := h;intro k hk;obtain ⟨a, ⟨b1, b2⟩, c, d⟩ := h2 k hk;exact c.2
end Go.AM
end
section
namespace Go.AM
def findF (l : List FF) (kind : Int) : List Int := ((List.range l.length).filter fun k : Nat => decide ((rd f0 l (k : Int)).1 = kind)).map fun k : Nat => (k : Int)
def yI (l : List FF) (kind : Int) (n : Nat) : List Int := ((List.range n).filter fun k : Nat => decide ((rd f0 l (k : Int)).1 = kind)).map fun k : Nat => (k : Int)
theorem BL (l : List FF) (kind : Int) (n : Nat) : (yI l kind n).length <= n := by
 unfold yI;rw [List.length_map];exact Nat.le_trans (List.length_filter_le _ _) (by simp)
theorem F5 (l : List FF) (kind : Int) (n : Nat) : yI l kind (n + 1) = if (rd f0 l (n : Int)).1 = kind then yI l kind n ++ [(n : Int)] else yI l kind n := by
 unfold yI;rw [List.range_succ, List.filter_append, List.map_append];by_cases h : (rd f0 l (n : Int)).1 = kind
 ·rw [if_pos h, List.filter_cons_of_pos (by simpa using h)]; rfl
 ·rw [if_neg h, List.filter_cons_of_neg (by simpa using h)]; simp
theorem MH {l : List FF} (kind : Int) (hl : l.length <= 140737488351232) (h2 : l.length < 8796093022208) : iF.run .lim (l, kind, ()) = some (findF l kind) := by
 have e := dA (f := iF.l0 .lim) (fun k => (kind, l, (l.length : Int), (k : Int), yI l kind k, ())) (n := l.length) (fun k hk => by
  rw [iF.q0];have hn := BL l kind k;simp only [iF.b0, au (show (k : Int) < (l.length : Int) by omega), aH (show (0 : Int) <= (k : Int) by omega) (show (k : Int) < (l.length : Int) by omega), cond_true, lY k (by omega), F5];by_cases h : (rd f0 l (k : Int)).1 = kind
  ·rw [au h, if_pos h];simp only [cond_true];rw [cond_pos (au (show (yI l kind k).length + [(k : Int)].length < 8796093022208 by simp; omega))]
  ·rw [aA h, if_neg h]; rfl)
 have e0 : iF.l0 .lim (kind, l, (l.length : Int), 0, ([] : List Int), ()) = _ := e;simp only [iF.run, aF (show l.length < 9223372036854775808 by omega), cond_true, e0];rw [iF.q0];simp only [iF.b0, aA (show ¬ (l.length : Int) < (l.length : Int) by omega), cond_false, Option.bind_some];rfl
theorem U1 {l : List FF} (kind : Int) (hl : l.length <= 140737488351232) (h2 : l.length < 8796093022208) : cZ.run .lim (l, kind, ()) = some (findF l kind) := by
 have e := dA (f := cZ.l0 .lim) (fun k => (l, kind, (k : Int), yI l kind k, ())) (n := l.length) (fun k hk => by
  rw [cZ.q0];have hn := BL l kind k;simp only [cZ.b0, aF (show l.length < 9223372036854775808 by omega), au (show (k : Int) < (l.length : Int) by omega), aH (show (0 : Int) <= (k : Int) by omega) (show (k : Int) < (l.length : Int) by omega), cond_true, lY k (by omega), F5];by_cases h : (rd f0 l (k : Int)).1 = kind
  ·rw [au h, if_pos h];simp only [cond_true];rw [cond_pos (au (show (yI l kind k).length + [(k : Int)].length < 8796093022208 by simp; omega))]
  ·rw [aA h, if_neg h]; rfl)
 have e0 : cZ.l0 .lim (l, kind, 0, ([] : List Int), ()) = _ := e;simp only [cZ.run, e0];rw [cZ.q0];simp only [cZ.b0, aF (show l.length < 9223372036854775808 by omega), aA (show ¬ (l.length : Int) < (l.length : Int) by omega), cond_true, cond_false, Option.bind_some];rfl
def qH (l : List FF) (kind : Int) : Option Nat := (List.range l.length).find? fun k : Nat => decide ((rd f0 l (k : Int)).1 = kind)
theorem C9 {α : Type} (p : α -> Bool) : ∀ l : List α, l.find? p = (l.filter p).head?
 | [] => rfl
 | a :: l => by
  cases h : p a with
  | true => rw [List.find?_cons_of_pos h, List.filter_cons_of_pos h]; rfl
  | false => rw [List.find?_cons_of_neg (by simp [h]), List.filter_cons_of_neg (by simp [h]), C9 p l]
theorem C_ (l : List FF) (kind : Int) : (qH l kind = none /\ findF l kind = []) \/ ∃ k r, qH l kind = some k /\ findF l kind = (k : Int) :: r /\ k < l.length /\ (rd f0 l (k : Int)).1 = kind := by
 unfold qH findF;rw [C9];cases h : (List.range l.length).filter (fun k : Nat => decide ((rd f0 l (k : Int)).1 = kind)) with
 | nil => exact .inl ⟨rfl, rfl⟩
 | cons k r =>
  have hm : k ∈ (List.range l.length).filter (fun k : Nat => decide ((rd f0 l (k : Int)).1 = kind)) := by rw [h]; exact .head _
  obtain ⟨h1, h2⟩ := List.mem_filter.1 hm;exact .inr ⟨k, _, rfl, rfl, List.mem_range.1 h1, by simpa using h2⟩
theorem BM (l : List FF) (kind : Int) : (findF l kind).length <= l.length := BL l kind l.length
def XB (l : List FF) (kind : Int) : List Int × Int :=
 if (findF l kind).length = 0 then ([], 19) else if (findF l kind).length = 1 then ((rd f0 l (rd 0 (findF l kind) 0)).2, 0) else ([], 24)
theorem Zw {l : List FF} {kind : Int} (h : (findF l kind).length ≠ 0) : inB 0 ((findF l kind).length : Int) = true /\ inB (rd 0 (findF l kind) 0) (l.length : Int) = true := by
 refine ⟨aH (by omega) (by omega), ?_⟩;rcases C_ l kind with ⟨_, q⟩ | ⟨k, r, _, q, hk, _⟩
 ·rw [q] at h; exact absurd rfl h
 ·rw [q];exact aH (show (0 : Int) <= (k : Int) by omega) (show (k : Int) < (l.length : Int) by omega)
theorem Zx {l : List FF} (kind : Int) (hl : l.length < 8796093022208) : Aj.run .lim (l, kind, ()) = some ((XB l kind).1, (XB l kind).2, ()) := by
 have hn := BM l kind;simp only [Aj.run, MH kind (by omega) hl, Option.bind_some, aF (show (findF l kind).length < 9223372036854775808 by omega), cond_true];unfold XB;by_cases h0 : (findF l kind).length = 0
 ·rw [au (show ((findF l kind).length : Int) = 0 by omega), if_pos h0]; rfl
 ·rw [aA (show ¬ ((findF l kind).length : Int) = 0 by omega), if_neg h0];obtain ⟨i1, i2⟩ := Zw h0;by_cases h1 : (findF l kind).length = 1
  ·rw [au (show ((findF l kind).length : Int) = 1 by omega), if_pos h1];simp only [cond_true, cond_false, i1, i2]
  ·rw [aA (show ¬ ((findF l kind).length : Int) = 1 by omega), if_neg h1]; rfl
def oP (n : Nat) : Nat := (4 - n % 4) % 4
def sV (s : List Int) : List Int := s ++ List.replicate (oP s.length) 0
theorem Iy : ∀ n, Dl [0] n = List.replicate n (0 : Int)
 | 0 => rfl
 | n + 1 => by rw [Dl, Iy n]; rfl
theorem and3' (n : Int) : gB .i64 n 3 = n % 4 := by
 show IntKind.i64.wrap ((BitVec.ofInt 64 n &&& BitVec.ofInt 64 3).toNat : Int) = _;rw [BitVec.toNat_and, BitVec.toNat_ofInt, show (BitVec.ofInt 64 3).toNat = 2 ^ 2 - 1 from rfl, Nat.and_two_pow_sub_one_eq_mod];rw [wrap64 (by omega) (by omega)]; omega
theorem Iz {s : List Int} (h : s.length < 4611686018427387904) : lN.run .lim (s, ()) = some (sV s) := by
 have w : IntKind.i64.wrap (0 - (s.length : Int)) = -(s.length : Int) := by rw [wrap64 (by omega) (by omega)]; omega
 have e : gB .i64 (-(s.length : Int)) 3 = (oP s.length : Int) := by rw [and3']; unfold oP; omega
 have hp : oP s.length < 4 := by unfold oP; omega
 simp only [lN.run, aF (show s.length < 9223372036854775808 by omega), cond_true, w, e];have hr : strings_Repeat.run .lim ([0], (oP s.length : Int), ()) = some (List.replicate (oP s.length) 0) := by
  show LK ([0], (oP s.length : Int), ()) = _;unfold LK;simp only [Int.toNat_natCast];rw [au (show (0 : Int) <= (oP s.length : Int) by omega), Nat.ble_eq_true_of_le (show [(0 : Int)].length * oP s.length <= 140737488355328 by simp; omega), Iy]; rfl
 simp only [hr, Option.bind_some];rw [cond_pos (au (show s.length + (List.replicate (oP s.length) (0 : Int)).length <= maxStr by rw [List.length_replicate]; unfold maxStr; omega))];rfl
theorem JO : ∀ (d : Nat) (s : List Int), s.length + d < 4611686018427387904 -> oP s.length = d -> dh.l0 .lim (s, ()) = some (s ++ List.replicate d 0, ()) := by
 intro d
 induction d with
 | zero =>
  intro s h hd;rw [dh.q0];have : (s.length : Int).tmod 4 = 0 := by rw [Int.tmod_eq_emod_of_nonneg (by omega)]; unfold oP at hd; omega
  simp only [dh.b0, aF (show s.length < 9223372036854775808 by omega), cond_true, au this, Bool.not_true, cond_false, List.replicate_zero, List.append_nil]
 | succ d ih =>
  intro s h hd;rw [dh.q0];have : ¬ (s.length : Int).tmod 4 = 0 := by rw [Int.tmod_eq_emod_of_nonneg (by omega)]; unfold oP at hd; omega
  simp only [dh.b0, aF (show s.length < 9223372036854775808 by omega), cond_true, aA this, Bool.not_false];rw [cond_pos (au (show s.length + [(0 : Int)].length <= maxStr by simp; unfold maxStr; omega)), ih (s ++ [0]) (by simp; omega) (by unfold oP at hd ⊢; simp; omega), List.append_assoc];rfl
theorem OJ {s : List Int} (h : s.length < 4611686018427387900) : dh.run .lim (s, ()) = some (sV s) := by
 have hp : oP s.length < 4 := by unfold oP; omega
 simp only [dh.run, JO _ s (by omega) rfl, Option.bind_some];rfl
def qM (b : List Int) : Nat := (rd 0 b 2 * 256 + rd 0 b 3).toNat
def xB (b : List Int) : Prop := ¬ (rd 0 b 0 * 256 + rd 0 b 1 = 16) \/ b.length < 20 + qM b \/ b.drop 20 ≠ sV ((b.take (20 + qM b)).drop 20)
open Classical in
noncomputable def tH (b : List Int) : List Int × List Int × Int :=
 if b.length < 4 then ([], [], 11) else if xB b then ([], [], 10) else ((b.take 20).drop 4, (b.take (20 + qM b)).drop 20, 0)
end Go.AM
end
section
namespace Go.AM
theorem MI {b : List Int} (hb : Bs b) {k : Nat} (h : k < b.length) : B8 (rd 0 b (k : Int)) := hb _ (fC (by omega) (by omega))
theorem Qr {α : Type} {d : α} {xs : List α} {n k : Nat} : rd d (xs.drop n) (k : Int) = rd d xs ((n + k : Nat) : Int) := by unfold rd; rw [Int.toNat_natCast, Int.toNat_natCast, List.getD_eq_getElem?_getD, List.getD_eq_getElem?_getD, List.getElem?_drop]
theorem qI {α : Type} {s : List α} {b : Nat} {j : Int} (hj : j = (b : Int)) : cut s 0 j = s.take b := by subst hj; rfl
theorem U2 {b : List Int} (hb : Bs b) (hl : b.length < 1000000) : pU.run .lim (b, ()) = some ((tH b).1, (tH b).2.1, (tH b).2.2, ()) := by
 simp only [pU.run, aF (show b.length < 9223372036854775808 by omega), cond_true];have hc0 : cut b 2 (b.length : Int) = b.drop 2 := pI (a := 2) rfl;have hc1 : cut b 0 2 = b.take 2 := qI (b := 2) rfl;simp only [hc0, hc1];unfold tH;by_cases h2 : b.length < 2
 ·rw [au (show (b.length : Int) < 2 by omega), if_pos (by omega)]; rfl
 rw [aA (show ¬ (b.length : Int) < 2 by omega)];have l2 : (b.drop 2).length = b.length - 2 := List.length_drop;have lt2 : (b.take 2).length = 2 := by rw [List.length_take]; omega
 simp only [cond_false, aQ (show (0 : Int) <= 0 by omega) (show (0 : Int) <= 2 by omega) (show (2 : Int) <= (b.length : Int) by omega), aQ (show (0 : Int) <= 2 by omega) (show (2 : Int) <= (b.length : Int) by omega) (Int.le_refl _), cond_true, lt2,
  aH (show (0 : Int) <= 0 by omega) (show (0 : Int) < ((2 : Nat) : Int) by omega), aH (show (0 : Int) <= 1 by omega) (show (1 : Int) < ((2 : Nat) : Int) by omega), aF (show (b.drop 2).length < 9223372036854775808 by omega)]
 by_cases h4 : b.length < 4
 ·rw [au (show ((b.drop 2).length : Int) < 2 by omega), if_pos h4]; rfl
 rw [aA (show ¬ ((b.drop 2).length : Int) < 2 by omega), if_neg h4];have hc2 : cut (b.drop 2) 0 2 = (b.drop 2).take 2 := qI (b := 2) rfl;have hc3 : cut (b.drop 2) 2 ((b.drop 2).length : Int) = b.drop 4 := (show cut (b.drop 2) 2 ((b.drop 2).length : Int) = (b.drop 2).drop 2 from pI (a := 2) rfl).trans (by rw [List.drop_drop]);have lt3 : ((b.drop 2).take 2).length = 2 := by rw [List.length_take]; omega
 have l4 : (b.drop 4).length = b.length - 4 := List.length_drop;have r0 : rd 0 (b.take 2) 0 = rd 0 b 0 := pF (k := 0) (n := 2) (by decide);have r1 : rd 0 (b.take 2) 1 = rd 0 b 1 := pF (k := 1) (n := 2) (by decide);have r2 : rd 0 ((b.drop 2).take 2) 0 = rd 0 b 2 := (pF (k := 0) (n := 2) (by decide)).trans (Qr (n := 2) (k := 0));have r3 : rd 0 ((b.drop 2).take 2) 1 = rd 0 b 3 := (pF (k := 1) (n := 2) (by decide)).trans (Qr (n := 2) (k := 1));have b0 : B8 (rd 0 b 0) := MI hb (k := 0) (by omega);have b1 : B8 (rd 0 b 1) := MI hb (k := 1) (by omega);have b2 : B8 (rd 0 b 2) := MI hb (k := 2) (by omega);have b3 : B8 (rd 0 b 3) := MI hb (k := 3) (by omega);have hm : rd 0 b 2 * 256 + rd 0 b 3 = (qM b : Int) := by unfold qM; omega
 have hm2 : qM b < 65536 := by unfold qM; omega
 simp only [cond_false, hc2, hc3, lt3, r0, r1, r2, r3, num2 b0 b1, num2 b2 b3, hm, aQ (show (0 : Int) <= 0 by omega) (show (0 : Int) <= 2 by omega) (show (2 : Int) <= ((b.drop 2).length : Int) by omega), aQ (show (0 : Int) <= 2 by omega) (show (2 : Int) <= ((b.drop 2).length : Int) by omega) (Int.le_refl _), cond_true,
  aH (show (0 : Int) <= 0 by omega) (show (0 : Int) < ((2 : Nat) : Int) by omega), aH (show (0 : Int) <= 1 by omega) (show (1 : Int) < ((2 : Nat) : Int) by omega)]
 by_cases hn : rd 0 b 0 * 256 + rd 0 b 1 = 16
 ·simp only [hn, decide_true, Bool.not_true, cond_false, aF (show (b.drop 4).length < 9223372036854775808 by omega), cond_true];by_cases h20 : b.length < 20
  ·rw [au (show ((b.drop 4).length : Int) < 16 by omega), if_pos (show xB b from .inr (.inl (by omega)))]; rfl
  rw [aA (show ¬ ((b.drop 4).length : Int) < 16 by omega)];have hc4 : cut (b.drop 4) 0 16 = (b.take 20).drop 4 := (show cut (b.drop 4) 0 16 = (b.drop 4).take 16 from qI (b := 16) rfl).trans (by rw [List.drop_take]);have hc5 : cut (b.drop 4) 16 ((b.drop 4).length : Int) = b.drop 20 := (show cut (b.drop 4) 16 ((b.drop 4).length : Int) = (b.drop 4).drop 16 from pI (a := 16) rfl).trans (by rw [List.drop_drop]);have l20 : (b.drop 20).length = b.length - 20 := List.length_drop;simp only [cond_false, hc4, hc5, aQ (show (0 : Int) <= 0 by omega) (show (0 : Int) <= 16 by omega) (show (16 : Int) <= ((b.drop 4).length : Int) by omega), aQ (show (0 : Int) <= 16 by omega) (show (16 : Int) <= ((b.drop 4).length : Int) by omega) (Int.le_refl _), cond_true, aF (show (b.drop 20).length < 9223372036854775808 by omega)];by_cases hmm : b.length < 20 + qM b
  ·rw [au (show ((b.drop 20).length : Int) < (qM b : Int) by omega), if_pos (show xB b from .inr (.inl hmm))]; rfl
  rw [aA (show ¬ ((b.drop 20).length : Int) < (qM b : Int) by omega)];have hc6 : cut (b.drop 20) 0 (qM b : Int) = (b.drop 20).take (qM b) := qI rfl;have hc7 : cut (b.drop 20) (qM b : Int) ((b.drop 20).length : Int) = (b.drop 20).drop (qM b) := pI rfl;have ls : ((b.drop 20).take (qM b)).length = qM b := by rw [List.length_take]; omega
  have hst : (b.take (20 + qM b)).drop 20 = (b.drop 20).take (qM b) := by rw [List.drop_take]; congr 1; omega
  have lsum : ((b.drop 20).take (qM b)).length + ((b.drop 20).drop (qM b)).length <= maxStr := by rw [ls, List.length_drop]; unfold maxStr; omega
  simp only [cond_false, hc6, hc7, aQ (show (0 : Int) <= 0 by omega) (show (0 : Int) <= (qM b : Int) by omega) (show (qM b : Int) <= ((b.drop 20).length : Int) by omega), aQ (show (0 : Int) <= (qM b : Int) by omega) (show (qM b : Int) <= ((b.drop 20).length : Int) by omega) (Int.le_refl _), cond_true];rw [cond_pos (au lsum), Iz (show ((b.drop 20).take (qM b)).length < 4611686018427387904 by omega)];simp only [Option.bind_some, List.take_append_drop];by_cases hf : b.drop 20 = sV ((b.drop 20).take (qM b))
  ·rw [au hf, if_neg (show ¬ xB b from fun q => by
    rcases q with q | q | q
    ·exact q hn
    ·exact hmm q
    ·exact q (by rw [hst]; exact hf)), hst]; rfl
  ·rw [aA hf, if_pos (show xB b from .inr (.inr (by rw [hst]; exact hf)))]; rfl
 ·rw [aA hn, if_pos (show xB b from .inl hn)]; rfl
theorem RX {b : List Int} (hb : Bs b) (hl : b.length < 1000000) : gZ.run .lim (b, ()) = some ((tH b).1, (tH b).2.1, (tH b).2.2, ()) := by
 simp only [gZ.run, aF (show b.length < 9223372036854775808 by omega), cond_true];unfold tH;by_cases h4 : b.length < 4
 ·rw [au (show (b.length : Int) < 4 by omega), if_pos h4]; rfl
 rw [aA (show ¬ (b.length : Int) < 4 by omega), if_neg h4];have b0 : B8 (rd 0 b 0) := MI hb (k := 0) (by omega);have b1 : B8 (rd 0 b 1) := MI hb (k := 1) (by omega);have b2 : B8 (rd 0 b 2) := MI hb (k := 2) (by omega);have b3 : B8 (rd 0 b 3) := MI hb (k := 3) (by omega);have hm : rd 0 b 2 * 256 + rd 0 b 3 = (qM b : Int) := by unfold qM; omega
 have hm2 : qM b < 65536 := by unfold qM; omega
 have i : ∀ a : Int, 0 <= a -> a < 4 -> inB a (b.length : Int) = true := fun a x y => aH x (by omega)
 simp only [cond_false, i 0 (by decide) (by decide), i 1 (by decide) (by decide), i 2 (by decide) (by decide), i 3 (by decide) (by decide), cond_true, Yh b0 b1, Yh b2 b3, hm, Bool.or_true];by_cases hn : rd 0 b 0 * 256 + rd 0 b 1 = 16
 ·have w1 : IntKind.i64.wrap (4 + 16) = 20 := by decide
  have w2 : IntKind.i64.wrap (20 + (qM b : Int)) = ((20 + qM b : Nat) : Int) := by rw [wrap64 (by omega) (by omega)]; omega
  simp only [hn, decide_true, Bool.not_true, Bool.false_or, w1, w2];by_cases hmm : b.length < 20 + qM b
  ·rw [au (show (b.length : Int) < ((20 + qM b : Nat) : Int) by omega), if_pos (show xB b from .inr (.inl hmm))]; rfl
  rw [aA (show ¬ (b.length : Int) < ((20 + qM b : Nat) : Int) by omega)];have hc4 : cut b 4 20 = (b.take 20).drop 4 := jC (a := 4) (b := 20) rfl rfl;have hc5 : cut b 20 (b.length : Int) = b.drop 20 := pI (a := 20) rfl;have hc6 : cut b 20 ((20 + qM b : Nat) : Int) = (b.take (20 + qM b)).drop 20 := jC (a := 20) rfl rfl;have ls : ((b.take (20 + qM b)).drop 20).length = qM b := by rw [uF (by omega)]; omega
  simp only [cond_false, hc4, hc5, hc6, aQ (show (0 : Int) <= 20 by omega) (show (20 : Int) <= ((20 + qM b : Nat) : Int) by omega) (show ((20 + qM b : Nat) : Int) <= (b.length : Int) by omega), aQ (show (0 : Int) <= 20 by omega) (show (20 : Int) <= (b.length : Int) by omega) (Int.le_refl _), aQ (show (0 : Int) <= 4 by omega) (show (4 : Int) <= 20 by omega) (show (20 : Int) <= (b.length : Int) by omega), cond_true,
   OJ (show ((b.take (20 + qM b)).drop 20).length < 4611686018427387900 by omega), Option.bind_some]
  by_cases hf : b.drop 20 = sV ((b.take (20 + qM b)).drop 20)
  ·rw [au hf, if_neg (show ¬ xB b from fun q => by
    rcases q with q | q | q
    ·exact q hn
    ·exact hmm q
    ·exact q hf)]; rfl
  ·rw [aA hf, if_pos (show xB b from .inr (.inr hf))]; rfl
 ·rw [aA hn, if_pos (show xB b from .inl hn)]; rfl
theorem spS_B {b : List Int} (hb : Bs b) : Bs (tH b).1 /\ Bs (tH b).2.1 /\ (tH b).1.length <= b.length /\ (tH b).2.1.length <= b.length := by
 unfold tH;split
 ·exact ⟨fun x h => (by cases h), fun x h => (by cases h), by simp, by simp⟩
 ·split
  ·exact ⟨fun x h => (by cases h), fun x h => (by cases h), by simp, by simp⟩
  ·exact ⟨(hb.take _).drop _, (hb.take _).drop _, by rw [List.length_drop, List.length_take]; omega, by rw [List.length_drop, List.length_take]; omega⟩
theorem DR {a b : List FF} (ha : a.length < 9223372036854775808) (hb : b.length < 9223372036854775808) : bH.run .lim (a, b, ()) = some (decide (a = b)) := by
 simp only [bH.run, aF ha, aF hb, cond_true];by_cases hl : a.length = b.length
 ·rw [au (show (a.length : Int) = (b.length : Int) by omega)];have e := r_ (f := bH.l0 .lim) (fun k => (a, b, (k : Int), ())) a.length (fun k : Nat => !decide (rd f0 a (k : Int) = rd f0 b (k : Int))) (some (.inl (false, ()))) (fun k hk => by
   rw [bH.q0];have w : IntKind.i64.wrap ((k : Int) + 1) = ((k + 1 : Nat) : Int) := by rw [wrap64 (by omega) (by omega)]; omega
   have hd : ((decide ((rd f0 a (k : Int)).1 = (rd f0 b (k : Int)).1)) && (decide ((rd f0 a (k : Int)).2 = (rd f0 b (k : Int)).2))) = decide (rd f0 a (k : Int) = rd f0 b (k : Int)) := by rw [Bool.eq_iff_iff]; simp [Prod.ext_iff]
   simp only [bH.b0, aF ha, au (show (k : Int) < (a.length : Int) by omega), aH (show (0 : Int) <= (k : Int) by omega) (show (k : Int) < (a.length : Int) by omega), aH (show (0 : Int) <= (k : Int) by omega) (show (k : Int) < (b.length : Int) by omega), cond_true, w, hd])
  rw [Ob hl] at e;have e0 : bH.l0 .lim (a, b, 0, ()) = _ := e;simp only [Bool.not_true, cond_false, e0];by_cases hq : a = b
  ·rw [au hq];simp only [Bool.not_true, cond_false];rw [bH.q0];simp only [bH.b0, aF ha, aA (show ¬ (a.length : Int) < (a.length : Int) by omega), cond_true, cond_false, Option.bind_some]
  ·rw [aA hq]; rfl
 ·rw [aA (show ¬ (a.length : Int) = (b.length : Int) by omega), aA (show ¬ a = b from fun q => hl (by rw [q]))]; rfl
theorem sW {c : Bool} {x : Option Bool} {d : Bool} (h : x = some d) : (bif c then x else some false) = some (c && d) := by cases c <;> simp [h]
def F6 (a b : PK) : Bool := ((((((((((((decide (a.1 = b.1) && decide (a.2.1 = b.2.1)) && decide (a.2.2.1 = b.2.2.1)) && decide (a.2.2.2.1 = b.2.2.2.1)) && decide (a.2.2.2.2.1 = b.2.2.2.2.1)) && decide (a.2.2.2.2.2.1 = b.2.2.2.2.2.1)) && decide (a.2.2.2.2.2.2.1 = b.2.2.2.2.2.2.1)) && decide (a.2.2.2.2.2.2.2.1 = b.2.2.2.2.2.2.2.1)) && decide (a.2.2.2.2.2.2.2.2.1 = b.2.2.2.2.2.2.2.2.1)) && decide (a.2.2.2.2.2.2.2.2.2.1 = b.2.2.2.2.2.2.2.2.2.1)) && decide (a.2.2.2.2.2.2.2.2.2.2.1 = b.2.2.2.2.2.2.2.2.2.2.1)) && decide (a.2.2.2.2.2.2.2.2.2.2.2.1 = b.2.2.2.2.2.2.2.2.2.2.2.1)) && decide (a.2.2.2.2.2.2.2.2.2.2.2.2.1 = b.2.2.2.2.2.2.2.2.2.2.2.2.1)) && decide (a.fs = b.fs)
theorem RY (a b : PK) : F6 a b = true ↔ a = b := by
 obtain ⟨a1, a2, a3, a4, a5, a6, a7, a8, a9, a10, a11, a12, a13, al⟩ := a;obtain ⟨b1, b2, b3, b4, b5, b6, b7, b8, b9, b10, b11, b12, b13, bl⟩ := b;unfold F6;simp only [Bool.and_eq_true, decide_eq_true_eq, Prod.mk.injEq];constructor
 ·rintro ⟨⟨⟨⟨⟨⟨⟨⟨⟨⟨⟨⟨⟨h1, h2⟩, h3⟩, h4⟩, h5⟩, h6⟩, h7⟩, h8⟩, h9⟩, h10⟩, h11⟩, h12⟩, h13⟩, h14⟩
  exact ⟨h1, h2, h3, h4, h5, h6, h7, h8, h9, h10, h11, h12, h13, h14⟩
 ·rintro ⟨h1, h2, h3, h4, h5, h6, h7, h8, h9, h10, h11, h12, h13, h14⟩
  exact ⟨⟨⟨⟨⟨⟨⟨⟨⟨⟨⟨⟨⟨h1, h2⟩, h3⟩, h4⟩, h5⟩, h6⟩, h7⟩, h8⟩, h9⟩, h10⟩, h11⟩, h12⟩, h13⟩, h14⟩
theorem RZ {a b : PK} (ha : a.fs.length < 9223372036854775808) (hb : b.fs.length < 9223372036854775808) : jr.run .lim (a, b, ()) = some (F6 a b) := by
 simp only [jr.run];rw [sW (DR ha hb)];simp only [Option.bind_some];generalize hx : (((((((decide (a.1 = b.1) && decide (a.2.1 = b.2.1)) && decide (a.2.2.1 = b.2.2.1)) && decide (a.2.2.2.1 = b.2.2.2.1)) && decide (a.2.2.2.2.1 = b.2.2.2.2.1)) && decide (a.2.2.2.2.2.1 = b.2.2.2.2.2.1)) && decide (a.2.2.2.2.2.2.1 = b.2.2.2.2.2.2.1)) && decide (a.2.2.2.2.2.2.2.1 = b.2.2.2.2.2.2.2.1)) = x;have hn : ((((((((!(decide (a.1 = b.1))) || (!(decide (a.2.1 = b.2.1)))) || (!(decide (a.2.2.1 = b.2.2.1)))) || (!(decide (a.2.2.2.1 = b.2.2.2.1)))) || (!(decide (a.2.2.2.2.1 = b.2.2.2.2.1)))) || (!(decide (a.2.2.2.2.2.1 = b.2.2.2.2.2.1)))) || (!(decide (a.2.2.2.2.2.2.1 = b.2.2.2.2.2.2.1)))) || (!(decide (a.2.2.2.2.2.2.2.1 = b.2.2.2.2.2.2.2.1)))) = !x := by rw [<- hx]; simp only [Bool.not_and]
 rw [hn];have hs : F6 a b = (x && (((((decide (a.2.2.2.2.2.2.2.2.1 = b.2.2.2.2.2.2.2.2.1) && decide (a.2.2.2.2.2.2.2.2.2.1 = b.2.2.2.2.2.2.2.2.2.1)) && decide (a.2.2.2.2.2.2.2.2.2.2.1 = b.2.2.2.2.2.2.2.2.2.2.1)) && decide (a.2.2.2.2.2.2.2.2.2.2.2.1 = b.2.2.2.2.2.2.2.2.2.2.2.1)) && decide (a.2.2.2.2.2.2.2.2.2.2.2.2.1 = b.2.2.2.2.2.2.2.2.2.2.2.2.1)) && decide (a.fs = b.fs))) := by
  unfold F6;rw [<- hx];simp only [Bool.and_assoc]
 rw [hs];cases x with
 | false => rfl
 | true =>
  simp only [Bool.not_true, cond_false, Bool.true_and];congr 1;rw [Bool.eq_iff_iff];simp only [Bool.and_eq_true];constructor
  ·rintro ⟨h, _, k⟩; exact ⟨h, k⟩
  ·rintro ⟨h, k⟩; exact ⟨h, h, k⟩
abbrev NT := PK × List FF × List FF
abbrev n0 : NT := (p0, ([], []))
def Qs (a b : NT) : Bool := (F6 a.1 b.1 && decide (a.2.1 = b.2.1)) && decide (a.2.2 = b.2.2)
structure NL (a : NT) : Prop where
 x : a.1.fs.length < 9223372036854775808
 y : a.2.1.length < 9223372036854775808
 z : a.2.2.length < 9223372036854775808
theorem OL (a : NT) : Qs a a = true := by
 unfold Qs;rw [(RY a.1 a.1).2 rfl]; simp
theorem R_ {a b : NT} (ha : NL a) (hb : NL b) : iH.run .lim (a, b, ()) = some (Qs a b) := by
 simp only [iH.run, RZ ha.x hb.x, Option.bind_some, sW (DR ha.y hb.y), sW (DR ha.z hb.z)];unfold Qs;congr 1;cases F6 a.1 b.1 <;> cases decide (a.2.1 = b.2.1) <;> rfl
end Go.AM
end
section
namespace Go.AM
noncomputable def oQ (v : VV) (s key : List Int) : NT × Int :=
 if Gx s = 0 then
  match qH (iZ s).fs 1028 with
  | none => (n0, 19)
  | some k =>
   if (tH (rd f0 (iZ s).fs (k : Int)).2).2.2 = 0 then
    if (fM v key [s.take (48 + (aP ((iZ s).fs.take k)).length), (tH (rd f0 (iZ s).fs (k : Int)).2).1] (tH (rd f0 (iZ s).fs (k : Int)).2).2.1).2 = 0 then
     if (qL (fM v key [s.take (48 + (aP ((iZ s).fs.take k)).length), (tH (rd f0 (iZ s).fs (k : Int)).2).1] (tH (rd f0 (iZ s).fs (k : Int)).2).2.1).1.length (fM v key [s.take (48 + (aP ((iZ s).fs.take k)).length), (tH (rd f0 (iZ s).fs (k : Int)).2).1] (tH (rd f0 (iZ s).fs (k : Int)).2).2.1).1 []).2 = 0 then
      ((PK.cut (iZ s) [], ((iZ s).fs.take k, (qL (fM v key [s.take (48 + (aP ((iZ s).fs.take k)).length), (tH (rd f0 (iZ s).fs (k : Int)).2).1] (tH (rd f0 (iZ s).fs (k : Int)).2).2.1).1.length (fM v key [s.take (48 + (aP ((iZ s).fs.take k)).length), (tH (rd f0 (iZ s).fs (k : Int)).2).1] (tH (rd f0 (iZ s).fs (k : Int)).2).2.1).1 []).1)), 0)
     else (n0, (qL (fM v key [s.take (48 + (aP ((iZ s).fs.take k)).length), (tH (rd f0 (iZ s).fs (k : Int)).2).1] (tH (rd f0 (iZ s).fs (k : Int)).2).2.1).1.length (fM v key [s.take (48 + (aP ((iZ s).fs.take k)).length), (tH (rd f0 (iZ s).fs (k : Int)).2).1] (tH (rd f0 (iZ s).fs (k : Int)).2).2.1).1 []).2)
    else (n0, (fM v key [s.take (48 + (aP ((iZ s).fs.take k)).length), (tH (rd f0 (iZ s).fs (k : Int)).2).1] (tH (rd f0 (iZ s).fs (k : Int)).2).2.1).2)
   else (n0, (tH (rd f0 (iZ s).fs (k : Int)).2).2.2)
 else (n0, Gx s)
theorem MJ {l : List FF} (hb : ∀ f ∈ l, f.2.length < 65532) : ∀ j, (aP (l.take j)).length <= j * 65536 := fun j => by
 induction j with
 | zero => exact Nat.zero_le _
 | succ j ih =>
  rw [Nat.add_mul];by_cases hjl : j < l.length
  ·rw [qF hjl, List.length_append, mJ];have := hb _ (fC (d := f0) (xs := l) (i := (j : Int)) (by omega) (by omega));omega
  ·have e1 : l.take (j + 1) = l := List.take_of_length_le (by omega);have e2 : l.take j = l := List.take_of_length_le (by omega);rw [e2] at ih;rw [e1]; exact Nat.le_trans ih (Nat.le_add_right _ _)
theorem Zy {v : VV} {key : List Int} {r : PK} (h : r.fs.length <= 16) :
  iU.l0 .lim (r.2.2.2.2.2.2.2.2.2.2.2.2.2, (r.2.2.2.2.2.2.2.2.2.2.2.2.2.length : Int), 0, key, v.1, v.2, 0, 0, 0, 0, 0, 0, 0, 0, 0, 0, 0, 0, 0, r.1, r.2.1, r.2.2.1, r.2.2.2.1, r.2.2.2.2.1, r.2.2.2.2.2.1, r.2.2.2.2.2.2.1, r.2.2.2.2.2.2.2.1, r.2.2.2.2.2.2.2.2.1, r.2.2.2.2.2.2.2.2.2.1, r.2.2.2.2.2.2.2.2.2.2.1, r.2.2.2.2.2.2.2.2.2.2.2.1, r.2.2.2.2.2.2.2.2.2.2.2.2.1, r.2.2.2.2.2.2.2.2.2.2.2.2.2, ()) = match qH r.fs 1028 with
   | some k => some (.inl ((k : Int), key, v.1, v.2, 0, 0, 0, 0, 0, 0, 0, 0, 0, 0, 0, 0, 0, r.1, r.2.1, r.2.2.1, r.2.2.2.1, r.2.2.2.2.1, r.2.2.2.2.2.1, r.2.2.2.2.2.2.1, r.2.2.2.2.2.2.2.1, r.2.2.2.2.2.2.2.2.1, r.2.2.2.2.2.2.2.2.2.1, r.2.2.2.2.2.2.2.2.2.2.1, r.2.2.2.2.2.2.2.2.2.2.2.1, r.2.2.2.2.2.2.2.2.2.2.2.2.1, r.2.2.2.2.2.2.2.2.2.2.2.2.2, ()))
   | none => some (.inr (key, v.1, v.2, 0, 0, 0, 0, 0, 0, 0, 0, 0, 0, 0, 0, 0, r.1, r.2.1, r.2.2.1, r.2.2.2.1, r.2.2.2.2.1, r.2.2.2.2.2.1, r.2.2.2.2.2.2.1, r.2.2.2.2.2.2.2.1, r.2.2.2.2.2.2.2.2.1, r.2.2.2.2.2.2.2.2.2.1, r.2.2.2.2.2.2.2.2.2.2.1, r.2.2.2.2.2.2.2.2.2.2.2.1, r.2.2.2.2.2.2.2.2.2.2.2.2.1, r.2.2.2.2.2.2.2.2.2.2.2.2.2, ())) := by
 have h : r.2.2.2.2.2.2.2.2.2.2.2.2.2.length <= 16 := h;have e := qp (f := iU.l0 .lim) (fun j => (r.2.2.2.2.2.2.2.2.2.2.2.2.2, (r.2.2.2.2.2.2.2.2.2.2.2.2.2.length : Int), (j : Int), key, v.1, v.2, 0, 0, 0, 0, 0, 0, 0, 0, 0, 0, 0, 0, 0, r.1, r.2.1, r.2.2.1, r.2.2.2.1, r.2.2.2.2.1, r.2.2.2.2.2.1, r.2.2.2.2.2.2.1, r.2.2.2.2.2.2.2.1, r.2.2.2.2.2.2.2.2.1, r.2.2.2.2.2.2.2.2.2.1, r.2.2.2.2.2.2.2.2.2.2.1, r.2.2.2.2.2.2.2.2.2.2.2.1, r.2.2.2.2.2.2.2.2.2.2.2.2.1, r.2.2.2.2.2.2.2.2.2.2.2.2.2, ())) r.2.2.2.2.2.2.2.2.2.2.2.2.2.length (fun j : Nat => decide ((rd f0 r.2.2.2.2.2.2.2.2.2.2.2.2.2 (j : Int)).1 = 1028)) (fun j => some (.inl ((j : Int), key, v.1, v.2, 0, 0, 0, 0, 0, 0, 0, 0, 0, 0, 0, 0, 0, r.1, r.2.1, r.2.2.1, r.2.2.2.1, r.2.2.2.2.1, r.2.2.2.2.2.1, r.2.2.2.2.2.2.1, r.2.2.2.2.2.2.2.1, r.2.2.2.2.2.2.2.2.1, r.2.2.2.2.2.2.2.2.2.1, r.2.2.2.2.2.2.2.2.2.2.1, r.2.2.2.2.2.2.2.2.2.2.2.1, r.2.2.2.2.2.2.2.2.2.2.2.2.1, r.2.2.2.2.2.2.2.2.2.2.2.2.2, ()))) (fun k hk => by
  rw [iU.q0];have hr : uy.run .lim (rd ((0 : Int), ([] : List Int)) r.2.2.2.2.2.2.2.2.2.2.2.2.2 (k : Int), ()) = some (decide ((rd f0 r.2.2.2.2.2.2.2.2.2.2.2.2.2 (k : Int)).1 = 1028)) := rfl;simp only [iU.b0, au (show (k : Int) < (r.2.2.2.2.2.2.2.2.2.2.2.2.2.length : Int) by omega), aH (show (0 : Int) <= (k : Int) by omega) (show (k : Int) < (r.2.2.2.2.2.2.2.2.2.2.2.2.2.length : Int) by omega), cond_true, hr, Option.bind_some, lY k (by omega)])
 have e0 : iU.l0 .lim (r.2.2.2.2.2.2.2.2.2.2.2.2.2, (r.2.2.2.2.2.2.2.2.2.2.2.2.2.length : Int), 0, key, v.1, v.2, 0, 0, 0, 0, 0, 0, 0, 0, 0, 0, 0, 0, 0, r.1, r.2.1, r.2.2.1, r.2.2.2.1, r.2.2.2.2.1, r.2.2.2.2.2.1, r.2.2.2.2.2.2.1, r.2.2.2.2.2.2.2.1, r.2.2.2.2.2.2.2.2.1, r.2.2.2.2.2.2.2.2.2.1, r.2.2.2.2.2.2.2.2.2.2.1, r.2.2.2.2.2.2.2.2.2.2.2.1, r.2.2.2.2.2.2.2.2.2.2.2.2.1, r.2.2.2.2.2.2.2.2.2.2.2.2.2, ()) = _ := e;rw [e0];unfold qH;cases hq : (List.range r.fs.length).find? (fun k : Nat => decide ((rd f0 r.fs (k : Int)).1 = 1028)) with
 | some k =>
  have hq : (List.range r.2.2.2.2.2.2.2.2.2.2.2.2.2.length).find? (fun k : Nat => decide ((rd f0 r.2.2.2.2.2.2.2.2.2.2.2.2.2 (k : Int)).1 = 1028)) = some k := hq;simp only [hq]
 | none =>
  have hq : (List.range r.2.2.2.2.2.2.2.2.2.2.2.2.2.length).find? (fun k : Nat => decide ((rd f0 r.2.2.2.2.2.2.2.2.2.2.2.2.2 (k : Int)).1 = 1028)) = none := hq;simp only [hq];rw [iU.q0];simp only [iU.b0, aA (show ¬ (r.2.2.2.2.2.2.2.2.2.2.2.2.2.length : Int) < (r.2.2.2.2.2.2.2.2.2.2.2.2.2.length : Int) by omega), cond_false]
theorem XC {v : VV} {s key at_ : List Int} {r : PK} {k : Nat} (h : r.fs.length <= 16) (hk : k < r.fs.length) (hb : ∀ f ∈ r.fs, f.2.length < 65532) (hat : rd 0 at_ 0 = (k : Int)) (hal : 0 < at_.length) :
  dJ.l0 .lim (s, key, 48, 0, v.1, v.2, 0, 0, 0, 0, 0, 0, 0, 0, 0, 0, 0, 0, 0, r.1, r.2.1, r.2.2.1, r.2.2.2.1, r.2.2.2.2.1, r.2.2.2.2.2.1, r.2.2.2.2.2.2.1, r.2.2.2.2.2.2.2.1, r.2.2.2.2.2.2.2.2.1, r.2.2.2.2.2.2.2.2.2.1, r.2.2.2.2.2.2.2.2.2.2.1, r.2.2.2.2.2.2.2.2.2.2.2.1, r.2.2.2.2.2.2.2.2.2.2.2.2.1, r.2.2.2.2.2.2.2.2.2.2.2.2.2, at_, ()) = some (s, key, ((48 + (aP (r.fs.take k)).length : Nat) : Int), v.1, v.2, 0, 0, 0, 0, 0, 0, 0, 0, 0, 0, 0, 0, 0, r.1, r.2.1, r.2.2.1, r.2.2.2.1, r.2.2.2.2.1, r.2.2.2.2.2.1, r.2.2.2.2.2.2.1, r.2.2.2.2.2.2.2.1, r.2.2.2.2.2.2.2.2.1, r.2.2.2.2.2.2.2.2.2.1, r.2.2.2.2.2.2.2.2.2.2.1, r.2.2.2.2.2.2.2.2.2.2.2.1, r.2.2.2.2.2.2.2.2.2.2.2.2.1, r.2.2.2.2.2.2.2.2.2.2.2.2.2, at_, ()) := by
 have h : r.2.2.2.2.2.2.2.2.2.2.2.2.2.length <= 16 := h;have hk : k < r.2.2.2.2.2.2.2.2.2.2.2.2.2.length := hk;have hal2 : inB 0 (at_.length : Int) = true := aH (by omega) (by omega);have hle := MJ hb;have e := dA (f := dJ.l0 .lim) (fun j => (s, key, ((48 + (aP (r.fs.take j)).length : Nat) : Int), (j : Int), v.1, v.2, 0, 0, 0, 0, 0, 0, 0, 0, 0, 0, 0, 0, 0, r.1, r.2.1, r.2.2.1, r.2.2.2.1, r.2.2.2.2.1, r.2.2.2.2.2.1, r.2.2.2.2.2.2.1, r.2.2.2.2.2.2.2.1, r.2.2.2.2.2.2.2.2.1, r.2.2.2.2.2.2.2.2.2.1, r.2.2.2.2.2.2.2.2.2.2.1, r.2.2.2.2.2.2.2.2.2.2.2.1, r.2.2.2.2.2.2.2.2.2.2.2.2.1, r.2.2.2.2.2.2.2.2.2.2.2.2.2, at_, ())) (n := k) (fun j hj => by
  rw [dJ.q0];have hl := hle j;have hf := hb _ (fC (d := f0) (xs := r.fs) (i := (j : Int)) (by omega) (show (j : Int) < (r.2.2.2.2.2.2.2.2.2.2.2.2.2.length : Int) by omega));have es : (aP (r.fs.take (j + 1))).length = (aP (r.fs.take j)).length + (4 + (rd f0 r.2.2.2.2.2.2.2.2.2.2.2.2.2 (j : Int)).2.length) := by rw [qF (show j < r.fs.length by show j < r.2.2.2.2.2.2.2.2.2.2.2.2.2.length; omega), List.length_append, mJ]
  have w : IntKind.i64.wrap (IntKind.i64.wrap (((48 + (aP (r.fs.take j)).length : Nat) : Int) + 4) + ((rd f0 r.2.2.2.2.2.2.2.2.2.2.2.2.2 (j : Int)).2.length : Int)) = ((48 + (aP (r.fs.take (j + 1))).length : Nat) : Int) := by
   have hf : (rd f0 r.2.2.2.2.2.2.2.2.2.2.2.2.2 (j : Int)).2.length < 65532 := hf;rw [wrap64 (n := ((48 + (aP (r.fs.take j)).length : Nat) : Int) + 4) (by omega) (by omega), wrap64 (by omega) (by omega), es]; omega
  simp only [dJ.b0, hal2, cond_true, hat, au (show (j : Int) < (k : Int) by omega), aH (show (0 : Int) <= (j : Int) by omega) (show (j : Int) < (r.2.2.2.2.2.2.2.2.2.2.2.2.2.length : Int) by omega), aF (show (rd f0 r.2.2.2.2.2.2.2.2.2.2.2.2.2 (j : Int)).2.length < 9223372036854775808 from Nat.lt_of_lt_of_le hf (by decide)), w, lY j (by omega)])
 have e0 : dJ.l0 .lim (s, key, 48, 0, v.1, v.2, 0, 0, 0, 0, 0, 0, 0, 0, 0, 0, 0, 0, 0, r.1, r.2.1, r.2.2.1, r.2.2.2.1, r.2.2.2.2.1, r.2.2.2.2.2.1, r.2.2.2.2.2.2.1, r.2.2.2.2.2.2.2.1, r.2.2.2.2.2.2.2.2.1, r.2.2.2.2.2.2.2.2.2.1, r.2.2.2.2.2.2.2.2.2.2.1, r.2.2.2.2.2.2.2.2.2.2.2.1, r.2.2.2.2.2.2.2.2.2.2.2.2.1, r.2.2.2.2.2.2.2.2.2.2.2.2.2, at_, ()) = _ := e;rw [e0, dJ.q0];simp only [dJ.b0, hal2, cond_true, hat, aA (show ¬ (k : Int) < (k : Int) by omega), cond_false]
theorem nil_B : Bs [] := fun x h => by cases h
theorem F7 {v : VV} (hv : okV v) (hf : uG v = true) (hvb : vB v) {s key : List Int} (hs : Bs s) (hl : s.length < 9223372036854775808) (hk : key.length < dF) (hkb : Bs key) :
  iU.run .lim (v, s, key, ()) = some ((oQ v s key).1, (oQ v s key).2, ()) /\ dJ.run .lim (v, s, key, ()) = some ((oQ v s key).1, (oQ v s key).2, ()) := by
 simp only [iU.run, dJ.run, Xr hs hl, UC hs hl, Option.bind_some];unfold oQ;by_cases h0 : Gx s = 0
 case neg => rw [aA h0, if_neg h0]; exact ⟨rfl, rfl⟩
 rw [au h0, if_pos h0];have w := was hs h0;have hfew := w.few;have hok := w.ok;have hwb := OC hs h0;have hsl : s.length = 48 + (aP (iZ s).fs).length := by
  have := congrArg List.length w.st;rw [List.length_append, List.length_take, Nat.min_eq_left w.l0] at this;exact this
 have hs48 := w.l1;generalize iZ s = r at hfew hok hwb hsl;have hfs : r.2.2.2.2.2.2.2.2.2.2.2.2.2.length <= 16 := hfew;have hff := U1 (l := r.fs) 1028 (by omega) (by omega);have hff : cZ.run .lim (r.2.2.2.2.2.2.2.2.2.2.2.2.2, 1028, ()) = some (findF r.fs 1028) := hff;have hflen := BM r.fs 1028;simp only [Bool.not_true, cond_false, aF (show r.2.2.2.2.2.2.2.2.2.2.2.2.2.length < 9223372036854775808 by omega), cond_true, hff, Option.bind_some, aF (show (findF r.fs 1028).length < 9223372036854775808 by omega)];rw [Zy hfew];rcases C_ r.fs 1028 with ⟨q1, q2⟩ | ⟨k, l, q1, q2, hkl, hkd⟩
 ·simp only [q1, q2]; exact ⟨rfl, rfl⟩
 have hmem : rd f0 r.fs (k : Int) ∈ r.fs := fC (by omega) (by omega);have hfo := hok _ hmem;have hal : 0 < (findF r.fs 1028).length := by rw [q2]; simp
 have hat : rd 0 (findF r.fs 1028) 0 = (k : Int) := by rw [q2]; rfl
 have hkl' : k < r.2.2.2.2.2.2.2.2.2.2.2.2.2.length := hkl;rw [XC hfew hkl (fun f hf => (hok f hf).l1) hat hal];simp only [q1, Option.bind_some, aA (show ¬ ((findF r.fs 1028).length : Int) = 0 by omega), cond_false, aA (show ¬ (k : Int) < 0 by omega), aQ (show (0 : Int) <= 0 by omega) (show (0 : Int) <= (k : Int) by omega) (Int.le_refl _), au (show (k : Int) <= (r.2.2.2.2.2.2.2.2.2.2.2.2.2.length : Int) by omega), Bool.and_self, cond_true,
  aH (show (0 : Int) <= (k : Int) by omega) (show (k : Int) < (r.2.2.2.2.2.2.2.2.2.2.2.2.2.length : Int) by omega), aH (show (0 : Int) <= 0 by omega) (show (0 : Int) < ((findF r.fs 1028).length : Int) by omega), hat]
 have hbb : Bs (rd f0 r.fs (k : Int)).2 := hfo.b;have hbl : (rd f0 r.fs (k : Int)).2.length < 65532 := hfo.l1;have sp := U2 hbb (by omega);have rsp := RX hbb (by omega);have sp : pU.run .lim ((rd ((0 : Int), ([] : List Int)) r.2.2.2.2.2.2.2.2.2.2.2.2.2 (k : Int)).2, ()) = _ := sp;have rsp : gZ.run .lim ((rd ((0 : Int), ([] : List Int)) r.2.2.2.2.2.2.2.2.2.2.2.2.2 (k : Int)).2, ()) = _ := rsp;obtain ⟨sB1, sB2, sL1, sL2⟩ := spS_B hbb;simp only [sp, rsp, Option.bind_some];generalize tH (rd f0 r.fs (k : Int)).2 = g at sB1 sB2 sL1 sL2;obtain ⟨bC, sealed, e⟩ := g;simp only at sB1 sB2 sL1 sL2 ⊢
 by_cases he : e = 0
 case neg => rw [aA he, if_neg he]; exact ⟨rfl, rfl⟩
 rw [au he, if_pos he];have hcz : cut r.2.2.2.2.2.2.2.2.2.2.2.2.2 0 (k : Int) = r.2.2.2.2.2.2.2.2.2.2.2.2.2.take k := qI rfl;have hw := hwb k;have hw : aS.run .lim ((r.1, r.2.1, r.2.2.1, r.2.2.2.1, r.2.2.2.2.1, r.2.2.2.2.2.1, r.2.2.2.2.2.2.1, r.2.2.2.2.2.2.2.1, r.2.2.2.2.2.2.2.2.1, r.2.2.2.2.2.2.2.2.2.1, r.2.2.2.2.2.2.2.2.2.2.1, r.2.2.2.2.2.2.2.2.2.2.2.1, r.2.2.2.2.2.2.2.2.2.2.2.2.1, r.2.2.2.2.2.2.2.2.2.2.2.2.2.take k), ()) = some (s.take (48 + (aP (r.fs.take k)).length), 0, ()) := hw;have hle := FH r.fs k;generalize hN : 48 + (aP (r.fs.take k)).length = N at hw;have hNs : N <= s.length := by omega
 have hcn : cut s 0 (N : Int) = s.take N := qI rfl;have T : UQ key [s.take N, bC] sealed := ⟨hk, hkb, by simp [dF], fun t ht => by
  simp only [List.mem_cons, List.not_mem_nil, or_false] at ht;rcases ht with rfl | rfl
  ·rw [List.length_take]; exact kH (by omega)
  ·exact kH (by omega), kH (by omega)⟩
 have op := UR hv T sB2;have rop := RU hv T;have op : gW.run .lim ((v.1, v.2), key, [s.take N, bC], sealed, ()) = _ := op;have rop : b_.run .lim ((v.1, v.2), key, [s.take N, bC], sealed, ()) = _ := rop;simp only [Bool.not_true, cond_false, hcz, hw, Option.bind_some, op, rop, hcn, aQ (show (0 : Int) <= 0 by omega) (show (0 : Int) <= (N : Int) by omega) (show (N : Int) <= (s.length : Int) by omega), cond_true];by_cases ho : (fM v key [s.take N, bC] sealed).2 = 0
 case neg => rw [aA ho, if_neg ho]; exact ⟨rfl, rfl⟩
 rw [au ho, if_pos ho];obtain ⟨_, ol, _, oB⟩ := U0 hf hvb ho;generalize (fM v key [s.take N, bC] sealed).1 = p at ol oB;simp only [Bool.not_true, cond_false, Yi oB (show p.length < 9223372036854775808 by omega), OA oB (show p.length < 9223372036854775808 by omega), Option.bind_some];by_cases ht : (qL p.length p []).2 = 0
 case neg => rw [aA ht, if_neg ht]; exact ⟨rfl, rfl⟩
 rw [au ht, if_pos ht];simp only [Bool.not_true, cond_false, aQ (show (0 : Int) <= 0 by omega) (show (0 : Int) <= (k : Int) by omega) (show (k : Int) <= (r.2.2.2.2.2.2.2.2.2.2.2.2.2.length : Int) by omega), cond_true]
 first | exact ⟨rfl, rfl⟩ | exact ⟨trivial, rfl⟩ | exact ⟨rfl, trivial⟩ | trivial
end Go.AM
end
section
namespace Go.AM
theorem OM {f : FF} (h : SG f) (x : List Int) : eH (lQ f ++ x) = 4 + f.2.length /\ ¬ zf (lQ f ++ x) /\ SE (lQ f ++ x) = f /\ (lQ f ++ x).drop (eH (lQ f ++ x)) = x := by
 have h1 := h.k0; have h2 := h.k1; have h3 := h.l0; have h4 := h.l4; have h5 := h.l1;have hl := mJ f;have e4 : (lQ f ++ x).take 4 = twoS f.1 ++ twoS ((f.2.length : Int) + 4) := by
  unfold lQ;rw [List.append_assoc, List.take_append_of_le_length (by simp [twoS]), List.take_of_length_le (by simp [twoS])]
 have eL : eH (lQ f ++ x) = 4 + f.2.length := by
  unfold eH;rw [e4, List.drop_append_of_le_length (by simp [twoS]), List.drop_of_length_le (by simp [twoS]), List.nil_append, val_two (by omega) (by omega)];omega
 have e2 : (lQ f ++ x).take 2 = twoS f.1 := by
  have : (lQ f ++ x).take 2 = ((lQ f ++ x).take 4).take 2 := by rw [List.take_take]; rfl
  rw [this, e4, List.take_append_of_le_length (by simp [twoS]), List.take_of_length_le (by simp [twoS])]
 have eT : (lQ f ++ x).take (4 + f.2.length) = lQ f := by rw [<- hl, List.take_left]
 refine ⟨eL, ?_, ?_, ?_⟩
 ·unfold zf;rw [eL, List.length_append, hl];omega
 ·unfold SE;rw [eL, e2, eT, val_two h1 h2];unfold lQ;rw [List.drop_append_of_le_length (by simp [twoS]), List.drop_of_length_le (by simp [twoS]), List.nil_append]
 ·rw [eL, <- hl, List.drop_left]
theorem XD : ∀ (l : List FF) (n : Nat) (acc : List FF), (∀ f ∈ l, SG f) -> (aP l).length <= n -> acc.length + l.length <= 16 -> qL n (aP l) acc = (acc ++ l, 0) := by
 intro l
 induction l with
 | nil =>
  intro n acc _ _ _;have e : aP [] = [] := rfl;rw [e];cases n with
  | zero => simp [qL]
  | succ n => simp [qL]
 | cons f l ih =>
  intro n acc hf hn hl;have hfo := hf f (.head _);have he : aP (f :: l) = lQ f ++ aP l := by simp [aP]
  rw [he] at hn ⊢
  obtain ⟨p1, p2, p3, p4⟩ := OM hfo (aP l);have hlen := mJ f;cases n with
  | zero => rw [List.length_append] at hn; omega
  | succ n =>
   have hne : ¬ (lQ f ++ aP l = []) := fun q => by
    have := congrArg List.length q;rw [List.length_append, hlen] at this;simp at this
   rw [List.length_cons] at hl;rw [qL, if_neg hne, if_neg p2, if_neg (by omega), p3, p4];have := ih n (acc ++ [f]) (fun g hg => hf g (.tail _ hg)) (by rw [List.length_append] at hn; omega) (by simp; omega);rw [this, List.append_assoc]; rfl
theorem JQ {n : Int} (h0 : 0 <= n) (h1 : n < 4294967296) : eG (SH (IntKind.u64.wrap n)) = n := by
 rw [show IntKind.u64.wrap n = n by rw [Aq]; omega];have s1 := f_ n 0 24 .u64 (by decide);have s2 := f_ n 0 16 .u64 (by decide);have s3 := f_ n 0 8 .u64 (by decide);have s4 := f_ n 0 0 .u64 (by decide);unfold SH uD eG;simp only [s1, s2, s3, s4, jX, List.foldl_cons, List.foldl_nil];omega
theorem DT {n : Int} (h0 : 0 <= n) (h1 : n < 18446744073709551616) : eG (by8 n) = n := by
 have s1 := f_ n 0 56 .u64 (by decide);have s2 := f_ n 0 48 .u64 (by decide);have s3 := f_ n 0 40 .u64 (by decide);have s4 := f_ n 0 32 .u64 (by decide);have s5 := f_ n 0 24 .u64 (by decide);have s6 := f_ n 0 16 .u64 (by decide);have s7 := f_ n 0 8 .u64 (by decide);have s8 := f_ n 0 0 .u64 (by decide);unfold by8 uD eG;simp only [s1, s2, s3, s4, s5, s6, s7, s8, jX, List.foldl_cons, List.foldl_nil];omega
structure POk (p : PK) : Prop where
 hd : Rx p = true
 a : 0 <= p.2.2.2.2.2.2.1 /\ p.2.2.2.2.2.2.1 < 4294967296
 b : 0 <= p.2.2.2.2.2.2.2.1 /\ p.2.2.2.2.2.2.2.1 < 4294967296
 c : 0 <= p.2.2.2.2.2.2.2.2.1 /\ p.2.2.2.2.2.2.2.2.1 < 4294967296
 d : 0 <= p.2.2.2.2.2.2.2.2.2.1 /\ p.2.2.2.2.2.2.2.2.2.1 < 18446744073709551616
 e : 0 <= p.2.2.2.2.2.2.2.2.2.2.1 /\ p.2.2.2.2.2.2.2.2.2.2.1 < 18446744073709551616
 f : 0 <= p.2.2.2.2.2.2.2.2.2.2.2.1 /\ p.2.2.2.2.2.2.2.2.2.2.2.1 < 18446744073709551616
 g : 0 <= p.2.2.2.2.2.2.2.2.2.2.2.2.1 /\ p.2.2.2.2.2.2.2.2.2.2.2.2.1 < 18446744073709551616
theorem XE : ∀ a : Nat, a < 4 -> ∀ b : Nat, b < 8 -> ∀ c : Nat, c < 8 -> VZ a b c / 64 = a /\ VZ a b c / 8 % 8 = b /\ VZ a b c % 8 = c := by decide +kernel
theorem Qu : ∀ n : Nat, n < 256 -> sg (IntKind.u8.wrap ((n : Int) - 128)) = (n : Int) - 128 := by decide +kernel
theorem U3 {p : PK} (h : POk p) (x : List Int) (fs : List FF) : V3 (JZ p ++ x) fs = PK.cut p fs := by
 obtain ⟨a, b, c, d, e, g, r1, r2, r3, q1, q2, q3, q4, l⟩ := p;obtain ⟨h0, h1, h2, h3, h4, h5, h6, h7⟩ := h;unfold Rx OB at h0;simp only [Bool.and_eq_true, decide_eq_true_eq] at h0 h1 h2 h3 h4 h5 h6 h7;obtain ⟨⟨⟨⟨⟨ha, hb⟩, hc⟩, hd⟩, he⟩, hg⟩ := h0;have hB := XE a.toNat (by omega) b.toNat (by omega) c.toNat (by omega);rw [Int.toNat_of_nonneg ha.1, Int.toNat_of_nonneg hb.1, Int.toNat_of_nonneg hc.1] at hB;have he' := Qu (e + 128).toNat (by omega);rw [Int.toNat_of_nonneg (by omega), show e + 128 - 128 = e by omega] at he';have hg' := Qu (g + 128).toNat (by omega);rw [Int.toNat_of_nonneg (by omega), show g + 128 - 128 = g by omega] at hg';have hd' : IntKind.u8.wrap d = d := by rw [jX]; omega
 have v1 := JQ h1.1 h1.2; have v2 := JQ h2.1 h2.2; have v3 := JQ h3.1 h3.2;have v4 := DT h4.1 h4.2; have v5 := DT h5.1 h5.2; have v6 := DT h6.1 h6.2; have v7 := DT h7.1 h7.2;show (VZ a b c / 64, VZ a b c / 8 % 8, VZ a b c % 8, IntKind.u8.wrap d, sg (IntKind.u8.wrap e), sg (IntKind.u8.wrap g), eG (SH (IntKind.u64.wrap r1)), eG (SH (IntKind.u64.wrap r2)), eG (SH (IntKind.u64.wrap r3)), eG (by8 q1), eG (by8 q2), eG (by8 q3), eG (by8 q4), fs) = (a, b, c, d, e, g, r1, r2, r3, q1, q2, q3, q4, fs);rw [hB.1, hB.2.1, hB.2.2, hd', he', hg', v1, v2, v3, v4, v5, v6, v7]
theorem Si {p : PK} (h : POk p) (hf : ∀ f ∈ p.fs, SG f) (h16 : p.fs.length <= 16) (hl : (aP p.fs).length <= 1232) : Gx (JZ p ++ aP p.fs) = 0 /\ iZ (JZ p ++ aP p.fs) = p := by
 have hd : (JZ p ++ aP p.fs).drop 48 = aP p.fs := List.drop_left (l₁ := JZ p);have hlen : (JZ p ++ aP p.fs).length = 48 + (aP p.fs).length := by rw [List.length_append, DN]
 have ht := XD p.fs (aP p.fs).length [] hf (Nat.le_refl _) (by simpa using h16);have he : Gx (JZ p ++ aP p.fs) = 0 := by
  unfold Gx;rw [if_neg (by omega), if_neg (by omega), hd, ht]
 refine ⟨he, ?_⟩;unfold iZ;rw [if_pos he, hd, ht, U3 h];rfl
theorem hdS_B (p : PK) : Bs (JZ p) := fun x hx => by
 unfold JZ SH by8 uD VZ at hx;simp only [List.mem_append, List.mem_cons, List.not_mem_nil, or_false] at hx;rcases hx with (h | h | h | h) | (h | h | h | h) | (h | h | h | h) | (h | h | h | h) | (h | h | h | h | h | h | h | h) | (h | h | h | h | h | h | h | h) | (h | h | h | h | h | h | h | h) | h | h | h | h | h | h | h | h <;> (rw [h]; exact wQ _)
theorem XF {l : List FF} (h : ∀ f ∈ l, Bs f.2) : Bs (aP l) := fun x hx => by
 unfold aP at hx;obtain ⟨t, ht, hx⟩ := List.mem_flatten.1 hx;obtain ⟨f, hf, rfl⟩ := List.mem_map.1 ht;unfold lQ at hx;rcases List.mem_append.1 hx with hx | hx
 ·rcases List.mem_append.1 hx with hx | hx
  ·exact JE _ x hx
  ·exact JE _ x hx
 ·exact h f hf x hx
end Go.AM
end
section
namespace Go.AM
theorem XG {v : VV} {s key bC sealed ahead p : List Int} {k : Nat} {l : List FF} (h0 : Gx s = 0) (h1 : qH (iZ s).fs 1028 = some k) (h2 : tH (rd f0 (iZ s).fs (k : Int)).2 = (bC, sealed, 0))
  (h3 : s.take (48 + (aP ((iZ s).fs.take k)).length) = ahead) (h4 : fM v key [ahead, bC] sealed = (p, 0)) (h5 : qL p.length p [] = (l, 0)) : oQ v s key = ((PK.cut (iZ s) [], ((iZ s).fs.take k, l)), 0) := by
 unfold oQ;rw [if_pos h0, h1];simp only [h2, h3, h4, h5, if_true]
theorem XH {v : VV} {s key bC sealed ahead p : List Int} {k : Nat} {e : Int} (h0 : Gx s = 0) (h1 : qH (iZ s).fs 1028 = some k) (h2 : tH (rd f0 (iZ s).fs (k : Int)).2 = (bC, sealed, 0))
  (h3 : s.take (48 + (aP ((iZ s).fs.take k)).length) = ahead) (h4 : fM v key [ahead, bC] sealed = (p, e)) (he : e ≠ 0) : oQ v s key = (n0, e) := by
 unfold oQ;rw [if_pos h0, h1];simp only [h2, h3, h4, if_true, if_neg he]
def kJ (bC sealed : List Int) : List Int := ((twoS 16 ++ twoS (sealed.length : Int)) ++ bC) ++ sV sealed
theorem xW {bC sealed : List Int} (hn : bC.length = 16) : (kJ bC sealed).length = 20 + sealed.length + oP sealed.length := by
 unfold kJ sV;simp only [List.length_append, iY, List.length_replicate];omega
theorem XI {s : List Int} (h : Bs s) : Bs (sV s) := h.app fun x hx => by rw [(List.mem_replicate.1 hx).2]; decide
theorem XJ {bC sealed : List Int} (hn : Bs bC) (hs : Bs sealed) : Bs (kJ bC sealed) := (((JE _).app (JE _)).app hn).app (XI hs)
theorem XL {bC sealed : List Int} (hn : bC.length = 16) (hs : sealed.length < 65536) : tH (kJ bC sealed) = (bC, sealed, 0) := by
 have hl := xW (sealed := sealed) hn;have h0 : rd 0 (kJ bC sealed) 0 = IntKind.u8.wrap (jc .i64 16 8) := rfl;have h1 : rd 0 (kJ bC sealed) 1 = IntKind.u8.wrap 16 := rfl;have h2 : rd 0 (kJ bC sealed) 2 = IntKind.u8.wrap (jc .i64 (sealed.length : Int) 8) := rfl;have h3 : rd 0 (kJ bC sealed) 3 = IntKind.u8.wrap (sealed.length : Int) := rfl;have hm : qM (kJ bC sealed) = sealed.length := by
  unfold qM;rw [h2, h3, Zn, jX, jX]; omega
 have e20 : (kJ bC sealed).drop 20 = sV sealed := by
  unfold kJ;exact List.drop_left' (by simp only [List.length_append, iY]; omega)
 have ha : kJ bC sealed = (((twoS 16 ++ twoS (sealed.length : Int)) ++ bC) ++ sealed) ++ List.replicate (oP sealed.length) 0 := by
  unfold kJ sV;rw [List.append_assoc];rw [List.append_assoc, List.append_assoc, List.append_assoc, List.append_assoc]
 have eS : ((kJ bC sealed).take (20 + sealed.length)).drop 20 = sealed := by
  rw [ha, List.take_left' (by simp only [List.length_append, iY]; omega)];exact List.drop_left' (by simp only [List.length_append, iY]; omega)
 have eN : ((kJ bC sealed).take 20).drop 4 = bC := by
  unfold kJ;rw [List.take_left' (by simp only [List.length_append, iY]; omega)];exact List.drop_left' (by simp only [List.length_append, iY])
 unfold tH;rw [if_neg (by omega), if_neg, hm, eN, eS];unfold xB;rw [hm, e20, eS, h0, h1];intro q;rcases q with q | q | q
 ·exact q (by decide)
 ·omega
 ·exact q rfl
noncomputable def qJ (v : VV) (key bC ahead : List Int) (inner : List FF) : VV × FF × Int :=
 if bC.length = 16 then
  if ahead.length > 1280 then (v, f0, 12) else
  if sN inner = 0 then
   if (jU v key [ahead, bC] (sO inner)).2.2 = 0 then ((jU v key [ahead, bC] (sO inner)).1, (1028, kJ bC (jU v key [ahead, bC] (sO inner)).2.1), 0)
   else (v, f0, (jU v key [ahead, bC] (sO inner)).2.2)
  else (v, f0, sN inner)
 else (v, f0, 10)
theorem IB {v : VV} {key : List Int} {ad : List (List Int)} {s : List Int} (hf : uG v = true) (hs : s.length <= 65536) : (jU v key ad s).2.1.length <= s.length + 16 := by
 by_cases he : (jU v key ad s).2.2 = 0
 ·rw [(UZ hf he).2.2.1]; exact Nat.le_refl _
 ·rw [(XA he).2]; simp
theorem XM {v : VV} (hv : okV v) (hf : uG v = true) {key bC ahead : List Int} {inner : List FF} (hk : key.length < dF) (hkb : Bs key) (hn : bC.length < dF) (ha : ahead.length < dF) (hi : FL inner) :
  wW.run .lim (v, key, bC, ahead, inner, ()) = some ((qJ v key bC ahead inner).1, (qJ v key bC ahead inner).2.1, (qJ v key bC ahead inner).2.2, ()) := by
 have hn' : bC.length < 9223372036854775808 := hn;have ha' : ahead.length < 9223372036854775808 := ha;simp only [wW.run, aF hn', aF ha', cond_true];unfold qJ;by_cases h1 : bC.length = 16
 case neg => rw [aA (show ¬ (bC.length : Int) = 16 by omega), if_neg h1]; rfl
 rw [au (show (bC.length : Int) = 16 by omega), if_pos h1];by_cases h2 : ahead.length > 1280
 ·rw [au (show (ahead.length : Int) > 1280 by omega), if_pos h2]; rfl
 rw [aA (show ¬ (ahead.length : Int) > 1280 by omega), if_neg h2];simp only [Bool.not_true, cond_false, Iq hi, Option.bind_some];by_cases h3 : sN inner = 0
 case neg => rw [aA h3, if_neg h3]; rfl
 rw [au h3, if_pos h3];have hfl := Ar (l := inner);have T : UQ key [ahead, bC] (sO inner) := ⟨hk, hkb, by simp [dF], fun t ht => by
  simp only [List.mem_cons, List.not_mem_nil, or_false] at ht;rcases ht with rfl | rfl
  ·exact ha
  ·exact hn, kH (by omega)⟩
 simp only [Bool.not_true, cond_false, Xz hv hf T, Option.bind_some];have hsl := IB (key := key) (ad := [ahead, bC]) hf (show (sO inner).length <= 65536 by omega);generalize jU v key [ahead, bC] (sO inner) = w at hsl;obtain ⟨w1, w2, w3⟩ := w;simp only at hsl ⊢
 by_cases h4 : w3 = 0
 case neg => rw [aA h4, if_neg h4]; rfl
 rw [au h4, if_pos h4];have hp : oP w2.length < 4 := by unfold oP; omega
 have hfs : (sV w2).length <= w2.length + 4 := by unfold sV; rw [List.length_append, List.length_replicate]; omega
 have t1 : ∀ n, Ai.run .lim (n, ()) = some (twoS n) := fun n => rfl
 simp only [Bool.not_true, cond_false, t1, Option.bind_some, aF (show w2.length < 9223372036854775808 by omega), cond_true];rw [cond_pos (au (show (twoS 16).length + (twoS (w2.length : Int)).length <= maxStr by rw [iY, iY]; decide)), cond_pos (au (show (twoS 16 ++ twoS (w2.length : Int)).length + bC.length <= maxStr by rw [List.length_append, iY, iY, h1]; decide)),
  Iz (show w2.length < 4611686018427387904 by omega)]
 simp only [Option.bind_some];rw [cond_pos (au (show ((twoS 16 ++ twoS (w2.length : Int)) ++ bC).length + (sV w2).length <= maxStr by rw [List.length_append, List.length_append, iY, iY, h1]; unfold maxStr; omega))];rfl
noncomputable def IC (v : VV) (p : PK) (key bC : List Int) (inner : List FF) : VV × List Int × Int :=
 if (findF p.fs 1028).length > 0 then (v, [], 23) else
 if JG p = 0 then
  if (qJ v key bC (Gw p) inner).2.2 = 0 then
   if JG (PK.cut p (p.fs ++ [(qJ v key bC (Gw p) inner).2.1])) = 0 then ((qJ v key bC (Gw p) inner).1, Gw (PK.cut p (p.fs ++ [(qJ v key bC (Gw p) inner).2.1])), 0)
   else (v, [], JG (PK.cut p (p.fs ++ [(qJ v key bC (Gw p) inner).2.1])))
  else (v, [], (qJ v key bC (Gw p) inner).2.2)
 else (v, [], JG p)
theorem XO (p : PK) : (Gw p).length <= 1280 := by
 unfold Gw;split
 ·rename_i h;rw [List.length_append, DN];have hf : sN p.fs = 0 := by
   unfold JG at h;split at h
   ·exact h
   ·exact absurd h (by decide)
  have := Ar (l := p.fs);unfold sO at this;rw [if_pos hf] at this;omega
 ·simp
theorem Sj {v : VV} (hf : uG v = true) {key bC ahead : List Int} {inner : List FF} : (qJ v key bC ahead inner).2.1.2.length <= 100000 := by
 unfold qJ;split
 ·rename_i hn;split
  ·simp
  ·split
   ·split
    ·rename_i h;have hfl := Ar (l := inner);have hsl := IB (v := v) (key := key) (ad := [ahead, bC]) (s := sO inner) hf (by omega);show (kJ bC _).length <= _;rw [xW hn];have : oP (jU v key [ahead, bC] (sO inner)).2.1.length < 4 := by unfold oP; omega
     omega
    ·simp
   ·simp
 ·simp
theorem U4 {v : VV} (hv : okV v) (hf : uG v = true) {p : PK} {key bC : List Int} {inner : List FF} (hp : FL p.fs) (hpl : p.fs.length <= 1000000000) (hk : key.length < dF) (hkb : Bs key) (hn : bC.length < dF) (hi : FL inner) :
  wX.run .lim (v, p, key, bC, inner, ()) = some ((IC v p key bC inner).1, (IC v p key bC inner).2.1, (IC v p key bC inner).2.2, ()) := by
 have hff := BM p.fs 1028;have hfe := MH (l := p.fs) 1028 (by omega) (by omega);have hfe : iF.run .lim (p.2.2.2.2.2.2.2.2.2.2.2.2.2, 1028, ()) = _ := hfe;simp only [wX.run, hfe, Option.bind_some, aF (show (findF p.fs 1028).length < 9223372036854775808 by omega), cond_true];unfold IC;by_cases h1 : (findF p.fs 1028).length > 0
 ·rw [au (show ((findF p.fs 1028).length : Int) > 0 by omega), if_pos h1]; rfl
 rw [aA (show ¬ ((findF p.fs 1028).length : Int) > 0 by omega), if_neg h1];simp only [cond_false, FI hp, Option.bind_some];by_cases h2 : JG p = 0
 case neg => rw [aA h2, if_neg h2]; rfl
 rw [au h2, if_pos h2];have hwl := XO p;simp only [Bool.not_true, cond_false, XM hv hf hk hkb hn (kH (show (Gw p).length < 9223372036854775808 by omega)) hi, Option.bind_some];have hal := Sj (v := v) hf (key := key) (bC := bC) (ahead := Gw p) (inner := inner);generalize qJ v key bC (Gw p) inner = a at hal;obtain ⟨a1, a2, a3⟩ := a;simp only at hal ⊢
 by_cases h3 : a3 = 0
 case neg => rw [aA h3, if_neg h3]; rfl
 rw [au h3, if_pos h3];have hcl : bZ.run .lim (p.2.2.2.2.2.2.2.2.2.2.2.2.2, ()) = some p.fs := by
  simp only [bZ.run];rw [cond_pos (au (show ([] : List FF).length + p.fs.length < 2932031007402 by simp; omega))];rfl
 have hq : FL (PK.fs (PK.cut p (p.fs ++ [a2]))) := by
  refine ⟨?_, fun f hf => ?_⟩
  ·show (p.fs ++ [a2]).length < _;rw [List.length_append]; simp; omega
  ·rcases List.mem_append.1 hf with hf | hf
   ·exact hp.2 f hf
   ·rw [List.mem_singleton.1 hf]; omega
 have hw := FI hq;have hw : aS.run .lim ((p.1, p.2.1, p.2.2.1, p.2.2.2.1, p.2.2.2.2.1, p.2.2.2.2.2.1, p.2.2.2.2.2.2.1, p.2.2.2.2.2.2.2.1, p.2.2.2.2.2.2.2.2.1, p.2.2.2.2.2.2.2.2.2.1, p.2.2.2.2.2.2.2.2.2.2.1, p.2.2.2.2.2.2.2.2.2.2.2.1, p.2.2.2.2.2.2.2.2.2.2.2.2.1, p.fs ++ [a2]), ()) = _ := hw;simp only [Bool.not_true, cond_false, hcl, Option.bind_some];rw [cond_pos (au (show p.fs.length + [a2].length < 2932031007402 by simp; omega)), hw];simp only [Option.bind_some];by_cases h4 : JG (PK.cut p (p.fs ++ [a2])) = 0
 ·rw [au h4, if_pos h4]; rfl
 ·rw [aA h4, if_neg h4]; rfl
end Go.AM
end
section
set_option maxRecDepth 100000
namespace Go.AM
abbrev dL : List Int := [107, 107, 107, 107, 107, 107, 107, 107, 107, 107, 107, 107, 107, 107, 107, 107]
theorem Zz : encS dL CW = [149, 35, 162, 94, 91, 120, 42, 85, 225, 107, 199, 167, 192, 89, 27, 127] := by decide +kernel
theorem JR : xk dL = [42, 71, 68, 188, 182, 240, 84, 171, 194, 215, 143, 79, 128, 178, 54, 121] := (congrArg vC Zz).trans (by decide +kernel)
abbrev xX : List Int := [0, 0, 0, 0, 0, 0, 0, 0, 0, 0, 0, 0, 0, 0, 0, 0]
theorem U5 : oV dL xX 0 = [0, 0, 0, 0, 0, 0, 0, 0, 0, 0, 0, 0, 0, 0, 0, 0] := rfl
theorem U6 : gG dL (xX.drop (16 * 0)) = [42, 71, 68, 188, 182, 240, 84, 171, 194, 215, 143, 79, 128, 178, 54, 121] := by unfold gG; rw [if_pos (by decide), JR]; decide +kernel
theorem ZA : uY dL xX = [138, 17, 135, 69, 125, 68, 78, 155, 36, 236, 23, 96, 235, 236, 220, 208] := by
 have e : uY dL xX = encS dL (dU (oV dL xX 0) (gG dL (xX.drop (16 * 0)))) := rfl;rw [e, U5, U6, show dU [0, 0, 0, 0, 0, 0, 0, 0, 0, 0, 0, 0, 0, 0, 0, 0] [42, 71, 68, 188, 182, 240, 84, 171, 194, 215, 143, 79, 128, 178, 54, 121] = [42, 71, 68, 188, 182, 240, 84, 171, 194, 215, 143, 79, 128, 178, 54, 121] by decide +kernel]; decide +kernel
abbrev u_ : List (List Int) := [[35, 0, 0, 0, 0, 0, 0, 0, 0, 0, 0, 0, 0, 0, 0, 0, 0, 0, 0, 0, 0, 0, 0, 0, 0, 0, 0, 0, 0, 0, 0, 0, 0, 0, 0, 0, 0, 0, 0, 0, 0, 0, 0, 0, 0, 0, 0, 0, 1, 4, 0, 36, 117, 117, 117, 117, 117, 117, 117, 117, 117, 117, 117, 117, 117, 117, 117, 117, 117, 117, 117, 117, 117, 117, 117, 117, 117, 117, 117, 117, 117, 117, 117, 117], [107, 107, 107, 107, 107, 107, 107, 107, 107, 107, 107, 107, 107, 107, 107, 107], []]
theorem ZB : yG dL u_ 0 = [138, 17, 135, 69, 125, 68, 78, 155, 36, 236, 23, 96, 235, 236, 220, 208] := ZA
abbrev iw : List Int := [35, 0, 0, 0, 0, 0, 0, 0, 0, 0, 0, 0, 0, 0, 0, 0, 0, 0, 0, 0, 0, 0, 0, 0, 0, 0, 0, 0, 0, 0, 0, 0, 0, 0, 0, 0, 0, 0, 0, 0, 0, 0, 0, 0, 0, 0, 0, 0, 1, 4, 0, 36, 117, 117, 117, 117, 117, 117, 117, 117, 117, 117, 117, 117, 117, 117, 117, 117, 117, 117, 117, 117, 117, 117, 117, 117, 117, 117, 117, 117, 117, 117, 117, 117]
theorem U7 : oV dL iw 0 = [0, 0, 0, 0, 0, 0, 0, 0, 0, 0, 0, 0, 0, 0, 0, 0] := rfl
theorem U8 : oV dL iw 1 = [50, 103, 247, 230, 241, 102, 171, 57, 123, 245, 180, 136, 82, 103, 21, 30] := ((congrArg (fun z => encS dL (dU z ((iw.drop (16 * 0)).take 16))) U7).trans (congrArg (encS dL) (show dU [0, 0, 0, 0, 0, 0, 0, 0, 0, 0, 0, 0, 0, 0, 0, 0] ((iw.drop (16 * 0)).take 16) = [35, 0, 0, 0, 0, 0, 0, 0, 0, 0, 0, 0, 0, 0, 0, 0] by decide +kernel))).trans (by decide +kernel)
theorem U9 : oV dL iw 2 = [87, 6, 235, 136, 118, 75, 52, 142, 4, 15, 115, 3, 233, 131, 72, 7] := ((congrArg (fun z => encS dL (dU z ((iw.drop (16 * 1)).take 16))) U8).trans (congrArg (encS dL) (show dU [50, 103, 247, 230, 241, 102, 171, 57, 123, 245, 180, 136, 82, 103, 21, 30] ((iw.drop (16 * 1)).take 16) = [50, 103, 247, 230, 241, 102, 171, 57, 123, 245, 180, 136, 82, 103, 21, 30] by decide +kernel))).trans (by decide +kernel)
theorem U_ : oV dL iw 3 = [164, 129, 129, 173, 171, 117, 44, 66, 245, 114, 89, 134, 152, 131, 38, 10] := ((congrArg (fun z => encS dL (dU z ((iw.drop (16 * 2)).take 16))) U9).trans (congrArg (encS dL) (show dU [87, 6, 235, 136, 118, 75, 52, 142, 4, 15, 115, 3, 233, 131, 72, 7] ((iw.drop (16 * 2)).take 16) = [87, 6, 235, 136, 118, 75, 52, 142, 4, 15, 115, 3, 233, 131, 72, 7] by decide +kernel))).trans (by decide +kernel)
theorem Va : oV dL iw 4 = [86, 197, 215, 208, 118, 159, 145, 216, 106, 166, 20, 63, 208, 168, 152, 139] := ((congrArg (fun z => encS dL (dU z ((iw.drop (16 * 3)).take 16))) U_).trans (congrArg (encS dL) (show dU [164, 129, 129, 173, 171, 117, 44, 66, 245, 114, 89, 134, 152, 131, 38, 10] ((iw.drop (16 * 3)).take 16) = [165, 133, 129, 137, 222, 0, 89, 55, 128, 7, 44, 243, 237, 246, 83, 127] by decide +kernel))).trans (by decide +kernel)
theorem Vb : oV dL iw 5 = [207, 24, 82, 191, 110, 42, 30, 26, 91, 88, 54, 151, 19, 33, 162, 128] := ((congrArg (fun z => encS dL (dU z ((iw.drop (16 * 4)).take 16))) Va).trans (congrArg (encS dL) (show dU [86, 197, 215, 208, 118, 159, 145, 216, 106, 166, 20, 63, 208, 168, 152, 139] ((iw.drop (16 * 4)).take 16) = [35, 176, 162, 165, 3, 234, 228, 173, 31, 211, 97, 74, 165, 221, 237, 254] by decide +kernel))).trans (by decide +kernel)
theorem Vd : gG dL (iw.drop (16 * 5)) = [33, 251, 252, 12, 237, 224, 169, 87, 133, 175, 30, 159, 1, 100, 108, 242] := by unfold gG; rw [if_neg (by decide), JR]; decide +kernel
theorem ZC : uY dL iw = [15, 174, 234, 58, 140, 220, 147, 16, 67, 164, 159, 160, 37, 18, 150, 161] := by
 have e : uY dL iw = encS dL (dU (oV dL iw 5) (gG dL (iw.drop (16 * 5)))) := rfl;rw [e, Vb, Vd, show dU [207, 24, 82, 191, 110, 42, 30, 26, 91, 88, 54, 151, 19, 33, 162, 128] [33, 251, 252, 12, 237, 224, 169, 87, 133, 175, 30, 159, 1, 100, 108, 242] = [238, 227, 174, 179, 131, 202, 183, 77, 222, 247, 40, 8, 18, 69, 206, 114] by decide +kernel]; decide +kernel
theorem ZE : yG dL u_ 1 = [27, 141, 228, 176, 118, 84, 14, 38, 10, 124, 177, 97, 242, 203, 47, 134] := by
 have e : yG dL u_ 1 = dU (vC (yG dL u_ 0)) (uY dL iw) := rfl;rw [e, ZB, ZC]; decide +kernel
abbrev uK : List Int := [107, 107, 107, 107, 107, 107, 107, 107, 107, 107, 107, 107, 107, 107, 107, 107]
theorem Ve : oV dL uK 0 = [0, 0, 0, 0, 0, 0, 0, 0, 0, 0, 0, 0, 0, 0, 0, 0] := rfl
theorem Vf : gG dL (uK.drop (16 * 0)) = [65, 44, 47, 215, 221, 155, 63, 192, 169, 188, 228, 36, 235, 217, 93, 18] := by unfold gG; rw [if_pos (by decide), JR]; decide +kernel
theorem ZF : uY dL uK = [74, 180, 50, 78, 186, 17, 232, 7, 55, 161, 212, 105, 79, 66, 253, 11] := by
 have e : uY dL uK = encS dL (dU (oV dL uK 0) (gG dL (uK.drop (16 * 0)))) := rfl;rw [e, Ve, Vf, show dU [0, 0, 0, 0, 0, 0, 0, 0, 0, 0, 0, 0, 0, 0, 0, 0] [65, 44, 47, 215, 221, 155, 63, 192, 169, 188, 228, 36, 235, 217, 93, 18] = [65, 44, 47, 215, 221, 155, 63, 192, 169, 188, 228, 36, 235, 217, 93, 18] by decide +kernel]; decide +kernel
theorem ZG : yG dL u_ 2 = [125, 175, 251, 46, 86, 185, 244, 75, 35, 88, 182, 170, 170, 212, 162, 7] := by
 have e : yG dL u_ 2 = dU (vC (yG dL u_ 1)) (uY dL uK) := rfl;rw [e, ZE, ZF]; decide +kernel
abbrev Yl : List Int := []
abbrev uM : List Int := [123, 95, 246, 92, 173, 115, 232, 150, 70, 177, 109, 85, 85, 169, 68, 14]
theorem Vg : oV dL uM 0 = [0, 0, 0, 0, 0, 0, 0, 0, 0, 0, 0, 0, 0, 0, 0, 0] := rfl
theorem Vh : gG dL (uM.drop (16 * 0)) = [81, 24, 178, 224, 27, 131, 188, 61, 132, 102, 226, 26, 213, 27, 114, 119] := by unfold gG; rw [if_pos (by decide), JR]; decide +kernel
theorem ZH : uY dL uM = [54, 42, 173, 236, 193, 166, 245, 24, 109, 58, 68, 170, 192, 194, 131, 59] := by
 have e : uY dL uM = encS dL (dU (oV dL uM 0) (gG dL (uM.drop (16 * 0)))) := rfl;rw [e, Vg, Vh, show dU [0, 0, 0, 0, 0, 0, 0, 0, 0, 0, 0, 0, 0, 0, 0, 0] [81, 24, 178, 224, 27, 131, 188, 61, 132, 102, 226, 26, 213, 27, 114, 119] = [81, 24, 178, 224, 27, 131, 188, 61, 132, 102, 226, 26, 213, 27, 114, 119] by decide +kernel]; decide +kernel
theorem awA_h : dU (uI Yl) (vC [125, 175, 251, 46, 86, 185, 244, 75, 35, 88, 182, 170, 170, 212, 162, 7]) = uM := by decide +kernel
theorem awA_s : FQ dL u_ = [54, 42, 173, 236, 193, 166, 245, 24, 109, 58, 68, 170, 192, 194, 131, 59] := by
 have e : FQ dL u_ = s2E dL (yG dL u_ 2) Yl := rfl;rw [e, ZG];exact (if_pos (by decide)).trans ((congrArg (uY dL) awA_h).trans ZH)
abbrev dM : List Int := [108, 108, 108, 108, 108, 108, 108, 108, 108, 108, 108, 108, 108, 108, 108, 108]
theorem ZI : encS dM CW = [225, 136, 183, 210, 176, 183, 19, 96, 208, 134, 206, 212, 133, 237, 27, 81] := by decide +kernel
theorem JU : xk dM = [195, 17, 111, 165, 97, 110, 38, 193, 161, 13, 157, 169, 11, 218, 54, 37] := (congrArg vC ZI).trans (by decide +kernel)
abbrev xY : List Int := [0, 0, 0, 0, 0, 0, 0, 0, 0, 0, 0, 0, 0, 0, 0, 0]
theorem Vj : oV dM xY 0 = [0, 0, 0, 0, 0, 0, 0, 0, 0, 0, 0, 0, 0, 0, 0, 0] := rfl
theorem Vk : gG dM (xY.drop (16 * 0)) = [195, 17, 111, 165, 97, 110, 38, 193, 161, 13, 157, 169, 11, 218, 54, 37] := by unfold gG; rw [if_pos (by decide), JU]; decide +kernel
theorem ZJ : uY dM xY = [170, 248, 20, 46, 209, 250, 90, 72, 30, 116, 52, 46, 129, 117, 203, 58] := by
 have e : uY dM xY = encS dM (dU (oV dM xY 0) (gG dM (xY.drop (16 * 0)))) := rfl;rw [e, Vj, Vk, show dU [0, 0, 0, 0, 0, 0, 0, 0, 0, 0, 0, 0, 0, 0, 0, 0] [195, 17, 111, 165, 97, 110, 38, 193, 161, 13, 157, 169, 11, 218, 54, 37] = [195, 17, 111, 165, 97, 110, 38, 193, 161, 13, 157, 169, 11, 218, 54, 37] by decide +kernel]; decide +kernel
abbrev vg : List (List Int) := [[35, 0, 0, 0, 0, 0, 0, 0, 0, 0, 0, 0, 0, 0, 0, 0, 0, 0, 0, 0, 0, 0, 0, 0, 0, 0, 0, 0, 0, 0, 0, 0, 0, 0, 0, 0, 0, 0, 0, 0, 0, 0, 0, 0, 0, 0, 0, 0, 1, 4, 0, 36, 117, 117, 117, 117, 117, 117, 117, 117, 117, 117, 117, 117, 117, 117, 117, 117, 117, 117, 117, 117, 117, 117, 117, 117, 117, 117, 117, 117, 117, 117, 117, 117], [107, 107, 107, 107, 107, 107, 107, 107, 107, 107, 107, 107, 107, 107, 107, 107], []]
theorem ZK : yG dM vg 0 = [170, 248, 20, 46, 209, 250, 90, 72, 30, 116, 52, 46, 129, 117, 203, 58] := ZJ
abbrev iy : List Int := [35, 0, 0, 0, 0, 0, 0, 0, 0, 0, 0, 0, 0, 0, 0, 0, 0, 0, 0, 0, 0, 0, 0, 0, 0, 0, 0, 0, 0, 0, 0, 0, 0, 0, 0, 0, 0, 0, 0, 0, 0, 0, 0, 0, 0, 0, 0, 0, 1, 4, 0, 36, 117, 117, 117, 117, 117, 117, 117, 117, 117, 117, 117, 117, 117, 117, 117, 117, 117, 117, 117, 117, 117, 117, 117, 117, 117, 117, 117, 117, 117, 117, 117, 117]
theorem Vl : oV dM iy 0 = [0, 0, 0, 0, 0, 0, 0, 0, 0, 0, 0, 0, 0, 0, 0, 0] := rfl
theorem Vm : oV dM iy 1 = [50, 104, 41, 26, 180, 14, 12, 151, 83, 22, 111, 228, 249, 118, 33, 153] := ((congrArg (fun z => encS dM (dU z ((iy.drop (16 * 0)).take 16))) Vl).trans (congrArg (encS dM) (show dU [0, 0, 0, 0, 0, 0, 0, 0, 0, 0, 0, 0, 0, 0, 0, 0] ((iy.drop (16 * 0)).take 16) = [35, 0, 0, 0, 0, 0, 0, 0, 0, 0, 0, 0, 0, 0, 0, 0] by decide +kernel))).trans (by decide +kernel)
theorem Vo : oV dM iy 2 = [164, 126, 166, 109, 164, 124, 3, 201, 107, 185, 92, 108, 98, 129, 219, 207] := ((congrArg (fun z => encS dM (dU z ((iy.drop (16 * 1)).take 16))) Vm).trans (congrArg (encS dM) (show dU [50, 104, 41, 26, 180, 14, 12, 151, 83, 22, 111, 228, 249, 118, 33, 153] ((iy.drop (16 * 1)).take 16) = [50, 104, 41, 26, 180, 14, 12, 151, 83, 22, 111, 228, 249, 118, 33, 153] by decide +kernel))).trans (by decide +kernel)
theorem Vp : oV dM iy 3 = [136, 202, 209, 184, 170, 252, 14, 181, 237, 184, 198, 79, 23, 21, 168, 136] := ((congrArg (fun z => encS dM (dU z ((iy.drop (16 * 2)).take 16))) Vo).trans (congrArg (encS dM) (show dU [164, 126, 166, 109, 164, 124, 3, 201, 107, 185, 92, 108, 98, 129, 219, 207] ((iy.drop (16 * 2)).take 16) = [164, 126, 166, 109, 164, 124, 3, 201, 107, 185, 92, 108, 98, 129, 219, 207] by decide +kernel))).trans (by decide +kernel)
theorem Vq : oV dM iy 4 = [220, 207, 94, 151, 237, 126, 226, 107, 116, 228, 4, 125, 244, 8, 82, 140] := ((congrArg (fun z => encS dM (dU z ((iy.drop (16 * 3)).take 16))) Vp).trans (congrArg (encS dM) (show dU [136, 202, 209, 184, 170, 252, 14, 181, 237, 184, 198, 79, 23, 21, 168, 136] ((iy.drop (16 * 3)).take 16) = [137, 206, 209, 156, 223, 137, 123, 192, 152, 205, 179, 58, 98, 96, 221, 253] by decide +kernel))).trans (by decide +kernel)
theorem Vr : oV dM iy 5 = [82, 143, 122, 155, 185, 148, 35, 177, 250, 8, 30, 124, 201, 204, 96, 153] := ((congrArg (fun z => encS dM (dU z ((iy.drop (16 * 4)).take 16))) Vq).trans (congrArg (encS dM) (show dU [220, 207, 94, 151, 237, 126, 226, 107, 116, 228, 4, 125, 244, 8, 82, 140] ((iy.drop (16 * 4)).take 16) = [169, 186, 43, 226, 152, 11, 151, 30, 1, 145, 113, 8, 129, 125, 39, 249] by decide +kernel))).trans (by decide +kernel)
theorem Vs : gG dM (iy.drop (16 * 5)) = [243, 87, 170, 63, 66, 220, 77, 131, 66, 27, 59, 82, 23, 180, 108, 205] := by unfold gG; rw [if_neg (by decide), JU]; decide +kernel
theorem ZL : uY dM iy = [106, 188, 119, 27, 113, 87, 178, 42, 85, 28, 230, 121, 132, 130, 101, 199] := by
 have e : uY dM iy = encS dM (dU (oV dM iy 5) (gG dM (iy.drop (16 * 5)))) := rfl;rw [e, Vr, Vs, show dU [82, 143, 122, 155, 185, 148, 35, 177, 250, 8, 30, 124, 201, 204, 96, 153] [243, 87, 170, 63, 66, 220, 77, 131, 66, 27, 59, 82, 23, 180, 108, 205] = [161, 216, 208, 164, 251, 72, 110, 50, 184, 19, 37, 46, 222, 120, 12, 84] by decide +kernel]; decide +kernel
theorem ZM : yG dM vg 1 = [63, 76, 95, 70, 210, 163, 6, 186, 105, 244, 142, 36, 134, 105, 243, 52] := by
 have e : yG dM vg 1 = dU (vC (yG dM vg 0)) (uY dM iy) := rfl;rw [e, ZK, ZL]; decide +kernel
abbrev uN : List Int := [107, 107, 107, 107, 107, 107, 107, 107, 107, 107, 107, 107, 107, 107, 107, 107]
theorem Vt : oV dM uN 0 = [0, 0, 0, 0, 0, 0, 0, 0, 0, 0, 0, 0, 0, 0, 0, 0] := rfl
theorem Vu : gG dM (uN.drop (16 * 0)) = [168, 122, 4, 206, 10, 5, 77, 170, 202, 102, 246, 194, 96, 177, 93, 78] := by unfold gG; rw [if_pos (by decide), JU]; decide +kernel
theorem ZN : uY dM uN = [239, 136, 254, 64, 50, 87, 86, 108, 237, 99, 152, 168, 24, 167, 228, 224] := by
 have e : uY dM uN = encS dM (dU (oV dM uN 0) (gG dM (uN.drop (16 * 0)))) := rfl;rw [e, Vt, Vu, show dU [0, 0, 0, 0, 0, 0, 0, 0, 0, 0, 0, 0, 0, 0, 0, 0] [168, 122, 4, 206, 10, 5, 77, 170, 202, 102, 246, 194, 96, 177, 93, 78] = [168, 122, 4, 206, 10, 5, 77, 170, 202, 102, 246, 194, 96, 177, 93, 78] by decide +kernel]; decide +kernel
theorem ZO : yG dM vg 2 = [145, 16, 64, 205, 151, 17, 91, 24, 62, 138, 132, 225, 20, 116, 2, 136] := by
 have e : yG dM vg 2 = dU (vC (yG dM vg 1)) (uY dM uN) := rfl;rw [e, ZM, ZN]; decide +kernel
abbrev Ym : List Int := []
abbrev uO : List Int := [162, 32, 129, 155, 46, 34, 182, 48, 125, 21, 9, 194, 40, 232, 5, 151]
theorem Vw : oV dM uO 0 = [0, 0, 0, 0, 0, 0, 0, 0, 0, 0, 0, 0, 0, 0, 0, 0] := rfl
theorem Vx : gG dM (uO.drop (16 * 0)) = [97, 49, 238, 62, 79, 76, 144, 241, 220, 24, 148, 107, 35, 50, 51, 178] := by unfold gG; rw [if_pos (by decide), JU]; decide +kernel
theorem ZP : uY dM uO = [159, 129, 153, 29, 166, 160, 61, 117, 246, 78, 159, 114, 77, 161, 147, 102] := by
 have e : uY dM uO = encS dM (dU (oV dM uO 0) (gG dM (uO.drop (16 * 0)))) := rfl;rw [e, Vw, Vx, show dU [0, 0, 0, 0, 0, 0, 0, 0, 0, 0, 0, 0, 0, 0, 0, 0] [97, 49, 238, 62, 79, 76, 144, 241, 220, 24, 148, 107, 35, 50, 51, 178] = [97, 49, 238, 62, 79, 76, 144, 241, 220, 24, 148, 107, 35, 50, 51, 178] by decide +kernel]; decide +kernel
theorem awB_h : dU (uI Ym) (vC [145, 16, 64, 205, 151, 17, 91, 24, 62, 138, 132, 225, 20, 116, 2, 136]) = uO := by decide +kernel
theorem awB_s : FQ dM vg = [159, 129, 153, 29, 166, 160, 61, 117, 246, 78, 159, 114, 77, 161, 147, 102] := by
 have e : FQ dM vg = s2E dM (yG dM vg 2) Ym := rfl;rw [e, ZO];exact (if_pos (by decide)).trans ((congrArg (uY dM) awB_h).trans ZP)
theorem Sm : FQ dL u_ ≠ FQ dM vg := by rw [awA_s, awB_s]; decide
end Go.AM
end
section
set_option maxRecDepth 100000
namespace Go.AM
abbrev IE : List Int := List.replicate 32 107
abbrev zk : List Int := List.replicate 16 107
abbrev XP : List Int := List.replicate 32 108
abbrev awU : List Int := List.replicate 32 117
abbrev F8 : FF := (260, awU)
abbrev V5 : PK := ((0 : Int), (4, (3, (0, (0, (0, (0, (0, (0, (0, (0, (0, (0, ([F8] : List FF))))))))))))))
abbrev GH : VV := (false, [])
theorem MK {n : Nat} {x : Int} (h : B8 x) : Bs (List.replicate n x) := fun y hy => by rw [(List.mem_replicate.1 hy).2]; exact h
theorem OQ : okV GH := ⟨by decide, fun k hk => nomatch hk⟩
theorem Yn : vB GH := fun k hk => nomatch hk
theorem ZQ : bI.l0 .lim ([], [], [], 0, ()) = some (IE, XP, awU, ()) := by
 have e := dA (f := bI.l0 .lim) (fun j => (List.replicate j (107 : Int), List.replicate j (108 : Int), List.replicate j (117 : Int), (j : Int), ())) (n := 32) (fun k hk => by
  rw [bI.q0];have hl : ∀ x : Int, decide ((List.replicate k x).length + [x].length <= maxStr) = true := fun x => au (by unfold maxStr; simp; omega)
  simp only [bI.b0, au (show (k : Int) < 32 by omega), cond_true, hl, lY k (by omega)];rw [List.replicate_succ', List.replicate_succ', List.replicate_succ'])
 refine (show bI.l0 .lim ([], [], [], 0, ()) = bI.l0 .lim (List.replicate 32 (107 : Int), List.replicate 32 (108 : Int), List.replicate 32 (117 : Int), ((32 : Nat) : Int), ()) from e).trans ?_;rw [bI.q0];rfl
theorem Vy : SG F8 := ⟨by decide, by decide, by decide, by decide, by decide, MK (by decide)⟩
theorem ZR : POk V5 := ⟨by decide, by decide, by decide, by decide, by decide, by decide, by decide, by decide⟩
abbrev awA : List Int := JZ V5 ++ aP [F8]
theorem OT : awA = [35] ++ List.replicate 47 0 ++ [1, 4, 0, 36] ++ List.replicate 32 117 := by decide +kernel
noncomputable abbrev GI : List Int := oW IE [awA, zk] []
theorem xZ : GI.length = 16 := Iw IE [awA, zk] []
noncomputable abbrev MR : FF := (1028, kJ zk GI)
noncomputable abbrev OU : PK := PK.cut V5 [F8, MR]
theorem ZT : SG MR := by
 have hl := xW (bC := zk) (sealed := GI) (by decide);have hp : oP GI.length = 0 := by rw [xZ]; rfl
 rw [xZ] at hl hp;exact ⟨by decide, by decide, by show 12 <= (kJ zk GI).length; omega, by show (kJ zk GI).length % 4 = 0; omega, by show (kJ zk GI).length < 65532; omega, XJ (MK (by decide)) (Qn _ _ _)⟩
theorem Vz : POk OU := ⟨by decide, by decide, by decide, by decide, by decide, by decide, by decide, by decide⟩
theorem VA : ∀ f ∈ [F8, MR], SG f := fun f hf => by
 simp only [List.mem_cons, List.not_mem_nil, or_false] at hf;rcases hf with rfl | rfl
 ·exact Vy
 ·exact ZT
theorem JV : (aP [F8, MR]).length = 76 := by
 have h1 : aP [F8, MR] = lQ F8 ++ lQ MR := by simp [aP]
 have hl := xW (bC := zk) (sealed := GI) (by decide);have hp : oP GI.length = 0 := by rw [xZ]; rfl
 rw [h1, List.length_append, mJ, mJ, show F8.2.length = 32 from rfl, show MR.2.length = (kJ zk GI).length from rfl, hl, hp, xZ]
theorem XQ : jU GH IE [awA, zk] [] = (GH, GI, 0) := by
 show (GH, xw IE [awA, zk] []) = _;unfold xw;rw [if_pos (show oO IE [awA, zk] = 0 from rfl), if_neg (show ¬ ([] : List Int).length > 65536 by decide)]
theorem VB : JG V5 = 0 /\ Gw V5 = awA := by
 have h : JG V5 = 0 := by
  unfold JG;rw [if_pos ZR.hd];exact JF (l := [F8]) (fun f hf => by rw [List.mem_singleton.1 hf]; exact Vy) (by decide) (by decide)
 refine ⟨h, ?_⟩;unfold Gw;rw [if_pos h]
theorem XR : qJ GH IE zk awA [] = (GH, MR, 0) := by
 unfold qJ;rw [if_pos (show zk.length = 16 by decide), if_neg (show ¬ awA.length > 1280 by rw [OT]; decide), if_pos (show sN [] = 0 from rfl)];have h : sO [] = [] := rfl;rw [h, XQ];rfl
theorem VD : JG OU = 0 /\ Gw OU = JZ OU ++ aP [F8, MR] := by
 have h : JG OU = 0 := by
  unfold JG;rw [if_pos Vz.hd];exact JF (l := [F8, MR]) VA (by simp) (by rw [JV]; decide)
 refine ⟨h, ?_⟩;unfold Gw;rw [if_pos h]
noncomputable abbrev OV : List Int := JZ OU ++ aP [F8, MR]
theorem JW : OV.length = 124 := by rw [List.length_append, DN, JV]
theorem Yo : Bs OV := (hdS_B _).app (XF fun f hf => (VA f hf).b)
theorem XT : IC GH V5 IE zk [] = (GH, OV, 0) := by
 unfold IC;rw [if_neg (show ¬ (findF V5.fs 1028).length > 0 from fun h => absurd h (by decide)), if_pos VB.1, VB.2, XR, if_pos rfl];show (if JG OU = 0 then (GH, Gw OU, 0) else _) = _;rw [if_pos VD.1, VD.2]
theorem VE : jY IE = dL := by decide
theorem Sr : jY XP = dM := by decide
theorem aw_ad : [awA, zk] ++ [[]] = u_ := by rw [OT]; decide
theorem ZU : [awA, zk] ++ [[]] = vg := by rw [OT]; decide
theorem ZV : sQ IE [awA, zk] GI = ([], 0) := RN (show oO IE [awA, zk] = 0 from rfl) (by decide) nil_B
theorem ZW : sQ XP [awA, zk] GI = ([], 17) := by
 have hv := BJ (jY IE) ([awA, zk] ++ [[]]);have hl := xZ;have ht : GI.take 16 = FQ (jY IE) ([awA, zk] ++ [[]]) := by unfold GI oW; rw [List.take_append_of_le_length (by rw [hv.1]; omega), List.take_of_length_le (by rw [hv.1]; omega)]
 have ho : kV XP GI = [] := by
  unfold kV;apply List.length_eq_zero_iff.1
  rw [nM, List.length_drop, hl]
 unfold sQ;rw [if_pos (show oO XP [awA, zk] = 0 from rfl), if_neg (by omega), if_neg (by omega), ho, ht, VE, Sr, if_neg (fun h => Sm (by rw [<- aw_ad, <- h, <- ZU]))]
theorem DU : Gx OV = 0 /\ iZ OV = OU := Si (p := OU) Vz VA (show 2 <= 16 by decide) (by show (aP [F8, MR]).length <= 1232; rw [JV]; decide)
theorem ML : qH OU.fs 1028 = some 1 := rfl
theorem MN : OV.take (48 + (aP (OU.fs.take 1)).length) = awA := by
 have e : OV = (JZ V5 ++ aP [F8]) ++ lQ MR := by
  show JZ OU ++ aP [F8, MR] = _;have h1 : aP [F8, MR] = aP [F8] ++ lQ MR := by simp [aP]
  rw [h1, <- List.append_assoc]; rfl
 rw [e];exact List.take_left' (by rw [List.length_append, DN]; rfl)
theorem MO : tH (rd f0 OU.fs ((1 : Nat) : Int)).2 = (zk, GI, 0) := XL (by decide) (by rw [xZ]; decide)
theorem XU : fM GH IE [awA, zk] GI = ([], 0) := by
 unfold fM;rw [show GH.1 = false from rfl, cond_false];exact ZV
theorem XV : fM GH XP [awA, zk] GI = ([], 17) := by
 unfold fM;rw [show GH.1 = false from rfl, cond_false];exact ZW
theorem VF : oQ GH OV IE = ((PK.cut OU [], ([F8], [])), 0) := by
 have r := DU.2;have h := XG (v := GH) (s := OV) (key := IE) (k := 1) (bC := zk) (sealed := GI) (ahead := awA) (p := []) (l := []) DU.1 (by rw [r]; exact ML) (by rw [r]; exact MO) (by rw [r]; exact MN) XU rfl;rw [r] at h;exact h
theorem VG : oQ GH OV XP = (n0, 17) := by
 have r := DU.2;exact XH (v := GH) (s := OV) (key := XP) (k := 1) (bC := zk) (sealed := GI) (ahead := awA) (p := []) (e := 17) DU.1 (by rw [r]; exact ML) (by rw [r]; exact MO) (by rw [r]; exact MN) XV (by decide)
theorem Qv : bI.run .lim () = some true := by
 have hfl : FL [F8] := ⟨by decide, fun f hf => by rw [List.mem_singleton.1 hf]; decide⟩;have m := U4 (v := GH) (p := V5) (key := IE) (bC := zk) (inner := []) OQ rfl hfl (by decide) (by decide) (MK (by decide)) (by decide) ⟨by decide, fun f hf => nomatch hf⟩;rw [XT] at m;have hT : OV.length < 9223372036854775808 := by rw [JW]; decide
 have o1 := (F7 (v := GH) (s := OV) (key := IE) OQ rfl Yn Yo hT (by decide) (MK (by decide))).1;have o2 := (F7 (v := GH) (s := OV) (key := XP) OQ rfl Yn Yo hT (by decide) (MK (by decide))).1;rw [VF] at o1;rw [VG] at o2;have hc : cut IE 0 16 = zk := by decide
 have hcb : dG 0 16 (IE.length : Int) = true := by decide
 have hn := Zx (l := [F8]) 260 (by decide);have ho : XB [F8] 260 = (awU, 0) := rfl;rw [ho] at hn;simp only [bI.run, ZQ, Option.bind_some, hcb, cond_true, hc, m, o1, o2, hn];have h5 : aB ((OV.length : Nat) : Int) = true := by rw [JW]; decide
 rw [h5, JW];decide
end Go.AM
end
section
namespace Go.AM
theorem VH : ∀ (n : Nat) (s : List Int) (acc : List FF), acc.length <= 16 -> (qL n s acc).1.length <= 16 := by
 intro n
 induction n with
 | zero => intro s acc h; exact h
 | succ n ih =>
  intro s acc h;simp only [qL];split
  ·exact h
  ·split
   ·exact Nat.zero_le _
   ·split
    ·exact Nat.zero_le _
    ·exact ih _ _ (by simp; omega)
theorem XW {v : VV} {s key : List Int} (hs : Bs s) : NL (oQ v s key).1 := by
 have z : NL n0 := ⟨by decide, by decide, by decide⟩;unfold oQ;split
 ·rename_i h0;have w := was hs h0;split
  ·exact z
  ·split
   ·split
    ·split
     ·refine ⟨by show ([] : List FF).length < _; decide, ?_, ?_⟩
      ·show ((iZ s).fs.take _).length < _;have := w.few;rw [List.length_take]; omega
      ·exact Nat.lt_of_le_of_lt (VH _ _ [] (by decide)) (by decide)
     ·exact z
    ·exact z
   ·exact z
 ·exact z
theorem ZX {x : List FF} (hx : FL x) (l : List (List FF)) (N i : Int) (b : Bool) (m : List KK) :
  aZ.l0 .lim (l, N, i, x, (x.length : Int), 0, b, m, ()) = bif (List.range x.length).any (fun k : Nat => decide ((rd f0 x (k : Int)).2.length > 2000)) then some (.inl (false, ())) else some (.inr (l, N, i, b, m, ())) := by
 obtain ⟨h1, h2⟩ := hx;have e := r_ (f := aZ.l0 .lim) (fun k => (l, N, i, x, (x.length : Int), (k : Int), b, m, ())) x.length (fun k : Nat => decide ((rd f0 x (k : Int)).2.length > 2000)) (some (.inl (false, ()))) (fun k hk => by
  rw [aZ.q0];have hb := h2 _ (fC (d := f0) (xs := x) (i := (k : Int)) (by omega) (by omega));have w : IntKind.i64.wrap ((k : Int) + 1) = ((k + 1 : Nat) : Int) := by rw [wrap64 (by omega) (by omega)]; omega
  have hd : decide (((rd f0 x (k : Int)).2.length : Int) > 2000) = decide ((rd f0 x (k : Int)).2.length > 2000) := by
   by_cases q : (rd f0 x (k : Int)).2.length > 2000
   ·rw [au q, au (show ((rd f0 x (k : Int)).2.length : Int) > 2000 by omega)]
   ·rw [aA q, aA (show ¬ ((rd f0 x (k : Int)).2.length : Int) > 2000 by omega)]
  simp only [aZ.b0, au (show (k : Int) < (x.length : Int) by omega), aH (show (0 : Int) <= (k : Int) by omega) (show (k : Int) < (x.length : Int) by omega), cond_true, aF (show (rd f0 x (k : Int)).2.length < 9223372036854775808 by omega), w, hd])
 have e0 : aZ.l0 .lim (l, N, i, x, (x.length : Int), 0, b, m, ()) = _ := e;rw [e0, aZ.q0];simp only [aZ.b0, aA (show ¬ (x.length : Int) < (x.length : Int) by omega), cond_false]
theorem ZY {v : VV} (hv : okV v) {l : List (List FF)} (hl : l.length <= 1000) (hx : ∀ x ∈ l, FL x) : ∃ r, aZ.run .lim (v, l, ()) = some r /\ (r = true -> uG v = true /\ ∀ x ∈ l, x.length <= 40) := by
 have e := LP (f := aZ.l1 .lim) (fun k => (l, (l.length : Int), (k : Int), v.1, v.2, ())) l.length (fun k : Nat => decide ((rd [] l (k : Int)).length > 40) || (List.range (rd [] l (k : Int)).length).any (fun j : Nat => decide ((rd f0 (rd [] l (k : Int)) (j : Int)).2.length > 2000)))
  (fun k => bif decide ((rd [] l (k : Int)).length > 40) then some (.inl (false, ())) else some (.inr (.inl (false, ())))) (fun k hk => by
  rw [aZ.q1];have hm := hx _ (fC (d := ([] : List FF)) (xs := l) (i := (k : Int)) (by omega) (by omega));have hml : (rd [] l (k : Int)).length < 9223372036854775808 := hm.1;have hd : decide (((rd [] l (k : Int)).length : Int) > 40) = decide ((rd [] l (k : Int)).length > 40) := by
   by_cases q : (rd [] l (k : Int)).length > 40
   ·rw [au q, au (show ((rd [] l (k : Int)).length : Int) > 40 by omega)]
   ·rw [aA q, aA (show ¬ ((rd [] l (k : Int)).length : Int) > 40 by omega)]
  simp only [aZ.b1, au (show (k : Int) < (l.length : Int) by omega), aH (show (0 : Int) <= (k : Int) by omega) (show (k : Int) < (l.length : Int) by omega), cond_true, aF hml, hd, ZX hm];cases decide ((rd [] l (k : Int)).length > 40) with
  | true => rfl
  | false =>
   cases (List.range (rd [] l (k : Int)).length).any (fun j : Nat => decide ((rd f0 (rd [] l (k : Int)) (j : Int)).2.length > 2000)) with
   | true => rfl
   | false => simp only [cond_false, Bool.or_self, Option.bind_some, lY k (by omega)])
 obtain ⟨k, hk, e⟩ := e;have e0 : aZ.l1 .lim (l, (l.length : Int), 0, v.1, v.2, ()) = _ := e;obtain ⟨r, er⟩ := OD v hv;have er : aN.run .lim ((v.1, v.2), ()) = _ := er;have ef := Xv v hv;have ef : bG.run .lim ((v.1, v.2), ()) = _ := ef;simp only [aZ.run, aF (show l.length < 9223372036854775808 by omega), cond_true, e0];cases hany : (List.range l.length).any (fun k : Nat => decide ((rd [] l (k : Int)).length > 40) || (List.range (rd [] l (k : Int)).length).any (fun j : Nat => decide ((rd f0 (rd [] l (k : Int)) (j : Int)).2.length > 2000))) with
 | true =>
  simp only [cond_true];refine ⟨false, ?_, fun q => by cases q⟩;cases decide ((rd [] l (k : Int)).length > 40) <;> rfl
 | false =>
  simp only [cond_false];rw [aZ.q1];simp only [aZ.b1, aA (show ¬ (l.length : Int) < (l.length : Int) by omega), cond_false, Option.bind_some, er, sW ef];refine ⟨_, rfl, fun q => ⟨by simp only [Bool.and_eq_true] at q; exact q.2.2, fun x hx => ?_⟩⟩;rw [List.any_eq_false] at hany;obtain ⟨i, hi, rfl⟩ := List.mem_iff_getElem.1 hx;have := hany i (List.mem_range.2 hi);rw [mW hi] at this;simp only [Bool.or_eq_true, decide_eq_true_eq, not_or] at this;omega
end Go.AM
end
section
namespace Go.AM
theorem VI {v : VV} {s key : List Int} (h : (oQ v s key).2 ≠ 0) : (oQ v s key).1 = n0 := by
 unfold oQ at h ⊢
 split
 ·rename_i h0;rw [if_pos h0] at h;revert h;cases qH (iZ s).fs 1028 with
  | none => intro _; rfl
  | some k =>
   simp only;intro h;split
   ·rename_i h1;rw [if_pos h1] at h;split
    ·rename_i h2;rw [if_pos h2] at h;split
     ·rename_i h3;rw [if_pos h3] at h;exact absurd rfl h
     ·rfl
    ·rfl
   ·rfl
 ·rfl
theorem VJ {v : VV} {s key : List Int} (h : (oQ v s key).2 = 0) : Gx s = 0 /\ ∃ k bC sealed, (oQ v s key).1.2.1 = (iZ s).fs.take k /\
  (fM v key [s.take (48 + (aP ((iZ s).fs.take k)).length), bC] sealed).2 = 0 /\
  qL (fM v key [s.take (48 + (aP ((iZ s).fs.take k)).length), bC] sealed).1.length (fM v key [s.take (48 + (aP ((iZ s).fs.take k)).length), bC] sealed).1 [] = ((oQ v s key).1.2.2, 0) := by
 by_cases h0 : Gx s = 0
 case neg => unfold oQ at h; rw [if_neg h0] at h; exact absurd h h0
 refine ⟨h0, ?_⟩;unfold oQ at h ⊢
 rw [if_pos h0] at h ⊢
 revert h;cases qH (iZ s).fs 1028 with
 | none => intro h; exact absurd h (show ¬ (19 : Int) = 0 by decide)
 | some k =>
  simp only;by_cases h1 : (tH (rd f0 (iZ s).fs (k : Int)).2).2.2 = 0
  case neg => rw [if_neg h1]; intro h; exact absurd h h1
  rw [if_pos h1];generalize (tH (rd f0 (iZ s).fs (k : Int)).2).1 = bC;generalize (tH (rd f0 (iZ s).fs (k : Int)).2).2.1 = sealed;by_cases h2 : (fM v key [s.take (48 + (aP ((iZ s).fs.take k)).length), bC] sealed).2 = 0
  case neg => rw [if_neg h2]; intro h; exact absurd h h2
  rw [if_pos h2];generalize ho : fM v key [s.take (48 + (aP ((iZ s).fs.take k)).length), bC] sealed = o at h2;by_cases h3 : (qL o.1.length o.1 []).2 = 0
  case neg => rw [if_neg h3]; intro h; exact absurd h h3
  rw [if_pos h3];intro _;refine ⟨k, bC, sealed, rfl, by rw [ho]; exact h2, ?_⟩;rw [ho, <- h3]
theorem Z4 {v : VV} {s key : List Int} {x : NT} (hl : x.2.1.length <= 16) (hb : ∀ f ∈ x.2.1, f.2.length < 65532) :
  aI.l0 .lim (s, key, 48, x.2.1, (x.2.1.length : Int), 0, v.1, v.2, x.1.1, x.1.2.1, x.1.2.2.1, x.1.2.2.2.1, x.1.2.2.2.2.1, x.1.2.2.2.2.2.1, x.1.2.2.2.2.2.2.1, x.1.2.2.2.2.2.2.2.1, x.1.2.2.2.2.2.2.2.2.1, x.1.2.2.2.2.2.2.2.2.2.1, x.1.2.2.2.2.2.2.2.2.2.2.1, x.1.2.2.2.2.2.2.2.2.2.2.2.1, x.1.2.2.2.2.2.2.2.2.2.2.2.2.1, x.1.2.2.2.2.2.2.2.2.2.2.2.2.2, x.2.1, x.2.2, ()) = some (s, key, ((48 + (aP (x.2.1.take x.2.1.length)).length : Nat) : Int), v.1, v.2, x.1.1, x.1.2.1, x.1.2.2.1, x.1.2.2.2.1, x.1.2.2.2.2.1, x.1.2.2.2.2.2.1, x.1.2.2.2.2.2.2.1, x.1.2.2.2.2.2.2.2.1, x.1.2.2.2.2.2.2.2.2.1, x.1.2.2.2.2.2.2.2.2.2.1, x.1.2.2.2.2.2.2.2.2.2.2.1, x.1.2.2.2.2.2.2.2.2.2.2.2.1, x.1.2.2.2.2.2.2.2.2.2.2.2.2.1, x.1.2.2.2.2.2.2.2.2.2.2.2.2.2, x.2.1, x.2.2, ()) := by
 have hle := MJ hb;have e := dA (f := aI.l0 .lim) (fun j => (s, key, ((48 + (aP (x.2.1.take j)).length : Nat) : Int), x.2.1, (x.2.1.length : Int), (j : Int), v.1, v.2, x.1.1, x.1.2.1, x.1.2.2.1, x.1.2.2.2.1, x.1.2.2.2.2.1, x.1.2.2.2.2.2.1, x.1.2.2.2.2.2.2.1, x.1.2.2.2.2.2.2.2.1, x.1.2.2.2.2.2.2.2.2.1, x.1.2.2.2.2.2.2.2.2.2.1, x.1.2.2.2.2.2.2.2.2.2.2.1, x.1.2.2.2.2.2.2.2.2.2.2.2.1, x.1.2.2.2.2.2.2.2.2.2.2.2.2.1, x.1.2.2.2.2.2.2.2.2.2.2.2.2.2, x.2.1, x.2.2, ())) (n := x.2.1.length) (fun j hj => by
  rw [aI.q0];have hlj := hle j;have hf := hb _ (fC (d := f0) (xs := x.2.1) (i := (j : Int)) (by omega) (by omega));have es : (aP (x.2.1.take (j + 1))).length = (aP (x.2.1.take j)).length + (4 + (rd f0 x.2.1 (j : Int)).2.length) := by rw [qF hj, List.length_append, mJ]
  have w : IntKind.i64.wrap (((48 + (aP (x.2.1.take j)).length : Nat) : Int) + (IntKind.i64.wrap (4 + ((rd f0 x.2.1 (j : Int)).2.length : Int)))) = ((48 + (aP (x.2.1.take (j + 1))).length : Nat) : Int) := by rw [wrap64 (n := 4 + ((rd f0 x.2.1 (j : Int)).2.length : Int)) (by omega) (by omega), wrap64 (by omega) (by omega), es]; omega
  simp only [aI.b0, au (show (j : Int) < (x.2.1.length : Int) by omega), aH (show (0 : Int) <= (j : Int) by omega) (show (j : Int) < (x.2.1.length : Int) by omega), cond_true, aF (show (rd f0 x.2.1 (j : Int)).2.length < 9223372036854775808 from Nat.lt_of_lt_of_le hf (by decide)), w, lY j (by omega)])
 have e0 : aI.l0 .lim (s, key, 48, x.2.1, (x.2.1.length : Int), 0, v.1, v.2, x.1.1, x.1.2.1, x.1.2.2.1, x.1.2.2.2.1, x.1.2.2.2.2.1, x.1.2.2.2.2.2.1, x.1.2.2.2.2.2.2.1, x.1.2.2.2.2.2.2.2.1, x.1.2.2.2.2.2.2.2.2.1, x.1.2.2.2.2.2.2.2.2.2.1, x.1.2.2.2.2.2.2.2.2.2.2.1, x.1.2.2.2.2.2.2.2.2.2.2.2.1, x.1.2.2.2.2.2.2.2.2.2.2.2.2.1, x.1.2.2.2.2.2.2.2.2.2.2.2.2.2, x.2.1, x.2.2, ()) = _ := e;rw [e0, aI.q0];simp only [aI.b0, aA (show ¬ (x.2.1.length : Int) < (x.2.1.length : Int) by omega), cond_false]
def Sv (s key : List Int) (n : Nat) (l : List FF) (q : KK) : Bool := ((decide (q.1 = key) && decide (q.2.1.length = 2)) && decide (rd [] q.2.1 0 = s.take n)) && (decide ((qL q.2.2.1.length q.2.2.1 []).2 = 0) && decide ((qL q.2.2.1.length q.2.2.1 []).1 = l))
theorem SA {p : List Int} {l : List FF} (hb : Bs p) (hp : p.length < 9223372036854775808) (hl : l.length < 9223372036854775808) : iK.run .lim (p, l, ()) = some (decide ((qL p.length p []).2 = 0) && decide ((qL p.length p []).1 = l)) := by
 have ht := VH p.length p [] (by decide);simp only [iK.run, OA hb hp, Option.bind_some, sW (DR (show (qL p.length p []).1.length < 9223372036854775808 by omega) hl)];congr 1;cases decide ((qL p.length p []).2 = 0) <;> rfl
theorem Z5 {v : VV} {s key : List Int} {x : NT} {n : Nat} (hv : okV v) (hvb : vB v) (hn : n <= s.length) (hs : s.length < 9223372036854775808) (hx : x.2.2.length < 9223372036854775808) :
  aI.l1 .lim (s, key, (n : Int), v.2, (v.2.length : Int), 0, x.1.1, x.1.2.1, x.1.2.2.1, x.1.2.2.2.1, x.1.2.2.2.2.1, x.1.2.2.2.2.2.1, x.1.2.2.2.2.2.2.1, x.1.2.2.2.2.2.2.2.1, x.1.2.2.2.2.2.2.2.2.1, x.1.2.2.2.2.2.2.2.2.2.1, x.1.2.2.2.2.2.2.2.2.2.2.1, x.1.2.2.2.2.2.2.2.2.2.2.2.1, x.1.2.2.2.2.2.2.2.2.2.2.2.2.1, x.1.2.2.2.2.2.2.2.2.2.2.2.2.2, x.2.1, x.2.2, ()) = bif (List.range v.2.length).any (fun k : Nat => Sv s key n x.2.2 (rd k0 v.2 (k : Int))) then some (.inl (true, ())) else some (.inr ()) := by
 have h63 := hv.1;have e := r_ (f := aI.l1 .lim) (fun k => (s, key, (n : Int), v.2, (v.2.length : Int), (k : Int), x.1.1, x.1.2.1, x.1.2.2.1, x.1.2.2.2.1, x.1.2.2.2.2.1, x.1.2.2.2.2.2.1, x.1.2.2.2.2.2.2.1, x.1.2.2.2.2.2.2.2.1, x.1.2.2.2.2.2.2.2.2.1, x.1.2.2.2.2.2.2.2.2.2.1, x.1.2.2.2.2.2.2.2.2.2.2.1, x.1.2.2.2.2.2.2.2.2.2.2.2.1, x.1.2.2.2.2.2.2.2.2.2.2.2.2.1, x.1.2.2.2.2.2.2.2.2.2.2.2.2.2, x.2.1, x.2.2, ())) v.2.length (fun k : Nat => Sv s key n x.2.2 (rd k0 v.2 (k : Int))) (some (.inl (true, ()))) (fun k hk => by
  rw [aI.q1];have hm := fC (d := k0) (xs := v.2) (i := (k : Int)) (by omega) (by omega);have hq := hv.2 _ hm;have hqb := hvb _ hm;have hw : IntKind.i64.wrap ((k : Int) + 1) = ((k + 1 : Nat) : Int) := by rw [wrap64 (by omega) (by omega)]; omega
  generalize hg : rd k0 v.2 (k : Int) = q at hq hqb;obtain ⟨o1, o2, o3, o4, o5⟩ := hq;have hcut : cut s 0 (n : Int) = s.take n := qI rfl;have hin : ((!(decide (q.1 = key) && decide (q.2.1.length = 2))) || inB 0 (q.2.1.length : Int)) = true := by
   by_cases h2 : q.2.1.length = 2
   ·rw [h2]; simp [inB]
   ·rw [aA h2]; simp
  have hcb : dG 0 (n : Int) (s.length : Int) = true := aQ (by omega) (by omega) (by omega);have hd2 : decide ((q.2.1.length : Int) = 2) = decide (q.2.1.length = 2) := by
   by_cases h2 : q.2.1.length = 2
   ·rw [au h2, au (show (q.2.1.length : Int) = 2 by omega)]
   ·rw [aA h2, aA (show ¬ (q.2.1.length : Int) = 2 by omega)]
  have hwi := SA (p := q.2.2.1) (l := x.2.2) hqb o4 hx;simp only [aI.b1, au (show (k : Int) < (v.2.length : Int) by omega), aH (show (0 : Int) <= (k : Int) by omega) (show (k : Int) < (v.2.length : Int) by omega), cond_true, hg, aF o2, Bool.or_true, hin, hcb, hcut, sW hwi, Option.bind_some, hd2, Qv, hw];unfold Sv;generalize ((decide (q.1 = key) && decide (q.2.1.length = 2)) && decide (rd [] q.2.1 0 = s.take n)) = b1;cases b1 <;> rfl)
 have e0 : aI.l1 .lim (s, key, (n : Int), v.2, (v.2.length : Int), 0, x.1.1, x.1.2.1, x.1.2.2.1, x.1.2.2.2.1, x.1.2.2.2.2.1, x.1.2.2.2.2.2.1, x.1.2.2.2.2.2.2.1, x.1.2.2.2.2.2.2.2.1, x.1.2.2.2.2.2.2.2.2.1, x.1.2.2.2.2.2.2.2.2.2.1, x.1.2.2.2.2.2.2.2.2.2.2.1, x.1.2.2.2.2.2.2.2.2.2.2.2.1, x.1.2.2.2.2.2.2.2.2.2.2.2.2.1, x.1.2.2.2.2.2.2.2.2.2.2.2.2.2, x.2.1, x.2.2, ()) = _ := e;rw [e0];congr 1;rw [aI.q1];simp only [aI.b1, aA (show ¬ (v.2.length : Int) < (v.2.length : Int) by omega), cond_false]
theorem MP {v : VV} {s key : List Int} (hv : okV v) (hvb : vB v) (hs : s.length < dF) (hsb : Bs s) (hk : key.length < dF) (hkb : Bs key) : aI.run .lim (v, s, key, ()) = some true := by
 have hs' : s.length < 9223372036854775808 := hs;have hk' : key.length < 9223372036854775808 := hk;obtain ⟨r, er, hr⟩ := ZY hv (l := []) (by decide) (fun x hx => by cases hx);simp only [aI.run, er, aF hs', aF hk', Bool.or_true, cond_true, Qv, Option.bind_some];cases hb : v.1 with
 | false => rfl
 | true =>
  simp only [Bool.not_true, Bool.not_false, cond_true, Option.bind_some];cases r with
  | false => rfl
  | true =>
   obtain ⟨hf, _⟩ := hr rfl;by_cases h1 : s.length > 5000
   ·rw [au (show (s.length : Int) > 5000 by omega)]; rfl
   rw [aA (show ¬ (s.length : Int) > 5000 by omega)];by_cases h2 : key.length > 100
   ·rw [au (show (key.length : Int) > 100 by omega)]; rfl
   rw [aA (show ¬ (key.length : Int) > 100 by omega)];obtain ⟨n1, _⟩ := F7 hv hf hvb (key := key) hsb hs' hk hkb;have nl := XW (v := v) (s := s) (key := key) hsb;simp only [Bool.not_true, Bool.or_self, cond_false, n1, Option.bind_some];by_cases h3 : (oQ v s key).2 = 0
   case neg =>
    rw [aA h3, VI h3];have z : NL n0 := ⟨by decide, by decide, by decide⟩;have hz := R_ z z;have hz : iH.run .lim (n0, ((0, (0, (0, (0, (0, (0, (0, (0, (0, (0, (0, (0, (0, ([] : List FF)))))))))))))), (([] : List FF), ([] : List FF))), ()) = _ := hz;simp only [Bool.not_false, cond_true, hz, OL, Option.bind_some, Bool.and_self]
   rw [au h3];obtain ⟨h0, k, bC, sealed, y1, y2, y3⟩ := VJ h3;have w := was hsb h0;have hsl : s.length = 48 + (aP (iZ s).fs).length := by
    have := congrArg List.length w.st;rw [List.length_append, List.length_take, Nat.min_eq_left w.l0] at this;exact this
   have hle := FH (iZ s).fs k;have hok := w.ok;have hfew := w.few;have hx1 : (oQ v s key).1.2.1.length <= 16 := by rw [y1, List.length_take]; omega
   have hx2 : ∀ f ∈ (oQ v s key).1.2.1, f.2.length < 65532 := fun f hf => by
    rw [y1] at hf;exact (hok f (List.mem_of_mem_take hf)).l1
   rw [<- y1] at y2 y3 hle;generalize oQ v s key = X at *;obtain ⟨x, e⟩ := X;simp only at *;have hz := nl.z;generalize hN : 48 + (aP x.2.1).length = n at *;have hsum := Z4 (v := v) (s := s) (key := key) (x := x) hx1 hx2;have hhit := Z5 (v := v) (s := s) (key := key) (x := x) (n := n) hv hvb (by omega) hs' hz;rw [hb] at hsum;have htk : (aP (x.2.1.take x.2.1.length)).length = (aP x.2.1).length := by rw [List.take_length]
   rw [htk, hN] at hsum;simp only [Bool.not_true, cond_false, aF (show x.2.1.length < 9223372036854775808 by omega), cond_true, hsum, Option.bind_some, aF hs', aA (show ¬ (n : Int) > (s.length : Int) by omega), aF hv.1, hhit];have hany : (List.range v.2.length).any (fun k : Nat => Sv s key n x.2.2 (rd k0 v.2 (k : Int))) = true := by
    obtain ⟨b, xs⟩ := v;simp only at hb;subst hb;have y2' : (yH xs key [s.take n, bC] sealed).2 = 0 := y2;obtain ⟨j, hj, ej⟩ := FZ y2';refine List.any_eq_true.2 ⟨j, List.mem_range.2 hj, ?_⟩;have y3' : qL (yH xs key [s.take n, bC] sealed).1.length (yH xs key [s.take n, bC] sealed).1 [] = (x.2.2, 0) := y3;show Sv s key n x.2.2 (rd k0 xs (j : Int)) = true;rw [ej];unfold Sv;simp only [y3'];simp [rd]
   rw [hany];rfl
theorem JX : ∀ x, oks [.ag y9, .one .str, .one .str] x -> aI.run .lim x = some true := by
 intro x h
 match x with
 | (v, s, key, ()) =>
  obtain ⟨h1, h2, h3, _⟩ := h;exact MP (ok_v h1) (v_B h1) (MF h2.1) h2.2 (MF h3.1) h3.2
end Go.AM
end
