import Derived.Test.YtmcceacnjpedeaaGreatPart3

/-! The functions that the laws of this seat reach, as plain functions, and what these answer; no condition. -/
set_option linter.unusedSimpArgs false
set_option linter.unusedVariables false

section
namespace Go.AM
theorem kJ {n : Nat} (h : n < 9223372036854775808) : n < dG := h
def dU (a b : List Int) : List Int := tab a.length fun i => dP .u8 (rd 0 a (i : Int)) (rd 0 b (i : Int))
@[simp] theorem fC (a b : List Int) : (dU a b).length = a.length := jf
theorem UQ (a b : List Int) : Bs (dU a b) := Ij fun _ _ => CX _ _
theorem xQ {a b : List Int} {k : Nat} (h : k < a.length) : rd 0 (dU a b) (k : Int) = dP .u8 (rd 0 a (k : Int)) (rd 0 b (k : Int)) := mJ h
theorem RU {a b : List Int} (h : a.length = b.length) : dU a b = dU b a := by unfold dU; rw [h]; exact ji fun k _ => xor_comm _ _
theorem FQ {a b c : List Int} (h : a.length = b.length) : dU (dU a b) c = dU a (dU b c) := by
 show tab (dU a b).length _ = tab a.length _;rw [fC];refine ji fun k hk => ?_
 rw [xQ hk, xQ (show k < b.length by omega), xor_assoc]
theorem RV {a b : List Int} (h : a.length <= b.length) (ha : Bs a) : dU (dU a b) b = a := by
 refine BG (d := 0) (by simp) fun k hk => ?_
 rw [fC, fC] at hk;rw [xQ (by simpa using hk), xQ hk, xor_assoc, xor_self, xor_zero (ha _ (fJ (by omega) (by omega)))]
theorem pK {a b : List Int} (h : a.length <= b.length) (hb : b.length < 1000000000000) : gU.run .lim (a, b, ()) = some (dU a b) := by
 have e := iT (f := gU.l0 .lim) (fun k m => (b, (a.length : Int), (k : Int), m, ())) (fun k v => dP .u8 v (rd 0 b (k : Int))) a rfl (fun k hk m' hm hj => by
  rw [gU.q0];simp only [gU.b0, au (show (k : Int) < (a.length : Int) by omega), hm, aH (show (0 : Int) <= k by omega) (show (k : Int) < (a.length : Int) by omega), aH (show (0 : Int) <= k by omega) (show (k : Int) < (b.length : Int) by omega), cond_true, mM k (by omega), hj k (Nat.le_refl _), Int.toNat_natCast])
 simp only [gU.run, aF (show a.length < 9223372036854775808 by omega), cond_true];rw [show (0 : Int) = ((0 : Nat) : Int) from rfl, e, gU.q0];simp only [gU.b0, aA (show ¬ (a.length : Int) < (a.length : Int) by omega), cond_false, Option.bind_some];rfl
theorem mO {a b : List Int} (h : a.length <= b.length) (hb : b.length < 1000000000000) : aX.run .lim (a, b, ()) = some (dU a b) := by
 have e := dB (f := aX.l0 .lim) (fun k => (a, b, (k : Int), mV a.length k (fun i => dP .u8 (rd 0 a (i : Int)) (rd 0 b (i : Int))), ())) (n := a.length) (fun k hk => by
  rw [aX.q0];simp only [aX.b0, aF (show a.length < 9223372036854775808 by omega), wV, au (show (k : Int) < (a.length : Int) by omega), aH (show (0 : Int) <= k by omega) (show (k : Int) < (a.length : Int) by omega), aH (show (0 : Int) <= k by omega) (show (k : Int) < (b.length : Int) by omega), cond_true, mM k (by omega), Int.toNat_natCast];rw [oG rfl])
 have hb2 : Nat.blt a.length 70368744177664 = true := by rw [Nat.blt_eq]; omega
 rw [nM, show ((0 : Nat) : Int) = 0 from rfl] at e;simp only [aX.run, aF (show a.length < 9223372036854775808 by omega), cond_true, au (show (0 : Int) <= (a.length : Int) by omega), au (Int.le_refl (a.length : Int)), Int.toNat_natCast, hb2, Bool.and_self, e];rw [aX.q0];simp only [aX.b0, aF (show a.length < 9223372036854775808 by omega), aA (show ¬ (a.length : Int) < (a.length : Int) by omega), cond_true, cond_false, Option.bind_some, rY];rfl
theorem Yq : ∀ n : Nat, Dq [0] n = List.replicate n 0
 | 0 => rfl
 | n + 1 => by rw [Dq, Yq n]; rfl
theorem qF {n : Nat} (h : n <= 1000000) : iL.run .lim ((n : Int), ()) = some (List.replicate n 0) := by
 have : strings_Repeat.run .lim ([0], (n : Int), ()) = some (List.replicate n 0) := by
  show LW _ = _;unfold LW;rw [cond_pos (by simp; omega), Int.toNat_natCast, Yq]
 simp only [iL.run, this, Option.bind_some]
theorem xR {n : Nat} (h : n <= 1000000) : dF.run .lim ((n : Int), ()) = some (List.replicate n 0) := by
 have hb2 : Nat.blt n 70368744177664 = true := by rw [Nat.blt_eq]; omega
 simp only [dF.run, au (show (0 : Int) <= (n : Int) by omega), au (Int.le_refl (n : Int)), Int.toNat_natCast, hb2, Bool.and_self, cond_true]
def J9 (b : List Int) (i : Nat) : Int := if i = 15 then fB .u8 (rd 0 b 15) 1 else oL .u8 (fB .u8 (rd 0 b (i : Int)) 1) (iZ .u8 (rd 0 b ((i + 1 : Nat) : Int)) 7)
def vF (b : List Int) : List Int := if rd 0 b 0 >= 128 then (tab 16 (J9 b)).set 15 (dP .u8 (fB .u8 (rd 0 b 15) 1) 135) else tab 16 (J9 b)
theorem Yr (b : List Int) (i : Nat) : B8 (J9 b i) := by unfold J9; split <;> first | exact Qg _ _ | exact or_B _ _
theorem lT (b : List Int) : C_ (vF b) := by
 unfold vF;split
 ·refine ⟨by simp, fun x hx => ?_⟩;rcases List.mem_or_eq_of_mem_set hx with h | rfl
  ·exact Ij (fun k _ => Yr b k) x h
  ·exact CX _ _
 ·exact ⟨jf, Ij fun k _ => Yr b k⟩
theorem or_zero {a : Int} (h : B8 a) : oL .u8 a 0 = a := by
 show IntKind.u8.wrap (BitVec.ofInt 8 a ||| BitVec.ofInt 8 0).toNat = a;rw [show BitVec.ofInt 8 0 = 0#8 from rfl, BitVec.or_zero, BitVec.toNat_ofInt, jY];unfold B8 at h;omega
def V9 (b : List Int) (k : Nat) : List Int := tab 16 fun i => if k <= i then J9 b i else rd 0 b (i : Int)
theorem XB {b : List Int} {k : Nat} (hk : k < 16) : (V9 b (k + 1)).set k (J9 b k) = V9 b k := by
 unfold V9;rw [DJ];refine ji fun i _ => ?_
 by_cases h1 : i = k
 ·subst h1; rw [if_pos rfl, if_pos (Nat.le_refl _)]
 ·rw [if_neg h1];by_cases h2 : k <= i
  ·rw [if_pos h2, if_pos (by omega)]
  ·rw [if_neg h2, if_neg (by omega)]
theorem Zz {b : List Int} {k : Nat} (hk : k < 16) : rd 0 (V9 b (k + 1)) (k : Int) = rd 0 b (k : Int) := by unfold V9; rw [mJ hk, if_neg (by omega)]
theorem ZA {x : Int} (h : B8 x) : IntKind.u8.wrap (iZ .u8 x 7 * 135) = if x >= 128 then 135 else 0 :=
 iM (p := fun x => IntKind.u8.wrap (iZ .u8 x 7 * 135) = if x >= 128 then 135 else 0) (by decide +kernel) h
theorem RX {b : List Int} (hb : C_ b) : jM.run .lim (b, ()) = some (vF b, 0, ()) := by
 obtain ⟨hl, hB⟩ := hb;have h0 : ∀ (b : List Int), tab 16 (fun i => if 16 <= i then J9 b i else rd 0 b (i : Int)) = tab 16 fun i => rd 0 b (i : Int) := fun b => ji fun i hi => by rw [if_neg (by omega)]
 have e := dB (f := jM.l0 .lim) (fun k => ((15 : Int) - (k : Int), (if k = 0 then 0 else iZ .u8 (rd 0 b ((16 - k : Nat) : Int)) 7 : Int), V9 b (16 - k), ())) (n := 16) (fun k hk => by
  rw [jM.q0];have ei : (15 : Int) - (k : Int) = ((15 - k : Nat) : Int) := by omega
  have w1 : IntKind.i64.wrap (((15 - k : Nat) : Int) - 1) = (15 : Int) - ((k + 1 : Nat) : Int) := by rw [wrap64 (by omega) (by omega)]; omega
  have hr := Zz (b := b) (k := 15 - k) (by omega);have hs := XB (b := b) (k := 15 - k) (by omega);rw [show 15 - k + 1 = 16 - k by omega] at hr hs;have hx : B8 (rd 0 b ((15 - k : Nat) : Int)) := hB _ (fJ (by omega) (by omega));have hg : oL .u8 (fB .u8 (rd 0 b ((15 - k : Nat) : Int)) 1) (if k = 0 then 0 else iZ .u8 (rd 0 b ((16 - k : Nat) : Int)) 7) = J9 b (15 - k) := by
   unfold J9;by_cases hk0 : k = 0
   ·subst hk0; rw [if_pos rfl, if_pos (by omega), or_zero (Qg _ _)]; rfl
   ·rw [if_neg hk0, if_neg (by omega), show 15 - k + 1 = 16 - k by omega]
  have hl2 : (V9 b (16 - k)).length = 16 := jf;rw [ei];simp only [jM.b0, au (show ((15 - k : Nat) : Int) >= 0 by omega), hl2, aH (show (0 : Int) <= ((15 - k : Nat) : Int) by omega) (show ((15 - k : Nat) : Int) < ((16 : Nat) : Int) by omega), cond_true, hr, w1, Int.toNat_natCast, hg, hs];rw [if_neg (by omega), show 16 - (k + 1) = 15 - k by omega])
 have hst : V9 b 16 = b := by unfold V9; rw [h0, <- Fv hl]
 have w0 : IntKind.i64.wrap ((b.length : Int) - 1) = 15 := by rw [wrap64 (by omega) (by omega)]; omega
 rw [Nat.sub_zero, hst, if_pos rfl, show (15 : Int) - ((0 : Nat) : Int) = 15 from rfl, if_neg (by omega), Nat.sub_self] at e;have e0 : V9 b 0 = tab 16 (J9 b) := ji fun i _ => by rw [if_pos (Nat.zero_le _)]
 simp only [jM.run, aF (show b.length < 9223372036854775808 by omega), cond_true, au (show (b.length : Int) = 16 by omega), Bool.not_true, cond_false, w0, e, e0];rw [jM.q0];have hx0 : B8 (rd 0 b ((0 : Nat) : Int)) := hB _ (fJ (by omega) (by omega));simp only [jM.b0, aA (show ¬ ((15 : Int) - ((16 : Nat) : Int) >= 0) by omega), cond_false, Option.bind_some, jf, aH (show (0 : Int) <= 15 by omega) (show (15 : Int) < ((16 : Nat) : Int) by omega), cond_true, ZA hx0];have h15 : rd 0 (tab 16 (J9 b)) 15 = fB .u8 (rd 0 b 15) 1 := by
  have := mJ (n := 16) (g := J9 b) (k := 15) (by omega);rw [show ((15 : Nat) : Int) = 15 from rfl] at this;rw [this]; rfl
 rw [h15];unfold vF;rw [show ((0 : Nat) : Int) = 0 from rfl];by_cases hc : rd 0 b 0 >= 128
 ·rw [if_pos hc, if_pos hc]
 ·rw [if_neg hc, if_neg hc, xor_zero (Qg _ _), DJ];congr 2
theorem uH {b : List Int} (hb : C_ b) : kQ.run .lim (b, ()) = some (vF b) := by simp only [kQ.run, RX hb, Option.bind_some]
theorem xU {b : List Int} (hb : C_ b) : bH.run .lim (b, ()) = some (vF b) := by
 obtain ⟨hl, hB⟩ := hb;have e := dB (f := bH.l0 .lim) (fun k => (b, (k : Int), mV 16 k (J9 b), ())) (n := 16) (fun k hk => by
  rw [bH.q0];have hg1 : k < 15 -> oL .u8 (fB .u8 (rd 0 b (k : Int)) 1) (iZ .u8 (rd 0 b ((k + 1 : Nat) : Int)) 7) = J9 b k := fun h => by unfold J9; rw [if_neg (by omega)]
  simp only [bH.b0, au (show (k : Int) < 16 by omega), hl, wV, List.length_set, aH (show (0 : Int) <= k by omega) (show (k : Int) < ((16 : Nat) : Int) by omega), cond_true, mM k (by omega), Int.toNat_natCast];by_cases hk15 : k < 15
  ·rw [au (show (k : Int) < 15 by omega), aH (show (0 : Int) <= ((k + 1 : Nat) : Int) by omega) (show ((k + 1 : Nat) : Int) < ((16 : Nat) : Int) by omega), uj (by simpa using hk), hg1 hk15, List.set_set, oG rfl];rfl
  ·have : k = 15 := by omega
   subst this;rw [aA (show ¬ ((15 : Nat) : Int) < 15 by omega), oG (by unfold J9; rw [if_pos rfl]; rfl)];rfl)
 rw [nM, show ((0 : Nat) : Int) = 0 from rfl] at e;simp only [bH.run, show Nat.blt 16 70368744177664 = true from rfl, cond_true, e];rw [bH.q0];have h15 : rd 0 (tab 16 (J9 b)) 15 = fB .u8 (rd 0 b 15) 1 := by
  have := mJ (n := 16) (g := J9 b) (k := 15) (by omega);rw [show ((15 : Nat) : Int) = 15 from rfl] at this;rw [this]; rfl
 simp only [bH.b0, aA (show ¬ ((16 : Nat) : Int) < 16 by omega), cond_false, Option.bind_some, hl, aH (show (0 : Int) <= 0 by omega) (show (0 : Int) < ((16 : Nat) : Int) by omega), cond_true, rY, jf, aH (show (0 : Int) <= 15 by omega) (show (15 : Int) < ((16 : Nat) : Int) by omega), h15];unfold vF;by_cases hc : rd 0 b 0 >= 128
 ·rw [au hc, if_pos hc]; rfl
 ·rw [aA hc, if_neg hc]; rfl
def uI (s : List Int) : List Int := s ++ (128 :: List.replicate (15 - s.length) 0)
theorem mP {s : List Int} (h : s.length < 16) : (uI s).length = 16 := by simp [uI]; omega
noncomputable def oW (key s : List Int) : Nat -> List Int
 | 0 => CZ
 | k + 1 => encS key (dU (oW key s k) ((s.drop (16 * k)).take 16))
theorem JO (key s : List Int) : ∀ k, C_ (oW key s k)
 | 0 => ⟨rfl, fun x hx => by rw [(List.mem_replicate.1 hx).2]; exact ⟨by decide, by decide⟩⟩
 | _ + 1 => pI _ _
noncomputable def xw (key : List Int) : List Int := vF (encS key CZ)
noncomputable def gG (key s : List Int) : List Int := if s.length = 16 then dU s (xw key) else dU (uI s) (vF (xw key))
noncomputable def uZ (key s : List Int) : List Int := encS key (dU (oW key s ((s.length - 1) / 16)) (gG key (s.drop (16 * ((s.length - 1) / 16)))))
theorem zl (key s : List Int) : C_ (uZ key s) := pI _ _
theorem xW {key b : List Int} (hk : key.length = 16 \/ key.length = 32) (hb : b.length = 16) : encR key b = (encS key b, 0) := by unfold encR; rw [if_pos hk, if_pos hb]
theorem RY {key s : List Int} (h : s.length <= 16) : (gG key s).length = 16 := by
 unfold gG;split
 ·simpa
 ·rw [fC, mP (by omega)]
section
variable {key s : List Int}
theorem AA (hk : key.length = 16 \/ key.length = 32) (hkb : Bs key) (hs : s.length < dG) : dQ.run .lim ((key, xw key, vF (xw key)), s, ()) = some (uZ key s) := by
 have z := qF (n := 16) (by omega);have hloop := dB (f := dQ.l0 .lim) (fun k => (s.drop (16 * k), key, xw key, vF (xw key), oW key s k, key, xw key, vF (xw key), ())) (n := (s.length - 1) / 16) (fun k hk' => by
  rw [dQ.q0];have hl : (s.drop (16 * k)).length = s.length - 16 * k := List.length_drop;have hc := JO key s k;have h1 : cut (s.drop (16 * k)) 0 16 = (s.drop (16 * k)).take 16 := by have := mW (s.drop (16 * k)) 0 16; simpa using this
  have h2 : cut (s.drop (16 * k)) 16 ((s.drop (16 * k)).length : Int) = s.drop (16 * (k + 1)) := by
   have := mW (s.drop (16 * k)) 16 (s.drop (16 * k)).length;rw [show ((16 : Nat) : Int) = 16 from rfl] at this;rw [this, List.drop_drop, List.take_of_length_le (by rw [List.length_drop]; omega)];congr 1
  have hx := pK (a := oW key s k) (b := (s.drop (16 * k)).take 16) (by rw [hc.1, List.length_take]; omega) (by rw [List.length_take]; omega);have he := xq (key := key) (b := dU (oW key s k) ((s.drop (16 * k)).take 16)) (kJ (by omega)) (by rw [fC, hc.1]; decide) hkb;rw [xW hk (by rw [fC, hc.1])] at he;have hlim : s.length < 9223372036854775808 := hs;simp only [dQ.b0, aF (show (s.drop (16 * k)).length < 9223372036854775808 by omega), au (show ((s.drop (16 * k)).length : Int) > 16 by omega), aP (show (0 : Int) <= 0 by omega) (show (0 : Int) <= 16 by omega) (show (16 : Int) <= ((s.drop (16 * k)).length : Int) by omega), aP (show (0 : Int) <= 16 by omega) (show (16 : Int) <= ((s.drop (16 * k)).length : Int) by omega) (Int.le_refl _), cond_true, h1, h2, hx, he, Option.bind_some];rfl)
 simp only [dQ.run];rw [show (16 : Int) = ((16 : Nat) : Int) from rfl, z];simp only [Option.bind_some];rw [Nat.mul_zero, List.drop_zero, show oW key s 0 = CZ from rfl] at hloop;rw [hloop];generalize hq : (s.length - 1) / 16 = q;have hl : (s.drop (16 * q)).length = s.length - 16 * q := List.length_drop;have hlim : s.length < 9223372036854775808 := hs;rw [dQ.q0];have hc := JO key s q;have h16 : (s.drop (16 * q)).length <= 16 := by omega
 simp only [dQ.b0, aF (show (s.drop (16 * q)).length < 9223372036854775808 by omega), aA (show ¬ ((s.drop (16 * q)).length : Int) > 16 by omega), cond_true, cond_false, Option.bind_some];have he := xq (key := key) (b := dU (oW key s q) (gG key (s.drop (16 * q)))) (kJ (by omega)) (by rw [fC, hc.1]; decide) hkb;rw [xW hk (by rw [fC, hc.1])] at he;have hll := RY (key := key) h16;have hx2 := pK (a := oW key s q) (b := gG key (s.drop (16 * q))) (by rw [hc.1, hll]; omega) (by omega);have hcm : uZ key s = encS key (dU (oW key s q) (gG key (s.drop (16 * q)))) := by unfold uZ; rw [hq]
 rw [hcm];generalize hm : s.drop (16 * q) = m at *;by_cases h3 : m.length = 16
 ·rw [au (show (m.length : Int) = ((16 : Nat) : Int) by omega)];have hx1 := pK (a := m) (b := xw key) (by rw [h3, show (xw key).length = 16 from (lT _).1]; omega) (by rw [show (xw key).length = 16 from (lT _).1]; omega);have hls : gG key m = dU m (xw key) := by unfold gG; rw [if_pos h3]
  rw [hls] at hx2 he ⊢
  simp only [cond_true, hx1, Option.bind_some, hx2, he]
 ·rw [aA (show ¬ (m.length : Int) = ((16 : Nat) : Int) by omega)];have hls : gG key m = dU (uI m) (vF (xw key)) := by unfold gG; rw [if_neg h3]
  have w15 : IntKind.i64.wrap (15 - (m.length : Int)) = ((15 - m.length : Nat) : Int) := by rw [wrap64 (by omega) (by omega)]; omega
  have hz := qF (n := 15 - m.length) (by omega);have ZB : (m ++ [128]) ++ List.replicate (15 - m.length) (0 : Int) = uI m := by unfold uI; simp
  have hx1 := pK (a := uI m) (b := vF (xw key)) (by rw [mP (by omega), (lT _).1]; omega) (by rw [(lT _).1]; omega);rw [hls] at hx2 he ⊢
  simp only [cond_false];rw [cond_pos (au (by unfold maxStr; simp; omega)), w15, hz];simp only [Option.bind_some];rw [cond_pos (au (by unfold maxStr; simp; omega)), ZB, hx1];simp only [Option.bind_some, hx2, he]
theorem Iu {m : List Int} (h : m.length < 16) : fM.run .lim (m, ()) = some (uI m) := by
 have hz := xR (n := 16) (by omega);simp only [fM.run];rw [cond_pos (au (by unfold maxStr; simp; omega)), show (16 : Int) = ((16 : Nat) : Int) from rfl, hz];simp only [Option.bind_some];rw [cond_pos (au (by unfold maxStr; simp; omega)), cond_pos (aP (by omega) (by omega) (by simp; omega))];congr 1;have := mW ((m ++ [128]) ++ List.replicate 16 (0 : Int)) 0 16;rw [show ((0 : Nat) : Int) = 0 from rfl] at this;rw [this, List.drop_zero, Nat.sub_zero, List.append_assoc, List.take_append, List.take_of_length_le (by omega)];unfold uI;congr 1;obtain ⟨p, hp⟩ : ∃ p, 16 - m.length = p + 1 := ⟨15 - m.length, by omega⟩;rw [hp, show 15 - m.length = p by omega, List.singleton_append, List.take_succ_cons, List.take_replicate];congr 2;omega
theorem xA (hk : key.length = 16 \/ key.length = 32) (hkb : Bs key) (hs : s.length < dG) : bT.run .lim (key, s, ()) = some (uZ key s) := by
 have z := xR (n := 16) (by omega);have UR : (List.replicate 16 (0 : Int)).length = 16 := rfl;have e0 := uy (key := key) (b := CZ) (kJ (by omega)) (by rw [UR]; decide) hkb;rw [xW hk UR] at e0;have hloop := dB (f := bT.l0 .lim) (fun k => (key, s.drop (16 * k), xw key, oW key s k, ())) (n := (s.length - 1) / 16) (fun k hk' => by
  rw [bT.q0];have hl : (s.drop (16 * k)).length = s.length - 16 * k := List.length_drop;have hc := JO key s k;have h1 : cut (s.drop (16 * k)) 0 16 = (s.drop (16 * k)).take 16 := by have := mW (s.drop (16 * k)) 0 16; simpa using this
  have h2 : cut (s.drop (16 * k)) 16 ((s.drop (16 * k)).length : Int) = s.drop (16 * (k + 1)) := by
   have := mW (s.drop (16 * k)) 16 (s.drop (16 * k)).length;rw [show ((16 : Nat) : Int) = 16 from rfl] at this;rw [this, List.drop_drop, List.take_of_length_le (by rw [List.length_drop]; omega)];congr 1
  have hx := mO (a := oW key s k) (b := (s.drop (16 * k)).take 16) (by rw [hc.1, List.length_take]; omega) (by rw [List.length_take]; omega);have he := uy (key := key) (b := dU (oW key s k) ((s.drop (16 * k)).take 16)) (kJ (by omega)) (by rw [fC, hc.1]; decide) hkb;rw [xW hk (by rw [fC, hc.1])] at he;have hlim : s.length < 9223372036854775808 := hs;simp only [bT.b0, aF (show (s.drop (16 * k)).length < 9223372036854775808 by omega), au (show ((s.drop (16 * k)).length : Int) > 16 by omega), aP (show (0 : Int) <= 0 by omega) (show (0 : Int) <= 16 by omega) (show (16 : Int) <= ((s.drop (16 * k)).length : Int) by omega), aP (show (0 : Int) <= 16 by omega) (show (16 : Int) <= ((s.drop (16 * k)).length : Int) by omega) (Int.le_refl _), cond_true, h1, h2, hx, he, Option.bind_some];rfl)
 simp only [bT.run];rw [show (16 : Int) = ((16 : Nat) : Int) from rfl, z];simp only [Option.bind_some, e0, xU (pI _ _)];rw [Nat.mul_zero, List.drop_zero, show oW key s 0 = CZ from rfl] at hloop;rw [show vF (encS key CZ) = xw key from rfl, hloop];generalize hq : (s.length - 1) / 16 = q;have hl : (s.drop (16 * q)).length = s.length - 16 * q := List.length_drop;have hlim : s.length < 9223372036854775808 := hs;rw [bT.q0];have hc := JO key s q;have h16 : (s.drop (16 * q)).length <= 16 := by omega
 have he := uy (key := key) (b := dU (oW key s q) (gG key (s.drop (16 * q)))) (kJ (by omega)) (by rw [fC, hc.1]; decide) hkb;rw [xW hk (by rw [fC, hc.1])] at he;have hcm : uZ key s = encS key (dU (oW key s q) (gG key (s.drop (16 * q)))) := by unfold uZ; rw [hq]
 rw [hcm];simp only [bT.b0, aF (show (s.drop (16 * q)).length < 9223372036854775808 by omega), aA (show ¬ ((s.drop (16 * q)).length : Int) > 16 by omega), cond_true, cond_false, Option.bind_some];generalize hm : s.drop (16 * q) = m at *;have hk1 : (xw key).length = 16 := (lT _).1;by_cases h3 : m.length = 16
 ·rw [aA (show ¬ (m.length : Int) < ((16 : Nat) : Int) by omega)];have hx1 := mO (a := oW key s q) (b := m) (by rw [h3, hc.1]; omega) (by omega);have hx2 := mO (a := dU (oW key s q) m) (b := xw key) (by rw [fC, hc.1, hk1]; omega) (by omega);have hls : dU (dU (oW key s q) m) (xw key) = dU (oW key s q) (gG key m) := by unfold gG; rw [if_pos h3, FQ (by rw [hc.1, h3])]
  simp only [cond_false, hx1, Option.bind_some, hx2, hls, he]
 ·rw [au (show (m.length : Int) < ((16 : Nat) : Int) by omega)];have hp := mP (s := m) (by omega);have ht : (vF (xw key)).length = 16 := (lT _).1;have hx1 := mO (a := oW key s q) (b := uI m) (by rw [hp, hc.1]; omega) (by omega);have hx2 := mO (a := dU (oW key s q) (uI m)) (b := vF (xw key)) (by rw [fC, hc.1, ht]; omega) (by omega);have hls : dU (dU (oW key s q) (uI m)) (vF (xw key)) = dU (oW key s q) (gG key m) := by unfold gG; rw [if_neg h3, FQ (by rw [hc.1, hp])]
  simp only [cond_true, Iu (show m.length < 16 by omega), xU (show C_ (xw key) from lT _), hx1, Option.bind_some, hx2, hls, he]
end
end Go.AM
end
section
namespace Go.AM
noncomputable def yK (key : List Int) (l : List (List Int)) : Nat -> List Int
 | 0 => uZ key CZ
 | k + 1 => dU (vF (yK key l k)) (uZ key (rd [] l (k : Int)))
noncomputable def s2E (key d s : List Int) : List Int :=
 if s.length < 16 then uZ key (dU (uI s) (vF d)) else uZ key (s.take (s.length - 16) ++ dU (s.drop (s.length - 16)) d)
noncomputable def FT (key : List Int) (l : List (List Int)) : List Int :=
 if l.length = 0 then uZ key (List.replicate 15 0 ++ [1]) else s2E key (yK key l (l.length - 1)) (rd [] l ((l.length - 1 : Nat) : Int))
theorem JQ (key : List Int) (l : List (List Int)) : ∀ k, C_ (yK key l k)
 | 0 => zl _ _
 | k + 1 => ⟨by rw [yK, fC, (lT _).1], UQ _ _⟩
theorem BN (key : List Int) (l : List (List Int)) : C_ (FT key l) := by
 unfold FT s2E;split
 ·exact zl _ _
 ·split <;> exact zl _ _
theorem ZC (key : List Int) : C_ (xw key) := lT _
theorem RZ {key : List Int} (hk : key.length = 16 \/ key.length = 32) (hkb : Bs key) : r_.run .lim (key, ()) = some ((key, (xw key, vF (xw key))), 0, ()) := by
 have z := qF (n := 16) (by omega);have UR : (List.replicate 16 (0 : Int)).length = 16 := rfl;have he := xq (key := key) (b := CZ) (kJ (by omega)) (by rw [UR]; decide) hkb;rw [xW hk UR] at he;simp only [r_.run];rw [show (16 : Int) = ((16 : Nat) : Int) from rfl, z];simp only [Option.bind_some, he, decide_true, Bool.not_true, cond_false, uH (pI key CZ)];rw [show vF (encS key CZ) = xw key from rfl, uH (ZC key)];rfl
section
variable {key : List Int}
theorem Qv {l : List (List Int)} (hk : key.length = 16 \/ key.length = 32) (hkb : Bs key) (hl : l.length < dG) (hs : ∀ s ∈ l, s.length < dG) :
  eX.run .lim ((key, (xw key, vF (xw key))), l, ()) = some (FT key l) := by
 have hlim : l.length < 9223372036854775808 := hl;simp only [eX.run, aF hlim, cond_true];unfold FT;by_cases h0 : l.length = 0
 ·rw [au (show (l.length : Int) = 0 by omega), if_pos h0];have z := qF (n := 15) (by omega);simp only [cond_true];rw [show (15 : Int) = ((15 : Nat) : Int) from rfl, z];simp only [Option.bind_some];rw [cond_pos (by decide), AA hk hkb (by decide)];rfl
 ·rw [aA (show ¬ (l.length : Int) = 0 by omega), if_neg h0];have z := qF (n := 16) (by omega);have w1 : IntKind.i64.wrap ((l.length : Int) - 1) = ((l.length - 1 : Nat) : Int) := by rw [wrap64 (by omega) (by omega)]; omega
  have hc : cut l 0 ((l.length - 1 : Nat) : Int) = l.take (l.length - 1) := by
   have := mW l 0 (l.length - 1);rw [show ((0 : Nat) : Int) = 0 from rfl] at this;rw [this, List.drop_zero, Nat.sub_zero]
  have htl : (l.take (l.length - 1)).length = l.length - 1 := by rw [List.length_take]; omega
  generalize hs1 : rd ([] : List Int) l ((l.length - 1 : Nat) : Int) = s;have hsl : s.length < 9223372036854775808 := by rw [<- hs1]; exact hs _ (fJ (by omega) (by omega))
  have hloop := dB (f := eX.l0 .lim) (fun k => (yK key l k, s, l.take (l.length - 1), ((l.length - 1 : Nat) : Int), (k : Int), key, xw key, vF (xw key), ())) (n := l.length - 1) (fun k hk' => by
   rw [eX.q0];have hok := JQ key l k;have ht := AA (key := key) (s := rd [] l (k : Int)) hk hkb (hs _ (fJ (by omega) (by omega)));have hx := pK (a := vF (yK key l k)) (b := uZ key (rd [] l (k : Int))) (by rw [(lT _).1, (zl _ _).1]; omega) (by rw [(zl _ _).1]; omega);simp only [eX.b0, au (show (k : Int) < ((l.length - 1 : Nat) : Int) by omega), htl, aH (show (0 : Int) <= k by omega) (show (k : Int) < ((l.length - 1 : Nat) : Int) by omega), pG (d := ([] : List Int)) (xs := l) hk', cond_true, uH hok, Option.bind_some, ht, hx, wk k (by omega)];rfl)
  rw [show yK key l 0 = uZ key CZ from rfl, show ((0 : Nat) : Int) = 0 from rfl] at hloop;simp only [cond_false];rw [show (16 : Int) = ((16 : Nat) : Int) from rfl, z];simp only [Option.bind_some, AA hk hkb (show (List.replicate 16 (0 : Int)).length < dG by decide), w1, aH (show (0 : Int) <= ((l.length - 1 : Nat) : Int) by omega) (show ((l.length - 1 : Nat) : Int) < (l.length : Int) by omega), aP (Int.le_refl 0) (show (0 : Int) <= ((l.length - 1 : Nat) : Int) by omega) (show ((l.length - 1 : Nat) : Int) <= (l.length : Int) by omega), cond_true, hc, htl, aF (show l.length - 1 < 9223372036854775808 by omega), hs1];rw [hloop, eX.q0];simp only [eX.b0, aA (show ¬ ((l.length - 1 : Nat) : Int) < ((l.length - 1 : Nat) : Int) by omega), cond_false, Option.bind_some, aF hsl, cond_true];have w2 : IntKind.i64.wrap ((s.length : Int) - ((16 : Nat) : Int)) = (s.length : Int) - 16 := by rw [wrap64 (by omega) (by omega)]; omega
  rw [w2];have hd := JQ key l (l.length - 1);unfold s2E;by_cases h3 : s.length < 16
  ·rw [aA (show ¬ ((s.length : Int) - 16 >= 0) by omega), if_pos h3];have w15 : IntKind.i64.wrap (15 - (s.length : Int)) = ((15 - s.length : Nat) : Int) := by rw [wrap64 (by omega) (by omega)]; omega
   have hz := qF (n := 15 - s.length) (by omega);have ZB : (s ++ [128]) ++ List.replicate (15 - s.length) (0 : Int) = uI s := by unfold uI; simp
   have hx := pK (a := uI s) (b := vF (yK key l (l.length - 1))) (by rw [mP h3, (lT _).1]; omega) (by rw [(lT _).1]; omega);simp only [cond_false];rw [cond_pos (au (by unfold maxStr; simp; omega)), w15, hz];simp only [Option.bind_some];rw [cond_pos (au (by unfold maxStr; simp; omega)), ZB];simp only [uH hd, Option.bind_some, hx];rw [AA hk hkb (by rw [fC, mP h3]; decide)];rfl
  ·rw [au (show (s.length : Int) - 16 >= 0 by omega), if_neg h3];have e16 : (s.length : Int) - 16 = ((s.length - 16 : Nat) : Int) := by omega
   have hc1 : cut s ((s.length - 16 : Nat) : Int) (s.length : Int) = s.drop (s.length - 16) := by rw [mW, List.take_of_length_le (by rw [List.length_drop]; omega)]
   have hc2 : cut s 0 ((s.length - 16 : Nat) : Int) = s.take (s.length - 16) := by
    have := mW s 0 (s.length - 16);rw [show ((0 : Nat) : Int) = 0 from rfl] at this;rw [this, List.drop_zero, Nat.sub_zero]
   have hx := pK (a := s.drop (s.length - 16)) (b := yK key l (l.length - 1)) (by rw [List.length_drop, hd.1]; omega) (by rw [hd.1]; omega);have ZE : (s.take (s.length - 16) ++ dU (s.drop (s.length - 16)) (yK key l (l.length - 1))).length = s.length := by rw [List.length_append, fC, List.length_take, List.length_drop]; omega
   simp only [e16, cond_true, aP (Int.le_refl 0) (show (0 : Int) <= ((s.length - 16 : Nat) : Int) by omega) (show ((s.length - 16 : Nat) : Int) <= (s.length : Int) by omega), aP (show (0 : Int) <= ((s.length - 16 : Nat) : Int) by omega) (show ((s.length - 16 : Nat) : Int) <= (s.length : Int) by omega) (Int.le_refl _), hc1, hc2, hx, Option.bind_some];rw [cond_pos (au (by rw [fC, List.length_take, List.length_drop]; unfold maxStr; omega)), AA hk hkb (by rw [ZE]; exact hsl)];rfl
theorem XC {l : List (List Int)} (hk : key.length = 16 \/ key.length = 32) (hkb : Bs key) (hl : l.length <= 127) (hs : ∀ s ∈ l, s.length < dG) :
  dO.run .lim (key, l, ()) = some (FT key l, 0, ()) := by
 have hsz : iW.run .lim (key, ()) = some true := by
  have JR : key.length < 9223372036854775808 := by omega
  simp only [iW.run, aF JR, cond_true, Bool.or_true];rcases hk with h | h
  ·rw [au (show (key.length : Int) = 16 by omega)]; rfl
  ·rw [au (show (key.length : Int) = 32 by omega), Bool.or_true]
 simp only [dO.run, hsz, Option.bind_some, Bool.not_true, cond_false, aF (show l.length < 9223372036854775808 by omega), cond_true, aA (show ¬ (l.length : Int) > 127 by omega)];unfold FT;by_cases h0 : l.length = 0
 ·rw [au (show (l.length : Int) = 0 by omega), if_pos h0];have z := xR (n := 15) (by omega);simp only [cond_true];rw [show (15 : Int) = ((15 : Nat) : Int) from rfl, z];simp only [Option.bind_some];rw [cond_pos (by decide), xA hk hkb (by decide)];rfl
 ·rw [aA (show ¬ (l.length : Int) = 0 by omega), if_neg h0];have z := xR (n := 16) (by omega);have w1 : IntKind.i64.wrap ((l.length : Int) - 1) = ((l.length - 1 : Nat) : Int) := by rw [wrap64 (by omega) (by omega)]; omega
  have hloop := dB (f := dO.l0 .lim) (fun k => (key, l, yK key l k, (k : Int), ())) (n := l.length - 1) (fun k hk' => by
   rw [dO.q0];have hok := JQ key l k;have ht := xA (key := key) (s := rd [] l (k : Int)) hk hkb (hs _ (fJ (by omega) (by omega)));have hx := mO (a := vF (yK key l k)) (b := uZ key (rd [] l (k : Int))) (by rw [(lT _).1, (zl _ _).1]; omega) (by rw [(zl _ _).1]; omega);simp only [dO.b0, aF (show l.length < 9223372036854775808 by omega), w1, au (show (k : Int) < ((l.length - 1 : Nat) : Int) by omega), aH (show (0 : Int) <= k by omega) (show (k : Int) < (l.length : Int) by omega), cond_true, xU hok, Option.bind_some, ht, hx, wk k (by omega)];rfl)
  rw [show yK key l 0 = uZ key CZ from rfl, show ((0 : Nat) : Int) = 0 from rfl] at hloop;simp only [cond_false];rw [show (16 : Int) = ((16 : Nat) : Int) from rfl, z];simp only [Option.bind_some, xA hk hkb (show (List.replicate 16 (0 : Int)).length < dG by decide)];rw [hloop, dO.q0];generalize hs1 : rd ([] : List Int) l ((l.length - 1 : Nat) : Int) = s;have hsl : s.length < 9223372036854775808 := by rw [<- hs1]; exact hs _ (fJ (by omega) (by omega))
  simp only [dO.b0, aF (show l.length < 9223372036854775808 by omega), w1, aA (show ¬ ((l.length - 1 : Nat) : Int) < ((l.length - 1 : Nat) : Int) by omega), cond_false, Option.bind_some, cond_true, aH (show (0 : Int) <= ((l.length - 1 : Nat) : Int) by omega) (show ((l.length - 1 : Nat) : Int) < (l.length : Int) by omega), hs1, aF hsl];have w2 : IntKind.i64.wrap ((s.length : Int) - ((16 : Nat) : Int)) = (s.length : Int) - 16 := by rw [wrap64 (by omega) (by omega)]; omega
  rw [w2];have hd := JQ key l (l.length - 1);unfold s2E;by_cases h3 : s.length < 16
  ·rw [au (show (s.length : Int) < ((16 : Nat) : Int) by omega), if_pos h3];have hx := mO (a := vF (yK key l (l.length - 1))) (b := uI s) (by rw [mP h3, (lT _).1]; omega) (by rw [mP h3]; omega);rw [RU (by rw [mP h3, (lT _).1])] at hx;simp only [cond_true, xU hd, Iu h3, Option.bind_some, hx];rw [xA hk hkb (by rw [fC, mP h3]; decide)];rfl
  ·rw [aA (show ¬ (s.length : Int) < ((16 : Nat) : Int) by omega), if_neg h3];have e16 : (s.length : Int) - 16 = ((s.length - 16 : Nat) : Int) := by omega
   have hc1 : cut s ((s.length - 16 : Nat) : Int) (s.length : Int) = s.drop (s.length - 16) := by rw [mW, List.take_of_length_le (by rw [List.length_drop]; omega)]
   have hc2 : cut s 0 ((s.length - 16 : Nat) : Int) = s.take (s.length - 16) := by
    have := mW s 0 (s.length - 16);rw [show ((0 : Nat) : Int) = 0 from rfl] at this;rw [this, List.drop_zero, Nat.sub_zero]
   have hx := mO (a := s.drop (s.length - 16)) (b := yK key l (l.length - 1)) (by rw [List.length_drop, hd.1]; omega) (by rw [hd.1]; omega);have ZE : (s.take (s.length - 16) ++ dU (s.drop (s.length - 16)) (yK key l (l.length - 1))).length = s.length := by rw [List.length_append, fC, List.length_take, List.length_drop]; omega
   simp only [e16, cond_false, aP (Int.le_refl 0) (show (0 : Int) <= ((s.length - 16 : Nat) : Int) by omega) (show ((s.length - 16 : Nat) : Int) <= (s.length : Int) by omega), aP (show (0 : Int) <= ((s.length - 16 : Nat) : Int) by omega) (show ((s.length - 16 : Nat) : Int) <= (s.length : Int) by omega) (Int.le_refl _), cond_true, hc1, hc2, hx, Option.bind_some];rw [cond_pos (au (by rw [fC, List.length_take, List.length_drop]; unfold maxStr; omega)), xA hk hkb (by rw [ZE]; exact hsl)];rfl
def AB (v : List Int) : List Int := (v.set 8 (gB .u8 (rd 0 v 8) 127)).set 12 (gB .u8 (rd 0 (v.set 8 (gB .u8 (rd 0 v 8) 127)) 12) 127)
theorem xX (v : List Int) : (AB v).length = v.length := by simp [AB]
noncomputable def u_ (key v s : List Int) : List Int := dU s (OD key (AB v) s.length)
theorem nN (key v s : List Int) : (u_ key v s).length = s.length := fC _ _
theorem Qw (key v s : List Int) : Bs (u_ key v s) := UQ _ _
theorem OM (key v : List Int) {s : List Int} (h : Bs s) : u_ key v (u_ key v s) = s := by
 unfold u_;rw [fC, RV (by rw [xu]; omega) h]
theorem Qx {key v : List Int} {n : Nat} (hk : key.length = 16 \/ key.length = 32) (hv : v.length = 16) (hn : n <= 65536) : RI key v (n : Int) = OD key v n := by
 unfold RI RH;rw [if_neg (show ¬ ((n : Int) < 0 \/ (n : Int) > 65536) by omega), if_pos hk, if_pos hv, if_pos rfl, Int.toNat_natCast]
theorem FU {v s : List Int} (hk : key.length = 16 \/ key.length = 32) (hkb : Bs key) (hv : v.length = 16) (hs : s.length <= 65536) : lN.run .lim (key, v, s, ()) = some (u_ key v s) := by
 have ha := OE (key := key) (at_ := AB v) (n := (s.length : Int)) (kJ (by omega)) (by rw [xX, hv]; decide) hkb;rw [Qx hk (by rw [xX, hv]) hs] at ha;have hx := pK (a := s) (b := OD key (AB v) s.length) (by rw [xu]; omega) (by rw [xu]; omega);unfold AB at ha hx;simp only [lN.run, List.length_set, hv, aH (show (0 : Int) <= 8 by omega) (show (8 : Int) < ((16 : Nat) : Int) by omega), aH (show (0 : Int) <= 12 by omega) (show (12 : Int) < ((16 : Nat) : Int) by omega), aF (show s.length < 9223372036854775808 by omega), cond_true, ha, Option.bind_some, hx];rfl
theorem JU {v s : List Int} (hk : key.length = 16 \/ key.length = 32) (hkb : Bs key) (hv : v.length = 16) (hs : s.length <= 65536) : gW.run .lim (key, v, s, ()) = some (u_ key v s) := by
 have ha := OG (key := key) (at_ := AB v) (n := (s.length : Int)) (kJ (by omega)) (by rw [xX, hv]; decide) hkb;rw [Qx hk (by rw [xX, hv]) hs] at ha;have hx := mO (a := s) (b := OD key (AB v) s.length) (by rw [xu]; omega) (by rw [xu]; omega);unfold AB at ha hx;simp only [gW.run, List.length_set, hv, aH (show (0 : Int) <= 8 by omega) (show (8 : Int) < ((16 : Nat) : Int) by omega), aH (show (0 : Int) <= 12 by omega) (show (12 : Int) < ((16 : Nat) : Int) by omega), aF (show s.length < 9223372036854775808 by omega), cond_true, ha, Option.bind_some, hx];rfl
abbrev jZ (key : List Int) : List Int := key.take (key.length / 2)
abbrev xB (key : List Int) : List Int := key.drop (key.length / 2)
def oQ (key : List Int) (ad : List (List Int)) : Int := if key.length = 32 \/ key.length = 64 then (if ad.length >= 127 then 18 else 0) else 13
noncomputable def oZ (key : List Int) (ad : List (List Int)) (plain : List Int) : List Int :=
 FT (jZ key) (ad ++ [plain]) ++ u_ (xB key) (FT (jZ key) (ad ++ [plain])) plain
noncomputable def xC (key : List Int) (ad : List (List Int)) (plain : List Int) : List Int × Int :=
 if oQ key ad = 0 then (if plain.length > 65536 then ([], 12) else (oZ key ad plain, 0)) else ([], oQ key ad)
noncomputable def kW (key sealed : List Int) : List Int := u_ (xB key) (sealed.take 16) (sealed.drop 16)
noncomputable def sO (key : List Int) (ad : List (List Int)) (sealed : List Int) : List Int × Int :=
 if oQ key ad = 0 then (if sealed.length < 16 then ([], 11) else if sealed.length > 65552 then ([], 12) else
  if FT (jZ key) (ad ++ [kW key sealed]) = sealed.take 16 then (kW key sealed, 0) else ([], 17)) else ([], oQ key ad)
theorem AL {s : List Int} (h : Bs s) (n : Nat) : Bs (s.take n) := fun x hx => h x (List.mem_of_mem_take hx)
theorem JV {s : List Int} (h : Bs s) (n : Nat) : Bs (s.drop n) := fun x hx => h x (List.mem_of_mem_drop hx)
theorem uJ {key : List Int} (h : key.length = 32 \/ key.length = 64) : ((jZ key).length = 16 \/ (jZ key).length = 32) /\ ((xB key).length = 16 \/ (xB key).length = 32) := by
 unfold jZ xB;rw [List.length_take, List.length_drop]; omega
theorem FV {ad : List (List Int)} (hk : key.length < dG) (hkb : Bs key) (ha : ad.length < dG) :
  ∃ r r1, lM.run .lim (key, ad, ()) = some (r, r1, oQ key ad, ()) /\ (oQ key ad = 0 -> r = (jZ key, (xw (jZ key), vF (xw (jZ key)))) /\ r1 = xB key) := by
 have JR : key.length < 9223372036854775808 := hk;have UU : ad.length < 9223372036854775808 := ha;have hd : (key.length : Int).tdiv 2 = ((key.length / 2 : Nat) : Int) := by rw [Int.tdiv_eq_ediv_of_nonneg (Int.natCast_nonneg _)]; simp
 have w1 : IntKind.i64.wrap ((key.length : Int).tdiv 2) = ((key.length / 2 : Nat) : Int) := by rw [hd, wrap64 (by omega) (by omega)]
 unfold oQ;simp only [lM.run, aF JR, aF UU, cond_true, Bool.or_true, w1];by_cases h1 : key.length = 32 \/ key.length = 64
 ·have : (!decide ((key.length : Int) = 32) && !decide ((key.length : Int) = 64)) = false := by
   rcases h1 with h | h
   ·rw [au (show (key.length : Int) = 32 by omega)]; rfl
   ·rw [au (show (key.length : Int) = 64 by omega), Bool.not_true, Bool.and_false]
  rw [this, if_pos h1];simp only [cond_false];by_cases h2 : ad.length >= 127
  ·rw [au (show (ad.length : Int) >= 127 by omega), if_pos h2];exact ⟨_, _, rfl, fun h => absurd h (by decide)⟩
  ·rw [aA (show ¬ (ad.length : Int) >= 127 by omega), if_neg h2];have hc1 : cut key 0 ((key.length / 2 : Nat) : Int) = jZ key := by
    have := mW key 0 (key.length / 2);rw [show ((0 : Nat) : Int) = 0 from rfl] at this;rw [this, List.drop_zero, Nat.sub_zero]
   have hc2 : cut key ((key.length / 2 : Nat) : Int) (key.length : Int) = xB key := by rw [mW, List.take_of_length_le (by rw [List.length_drop]; omega)]
   simp only [cond_false, aP (Int.le_refl 0) (show (0 : Int) <= ((key.length / 2 : Nat) : Int) by omega) (show ((key.length / 2 : Nat) : Int) <= (key.length : Int) by omega), aP (show (0 : Int) <= ((key.length / 2 : Nat) : Int) by omega) (show ((key.length / 2 : Nat) : Int) <= (key.length : Int) by omega) (Int.le_refl _), cond_true, hc1, hc2, RZ (uJ h1).1 (AL hkb _), Option.bind_some];exact ⟨_, _, rfl, fun _ => ⟨rfl, rfl⟩⟩
 ·rw [aA (show ¬ (key.length : Int) = 32 by omega), aA (show ¬ (key.length : Int) = 64 by omega), if_neg h1];exact ⟨_, _, rfl, fun h => absurd h (by decide)⟩
theorem MO {ad : List (List Int)} (hk : key.length < dG) (ha : ad.length < dG) : iD.run .lim (key, ad, ()) = some (oQ key ad) := by
 have JR : key.length < 9223372036854775808 := hk;have UU : ad.length < 9223372036854775808 := ha;unfold oQ;simp only [iD.run, aF JR, aF UU, cond_true, Bool.or_true];by_cases h1 : key.length = 32 \/ key.length = 64
 ·have : (!decide ((key.length : Int) = 32) && !decide ((key.length : Int) = 64)) = false := by
   rcases h1 with h | h
   ·rw [au (show (key.length : Int) = 32 by omega)]; rfl
   ·rw [au (show (key.length : Int) = 64 by omega), Bool.not_true, Bool.and_false]
  rw [this, if_pos h1];by_cases h2 : ad.length >= 127
  ·rw [au (show (ad.length : Int) >= 127 by omega), if_pos h2]; rfl
  ·rw [aA (show ¬ (ad.length : Int) >= 127 by omega), if_neg h2]; rfl
 ·rw [aA (show ¬ (key.length : Int) = 32 by omega), aA (show ¬ (key.length : Int) = 64 by omega), if_neg h1]; rfl
theorem xY {ad : List (List Int)} (h : oQ key ad = 0) : (key.length = 32 \/ key.length = 64) /\ ad.length < 127 := by
 unfold oQ at h;split at h
 ·split at h
  ·exact absurd h (by decide)
  ·exact ⟨by assumption, by omega⟩
 ·exact absurd h (by decide)
theorem FW {ad : List (List Int)} (h : ad.length < 4398046511104) : bg.run .lim (ad, ()) = some ad := by
 simp only [bg.run];rw [cond_pos (au (by simpa using h)), List.nil_append]
theorem UW {ad : List (List Int)} {plain : List Int} (hk : key.length < dG) (hkb : Bs key) (ha : ad.length < dG) (had : ∀ s ∈ ad, s.length < dG) (hp : plain.length < dG) :
  wY.run .lim (key, ad, plain, ()) = some ((xC key ad plain).1, (xC key ad plain).2, ()) := by
 obtain ⟨r, r1, e, hz⟩ := FV hk hkb ha;have hp63 : plain.length < 9223372036854775808 := hp;unfold xC;simp only [wY.run, e, Option.bind_some, aF hp63, cond_true];by_cases h0 : oQ key ad = 0
 ·obtain ⟨rfl, rfl⟩ := hz h0;obtain ⟨h1, h2⟩ := xY h0;obtain ⟨g1, g2⟩ := uJ h1;rw [au h0, if_pos h0];simp only [Bool.not_true, cond_false];by_cases h3 : plain.length > 65536
  ·rw [au (show (plain.length : Int) > 65536 by omega), if_pos h3]; rfl
  ·rw [aA (show ¬ (plain.length : Int) > 65536 by omega), if_neg h3];have hall : ∀ s ∈ ad ++ [plain], s.length < dG := fun s hs => by
    rcases List.mem_append.1 hs with hs | hs
    ·exact had s hs
    ·rw [List.mem_singleton.1 hs]; exact hp
   have hv := (BN (jZ key) (ad ++ [plain])).1;simp only [cond_false, FW (show ad.length < 4398046511104 by omega), Option.bind_some];rw [cond_pos (au (by simp; omega)), Qv g1 (AL hkb _) (kJ (by simp; omega)) hall];simp only [Option.bind_some, FU g2 (JV hkb _) hv (show plain.length <= 65536 by omega)];rw [cond_pos (au (by rw [hv, nN]; unfold maxStr; omega))];rfl
 ·rw [aA h0, if_neg h0];rfl
theorem XD {ad : List (List Int)} {plain : List Int} (hk : key.length = 16 \/ key.length = 32) (hkb : Bs key) (ha : ad.length < 127) (hs : ∀ s ∈ ad ++ [plain], s.length < dG) : jD.run .lim (key, ad, plain, ()) = some (FT key (ad ++ [plain])) := by
 simp only [jD.run];rw [cond_pos (au (by omega)), cond_pos (au (by simp; omega)), XC hk hkb (by simp; omega) hs];rfl
theorem R_ {a b : List Int} (h : a.length = b.length) (ha : Bs a) (hb : Bs b) : dU a b = List.replicate a.length 0 ↔ b = a := by
 constructor
 ·intro e;refine (BG (d := 0) h.symm fun k hk => ?_);have h1 : rd 0 (dU a b) (k : Int) = 0 := by rw [e, mX (by simp; omega)]; simp
  rw [xQ (by omega)] at h1;have := xor_assoc (rd 0 a (k : Int)) (rd 0 b (k : Int)) (rd 0 b (k : Int));rw [h1, xor_self, zero_xor (hb _ (fJ (by omega) (by omega))), xor_zero (ha _ (fJ (by omega) (by omega)))] at this;exact this
 ·rintro rfl
  refine BG (d := 0) (by simp) fun k hk => ?_
  rw [fC] at hk;rw [xQ hk, xor_self, mX (by simpa using hk)]; simp
theorem UY {ad : List (List Int)} {sealed : List Int} (hk : key.length < dG) (hkb : Bs key) (ha : ad.length < dG) (had : ∀ s ∈ ad, s.length < dG) (hp : sealed.length < dG) (hpb : Bs sealed) :
  xg.run .lim (key, ad, sealed, ()) = some ((sO key ad sealed).1, (sO key ad sealed).2, ()) := by
 obtain ⟨r, r1, e, hz⟩ := FV hk hkb ha;have hp63 : sealed.length < 9223372036854775808 := hp;unfold sO;simp only [xg.run, e, Option.bind_some, aF hp63, cond_true];by_cases h0 : oQ key ad = 0
 ·obtain ⟨rfl, rfl⟩ := hz h0;obtain ⟨h1, h2⟩ := xY h0;obtain ⟨g1, g2⟩ := uJ h1;rw [au h0, if_pos h0];simp only [Bool.not_true, cond_false];by_cases h3 : sealed.length < 16
  ·rw [au (show (sealed.length : Int) < 16 by omega), if_pos h3]; rfl
  ·rw [aA (show ¬ (sealed.length : Int) < 16 by omega), if_neg h3];simp only [cond_false];by_cases h4 : sealed.length > 65552
   ·rw [au (show (sealed.length : Int) > 65552 by omega), if_pos h4]; rfl
   ·rw [aA (show ¬ (sealed.length : Int) > 65552 by omega), if_neg h4];have hc1 : cut sealed 0 16 = sealed.take 16 := by
     have := mW sealed 0 16;simpa using this
    have hc2 : cut sealed 16 (sealed.length : Int) = sealed.drop 16 := by
     have := mW sealed 16 sealed.length;rw [show ((16 : Nat) : Int) = 16 from rfl] at this;rw [this, List.take_of_length_le (by rw [List.length_drop]; omega)]
    have ht : (sealed.take 16).length = 16 := by rw [List.length_take]; omega
    have hdl : (sealed.drop 16).length = sealed.length - 16 := List.length_drop;have hol : (kW key sealed).length = sealed.length - 16 := by unfold kW; rw [nN, hdl]
    have hall : ∀ s ∈ ad ++ [kW key sealed], s.length < dG := fun s hs => by
     rcases List.mem_append.1 hs with hs | hs
     ·exact had s hs
     ·rw [List.mem_singleton.1 hs, hol]; exact kJ (by omega)
    have hv := BN (jZ key) (ad ++ [kW key sealed]);have z := qF (n := 16) (by omega);have hx := pK (a := sealed.take 16) (b := FT (jZ key) (ad ++ [kW key sealed])) (by rw [ht, hv.1]; omega) (by rw [hv.1]; omega);have hst := FU (v := sealed.take 16) (s := sealed.drop 16) g2 (JV hkb _) ht (by omega);rw [show u_ (xB key) (sealed.take 16) (sealed.drop 16) = kW key sealed from rfl] at hst;simp only [cond_false, aP (Int.le_refl 0) (show (0 : Int) <= 16 by omega) (show (16 : Int) <= (sealed.length : Int) by omega), aP (show (0 : Int) <= 16 by omega) (show (16 : Int) <= (sealed.length : Int) by omega) (Int.le_refl _), cond_true, hc1, hc2, hst, Option.bind_some, FW (show ad.length < 4398046511104 by omega)];rw [cond_pos (au (by simp; omega)), Qv g1 (AL hkb _) (kJ (by simp; omega)) hall];simp only [Option.bind_some, hx];rw [show (16 : Int) = ((16 : Nat) : Int) from rfl, z];simp only [Option.bind_some];have hiff := R_ (a := sealed.take 16) (b := FT (jZ key) (ad ++ [kW key sealed])) (by rw [ht, hv.1]) (AL hpb _) hv.2;rw [ht] at hiff;by_cases h5 : FT (jZ key) (ad ++ [kW key sealed]) = sealed.take 16
    ·rw [au (hiff.2 h5), if_pos h5]; rfl
    ·rw [aA (fun q => h5 (hiff.1 q)), if_neg h5]; rfl
 ·rw [aA h0, if_neg h0];rfl
theorem UZ {ad : List (List Int)} {sealed : List Int} (hk : key.length < dG) (hkb : Bs key) (ha : ad.length < dG) (had : ∀ s ∈ ad, s.length < dG) (hp : sealed.length < dG) :
  jv.run .lim (key, ad, sealed, ()) = some ((sO key ad sealed).1, (sO key ad sealed).2, ()) := by
 have hp63 : sealed.length < 9223372036854775808 := hp;have JR : key.length < 9223372036854775808 := hk;have hd : (key.length : Int).tdiv 2 = ((key.length / 2 : Nat) : Int) := by rw [Int.tdiv_eq_ediv_of_nonneg (Int.natCast_nonneg _)]; simp
 have w1 : IntKind.i64.wrap ((key.length : Int).tdiv 2) = ((key.length / 2 : Nat) : Int) := by rw [hd, wrap64 (by omega) (by omega)]
 unfold sO;simp only [jv.run, MO hk ha, Option.bind_some, aF hp63, aF JR, cond_true, w1];by_cases h0 : oQ key ad = 0
 ·obtain ⟨h1, h2⟩ := xY h0;obtain ⟨g1, g2⟩ := uJ h1;rw [au h0, if_pos h0];simp only [Bool.not_true, cond_false];by_cases h3 : sealed.length < 16
  ·rw [au (show (sealed.length : Int) < 16 by omega), if_pos h3]; rfl
  ·rw [aA (show ¬ (sealed.length : Int) < 16 by omega), if_neg h3];simp only [cond_false];by_cases h4 : sealed.length > 65552
   ·rw [au (show (sealed.length : Int) > 65552 by omega), if_pos h4]; rfl
   ·rw [aA (show ¬ (sealed.length : Int) > 65552 by omega), if_neg h4];have hc1 : cut sealed 0 16 = sealed.take 16 := by
     have := mW sealed 0 16;simpa using this
    have hc2 : cut sealed 16 (sealed.length : Int) = sealed.drop 16 := by
     have := mW sealed 16 sealed.length;rw [show ((16 : Nat) : Int) = 16 from rfl] at this;rw [this, List.take_of_length_le (by rw [List.length_drop]; omega)]
    have hc3 : cut key 0 ((key.length / 2 : Nat) : Int) = jZ key := by
     have := mW key 0 (key.length / 2);rw [show ((0 : Nat) : Int) = 0 from rfl] at this;rw [this, List.drop_zero, Nat.sub_zero]
    have hc4 : cut key ((key.length / 2 : Nat) : Int) (key.length : Int) = xB key := by rw [mW, List.take_of_length_le (by rw [List.length_drop]; omega)]
    have ht : (sealed.take 16).length = 16 := by rw [List.length_take]; omega
    have hdl : (sealed.drop 16).length = sealed.length - 16 := List.length_drop;have hol : (kW key sealed).length = sealed.length - 16 := by unfold kW; rw [nN, hdl]
    have hall : ∀ s ∈ ad ++ [kW key sealed], s.length < dG := fun s hs => by
     rcases List.mem_append.1 hs with hs | hs
     ·exact had s hs
     ·rw [List.mem_singleton.1 hs, hol]; exact kJ (by omega)
    have hst := JU (v := sealed.take 16) (s := sealed.drop 16) g2 (JV hkb _) ht (by omega);rw [show u_ (xB key) (sealed.take 16) (sealed.drop 16) = kW key sealed from rfl] at hst;simp only [cond_false, aP (Int.le_refl 0) (show (0 : Int) <= 16 by omega) (show (16 : Int) <= (sealed.length : Int) by omega), aP (show (0 : Int) <= 16 by omega) (show (16 : Int) <= (sealed.length : Int) by omega) (Int.le_refl _), aP (Int.le_refl 0) (show (0 : Int) <= ((key.length / 2 : Nat) : Int) by omega) (show ((key.length / 2 : Nat) : Int) <= (key.length : Int) by omega), aP (show (0 : Int) <= ((key.length / 2 : Nat) : Int) by omega) (show ((key.length / 2 : Nat) : Int) <= (key.length : Int) by omega) (Int.le_refl _), cond_true, hc1, hc2, hc3, hc4, hst, Option.bind_some, XD g1 (AL hkb _) h2 hall];by_cases h5 : FT (jZ key) (ad ++ [kW key sealed]) = sealed.take 16
    ·rw [au h5, if_pos h5]; rfl
    ·rw [aA h5, if_neg h5]; rfl
 ·rw [aA h0, if_neg h0];rfl
end
theorem Si {key : List Int} {ad : List (List Int)} {plain : List Int} (h0 : oQ key ad = 0) (hp : plain.length <= 65536) (hpb : Bs plain) : sO key ad (oZ key ad plain) = (plain, 0) := by
 have hv := BN (jZ key) (ad ++ [plain]);have ht : (oZ key ad plain).take 16 = FT (jZ key) (ad ++ [plain]) := by unfold oZ; rw [List.take_append_of_le_length (by rw [hv.1]; omega), List.take_of_length_le (by rw [hv.1]; omega)]
 have hd : (oZ key ad plain).drop 16 = u_ (xB key) (FT (jZ key) (ad ++ [plain])) plain := by unfold oZ; rw [List.drop_append_of_le_length (by rw [hv.1]; omega), List.drop_of_length_le (by rw [hv.1]; omega), List.nil_append]
 have hl : (oZ key ad plain).length = plain.length + 16 := by unfold oZ; rw [List.length_append, hv.1, nN]; omega
 have ho : kW key (oZ key ad plain) = plain := by unfold kW; rw [ht, hd, OM _ _ hpb]
 unfold sO;rw [if_pos h0, if_neg (by omega), if_neg (by omega), ho, ht, if_pos rfl]
theorem Iw (key : List Int) (ad : List (List Int)) (plain : List Int) : (oZ key ad plain).length = plain.length + 16 := by unfold oZ; rw [List.length_append, (BN _ _).1, nN]; omega
theorem Qy (key : List Int) (ad : List (List Int)) (plain : List Int) : Bs (oZ key ad plain) := fun x h => by
 unfold oZ at h;rcases List.mem_append.1 h with h | h
 ·exact (BN _ _).2 x h
 ·exact Qw _ _ _ x h
end Go.AM
end
section
namespace Go.AM
def sQ (key : List Int) (ad : List (List Int)) (n : Nat) : Int := if oP (key, ad, [], []) = 0 then (if n > 65536 then 12 else 0) else oP (key, ad, [], [])
theorem JW (key : List Int) (ad : List (List Int)) (p t : List Int) : oP (key, ad, p, t) = oP (key, ad, [], []) := rfl
noncomputable def sS (xs : List KK) (key : List Int) (ad : List (List Int)) (plain : List Int) : List KK × List Int × Int :=
 if sQ key ad plain.length = 0 then
  match (List.range xs.length).find? (fun j : Nat => FM (rd k0 xs (j : Int)) (key, ad, plain, [])) with
  | some k => (xs, (rd k0 xs (k : Int)).2.2.2, 0)
  | none => if xs.length >= 2048 then (xs, [], 18) else (xs ++ [(key, ad, plain, txt (xs.length + 1) plain)], txt (xs.length + 1) plain, 0)
 else (xs, [], sQ key ad plain.length)
noncomputable def FX (xs : List KK) (key : List Int) (ad : List (List Int)) (t : List Int) : List Int × Int :=
 if oP (key, ad, [], []) = 0 then (if t.length < 16 then ([], 11) else if t.length > 65552 then ([], 12) else
  match (List.range xs.length).find? (fun j : Nat => hit key ad t (rd k0 xs (j : Int))) with
  | some k => ((rd k0 xs (k : Int)).2.2.1, 0)
  | none => ([], 17)) else ([], oP (key, ad, [], []))
noncomputable def jV (v : VV) (key : List Int) (ad : List (List Int)) (plain : List Int) : VV × List Int × Int :=
 bif v.1 then ((true, (sS v.2 key ad plain).1), (sS v.2 key ad plain).2) else (v, xC key ad plain)
noncomputable def iq (v : VV) (key : List Int) (ad : List (List Int)) (t : List Int) : List Int × Int := bif v.1 then FX v.2 key ad t else sO key ad t
structure U0 (key : List Int) (ad : List (List Int)) (s : List Int) : Prop where
 k : key.length < dG
 kb : Bs key
 a : ad.length < dG
 al : ∀ t ∈ ad, t.length < dG
 s : s.length < dG
theorem FY (key : List Int) (ad : List (List Int)) : oQ key ad = oP (key, ad, [], []) := by
 show _ = if key.length ≠ 32 /\ key.length ≠ 64 then 13 else if ad.length > 126 then 18 else 0
 unfold oQ;by_cases h : key.length = 32 \/ key.length = 64
 ·rw [if_pos h, if_neg (show ¬ (key.length ≠ 32 /\ key.length ≠ 64) by omega)];by_cases h2 : ad.length >= 127
  ·rw [if_pos h2, if_pos (show ad.length > 126 by omega)]
  ·rw [if_neg h2, if_neg (show ¬ ad.length > 126 by omega)]
 ·rw [if_neg h, if_pos (show key.length ≠ 32 /\ key.length ≠ 64 by omega)]
theorem Sj {xs : List KK} (h : xs.length < 2048) : bW.run .lim (xs, ()) = some xs := by
 simp only [bW.run];rw [cond_pos (au (by simp; omega)), List.nil_append]
theorem Sm (xs : List KK) (key : List Int) (ad : List (List Int)) (plain : List Int) (b : Bool) (hx : xs.length < dG) (hok : ∀ k ∈ xs, RQ k) (ha : ad.length < dG) :
  iG.l0 .lim (xs, (xs.length : Int), 0, key, ad, plain, [], xs, b, xs, false, ()) = match (List.range xs.length).find? (fun j : Nat => FM (rd k0 xs (j : Int)) (key, ad, plain, [])) with
   | some k => some (.inl ((k : Int), xs, key, ad, plain, [], b, xs, false, ()))
   | none => some (.inr (xs, key, ad, plain, [], b, xs, false, ())) := by
 have FZ : xs.length < 9223372036854775808 := hx;have e := qp (f := iG.l0 .lim) (fun k => (xs, (xs.length : Int), (k : Int), key, ad, plain, [], xs, b, xs, false, ())) xs.length (fun j : Nat => FM (rd k0 xs (j : Int)) (key, ad, plain, [])) (fun k => some (.inl ((k : Int), xs, key, ad, plain, [], b, xs, false, ()))) (fun k hk => by
  rw [iG.q0];have hm : RQ (rd k0 xs k) := hok _ (fJ (by omega) (by omega));simp only [iG.b0, UL (rd k0 xs k) (key, ad, plain, []) hm.2.1 ha, wk k (by omega), au (show (k : Int) < (xs.length : Int) by omega), aH (show (0 : Int) <= k by omega) (show (k : Int) < (xs.length : Int) by omega), cond_true, Option.bind_some])
 rw [show ((0 : Nat) : Int) = 0 from rfl] at e;rw [e];cases (List.range xs.length).find? (fun j : Nat => FM (rd k0 xs (j : Int)) (key, ad, plain, [])) with
 | some k => rfl
 | none =>
  simp only;rw [iG.q0];simp only [iG.b0, aA (show ¬ (xs.length : Int) < (xs.length : Int) by omega), cond_false]
theorem XE {v : VV} (hv : okV v) (hf : uG v = true) {key : List Int} {ad : List (List Int)} {plain : List Int} (T : U0 key ad plain) :
  iG.run .lim (v, key, ad, plain, ()) = some ((jV v key ad plain).1, (jV v key ad plain).2.1, (jV v key ad plain).2.2, ()) := by
 obtain ⟨b, xs⟩ := v;have hx : xs.length < dG := hv.1;have hp63 : plain.length < 9223372036854775808 := T.s;have FZ : xs.length < 9223372036854775808 := hx;unfold jV;cases b with
 | false =>
  have hn : xs = [] := by
   unfold uG at hf;simpa using hf
  subst hn;have hs := UW T.k T.kb T.a T.al T.s;simp only [iG.run, kR.run, hs, Option.bind_some, cond_false];unfold xC;by_cases h0 : oQ key ad = 0
  ·rw [if_pos h0];by_cases h1 : plain.length > 65536
   ·rw [if_pos h1]; rfl
   ·rw [if_neg h1]; rfl
  ·rw [if_neg h0, aA h0]; rfl
 | true =>
  have hr := FP (key, ad, plain, []) T.k T.a;rw [JW] at hr;have hf' := Sm xs key ad plain true hx hv.2 T.a;simp only [iG.run, hr, Option.bind_some, aF hp63, aF FZ, cond_true, hf'];unfold sS sQ;by_cases h0 : oP (key, ad, [], []) = 0
  ·rw [au h0, if_pos h0];simp only [Bool.not_true, cond_false];by_cases h1 : plain.length > 65536
   ·rw [au (show (plain.length : Int) > 65536 by omega), if_pos h1, if_neg (by decide)]; rfl
   ·rw [aA (show ¬ (plain.length : Int) > 65536 by omega), if_neg h1, if_pos rfl];simp only [cond_false];cases hq : (List.range xs.length).find? (fun j : Nat => FM (rd k0 xs (j : Int)) (key, ad, plain, [])) with
    | some k =>
     have hk : k < xs.length := List.mem_range.1 (List.mem_of_find?_eq_some hq);simp only [Option.bind_some];rw [cond_pos (au (by omega)), cond_pos (aH (by omega) (by omega))]
    | none =>
     simp only [Option.bind_some, aF FZ, cond_true];by_cases h2 : xs.length >= 2048
     ·rw [au (show (xs.length : Int) >= 2048 by omega), if_pos h2]; rfl
     ·rw [aA (show ¬ (xs.length : Int) >= 2048 by omega), if_neg h2];have ha126 : ad.length <= 126 := by
       have := xY (key := key) (ad := ad) (by rw [FY]; exact h0);omega
      have w1 : IntKind.i64.wrap ((xs.length : Int) + 1) = (xs.length : Int) + 1 := wrap64 (by omega) (by omega);simp only [cond_false, FW (show ad.length < 4398046511104 by omega), Option.bind_some, w1, number_eq ((xs.length : Int) + 1) plain (by omega) (by omega) (by omega), Sj (show xs.length < 2048 by omega)];rw [cond_pos (au (by simp; omega))]
  ·rw [aA h0, if_neg h0, if_neg h0]; rfl
theorem Gz {key : List Int} {ad : List (List Int)} (hk : key.length < dG) (ha : ad.length < dG) (n : Nat) : iE.run .lim (key, ad, (n : Int), ()) = some (sQ key ad n) := by
 have JR : key.length < 9223372036854775808 := hk;have UU : ad.length < 9223372036854775808 := ha;unfold sQ oP;simp only [iE.run, aF JR, aF UU, cond_true, Bool.or_true];by_cases h1 : key.length ≠ 32 /\ key.length ≠ 64
 ·rw [if_pos h1, aA (show ¬ (key.length : Int) = 32 by omega), aA (show ¬ (key.length : Int) = 64 by omega)]; rfl
 ·rw [if_neg h1];have : (!decide ((key.length : Int) = 32) && !decide ((key.length : Int) = 64)) = false := by
   by_cases h : key.length = 32
   ·rw [au (show (key.length : Int) = 32 by omega)]; rfl
   ·rw [au (show (key.length : Int) = 64 by omega), Bool.not_true, Bool.and_false]
  rw [this];by_cases h2 : ad.length > 126
  ·rw [au (show (ad.length : Int) > 126 by omega), if_pos h2]; rfl
  ·rw [aA (show ¬ (ad.length : Int) > 126 by omega), if_neg h2, if_pos rfl];by_cases h3 : n > 65536
   ·rw [au (show (n : Int) > 65536 by omega), if_pos h3]; rfl
   ·rw [aA (show ¬ (n : Int) > 65536 by omega), if_neg h3]; rfl
theorem OQ (xs : List KK) (key : List Int) (ad : List (List Int)) (t : List Int) (hx : xs.length < dG) (hok : ∀ k ∈ xs, RQ k) (ha : ad.length < dG) :
  gV.l0 .lim (xs, (xs.length : Int), 0, key, ad, [], t, xs, ()) = match (List.range xs.length).find? (fun j : Nat => hit key ad t (rd k0 xs (j : Int))) with
   | some k => some (.inl ((k : Int), xs, ()))
   | none => some (.inr (xs, ())) := by
 have FZ : xs.length < 9223372036854775808 := hx;have e := qp (f := gV.l0 .lim) (fun k => (xs, (xs.length : Int), (k : Int), key, ad, [], t, xs, ())) xs.length (fun j : Nat => hit key ad t (rd k0 xs (j : Int))) (fun k => some (.inl ((k : Int), xs, ()))) (fun k hk => by
  rw [gV.q0];have hm : RQ (rd k0 xs k) := hok _ (fJ (by omega) (by omega));simp only [gV.b0, MK _ _ hm.2.1 ha, wk k (by omega), au (show (k : Int) < (xs.length : Int) by omega), aH (show (0 : Int) <= k by omega) (show (k : Int) < xs.length by omega)];unfold hit;cases decide ((rd k0 xs k).2.2.2 = t) && decide ((rd k0 xs k).1 = key) <;> simp only [cond_true, cond_false, Option.bind_some, Option.bind_none, Bool.or_true, Bool.true_or, Bool.and_true, Bool.true_and, Bool.and_false, Bool.false_and, Bool.or_false, Bool.false_or, Bool.not_true, Bool.not_false, Bool.or_self, Bool.and_self, Bool.not_not])
 rw [show ((0 : Nat) : Int) = 0 from rfl] at e;rw [e];cases (List.range xs.length).find? (fun j : Nat => hit key ad t (rd k0 xs (j : Int))) with
 | some k => rfl
 | none =>
  simp only;rw [gV.q0];simp only [gV.b0, aA (show ¬ (xs.length : Int) < (xs.length : Int) by omega), cond_false]
theorem OT (xs : List KK) (key : List Int) (ad : List (List Int)) (t : List Int) (hx : xs.length < dG) (hok : ∀ k ∈ xs, RQ k) (ha : ad.length < dG) :
  cu.l0 .lim (key, ad, t, 0, true, xs, ()) = match (List.range xs.length).find? (fun j : Nat => hit key ad t (rd k0 xs (j : Int))) with
   | some k => some (.inl ((rd k0 xs (k : Int)).2.2.1, 0, ()))
   | none => some (.inr (())) := by
 have FZ : xs.length < 9223372036854775808 := hx;have e := qp (f := cu.l0 .lim) (fun k => (key, ad, t, (k : Int), true, xs, ())) xs.length (fun j : Nat => hit key ad t (rd k0 xs (j : Int))) (fun k => some (.inl ((rd k0 xs (k : Int)).2.2.1, 0, ()))) (fun k hk => by
  rw [cu.q0];have hm : RQ (rd k0 xs k) := hok _ (fJ (by omega) (by omega));simp only [cu.b0, aF FZ, texts_eq _ _ hm.2.1 ha, wk k (by omega), au (show (k : Int) < (xs.length : Int) by omega), aH (show (0 : Int) <= k by omega) (show (k : Int) < xs.length by omega)];unfold hit;cases decide ((rd k0 xs k).2.2.2 = t) && decide ((rd k0 xs k).1 = key) <;> simp only [cond_true, cond_false, Option.bind_some, Option.bind_none, Bool.or_true, Bool.true_or, Bool.and_true, Bool.true_and, Bool.and_false, Bool.false_and, Bool.or_false, Bool.false_or, Bool.not_true, Bool.not_false, Bool.or_self, Bool.and_self, Bool.not_not])
 rw [show ((0 : Nat) : Int) = 0 from rfl] at e;rw [e];cases (List.range xs.length).find? (fun j : Nat => hit key ad t (rd k0 xs (j : Int))) with
 | some k => rfl
 | none =>
  simp only;rw [cu.q0];simp only [cu.b0, aF FZ, cond_true, aA (show ¬ (xs.length : Int) < (xs.length : Int) by omega), cond_false]
theorem U1 {v : VV} (hv : okV v) {key : List Int} {ad : List (List Int)} {t : List Int} (T : U0 key ad t) (htb : Bs t) :
  gV.run .lim (v, key, ad, t, ()) = some ((iq v key ad t).1, (iq v key ad t).2, ()) := by
 obtain ⟨b, xs⟩ := v;have hx : xs.length < dG := hv.1;have hp63 : t.length < 9223372036854775808 := T.s;have FZ : xs.length < 9223372036854775808 := hx;unfold iq;cases b with
 | false =>
  have hs := UY T.k T.kb T.a T.al T.s htb;simp only [gV.run, kS.run, hs, Option.bind_some, cond_false]
 | true =>
  have hr := FP (key, ad, [], t) T.k T.a;rw [JW] at hr;have hf' := OQ xs key ad t hx hv.2 T.a;simp only [gV.run, hr, Option.bind_some, aF hp63, aF FZ, cond_true, hf'];unfold FX;by_cases h0 : oP (key, ad, [], []) = 0
  ·rw [au h0, if_pos h0];simp only [Bool.not_true, cond_false];by_cases h1 : t.length < 16
   ·rw [au (show (t.length : Int) < 16 by omega), if_pos h1]; rfl
   ·rw [aA (show ¬ (t.length : Int) < 16 by omega), if_neg h1];by_cases h2 : t.length > 65552
    ·rw [au (show (t.length : Int) > 65552 by omega), if_pos h2]; rfl
    ·rw [aA (show ¬ (t.length : Int) > 65552 by omega), if_neg h2];simp only [cond_false];cases hq : (List.range xs.length).find? (fun j : Nat => hit key ad t (rd k0 xs (j : Int))) with
     | some k =>
      have hk : k < xs.length := List.mem_range.1 (List.mem_of_find?_eq_some hq);simp only [Option.bind_some];rw [cond_neg (aA (by omega)), cond_pos (aH (by omega) (by omega))]
     | none => rfl
  ·rw [aA h0, if_neg h0]; rfl
theorem Sr {v : VV} (hv : okV v) {key : List Int} {ad : List (List Int)} {t : List Int} (T : U0 key ad t) :
  cu.run .lim (v, key, ad, t, ()) = some ((iq v key ad t).1, (iq v key ad t).2, ()) := by
 obtain ⟨b, xs⟩ := v;have hx : xs.length < dG := hv.1;have hp63 : t.length < 9223372036854775808 := T.s;have FZ : xs.length < 9223372036854775808 := hx;unfold iq;cases b with
 | false =>
  have hs := UZ T.k T.kb T.a T.al T.s;simp only [cu.run, hs, Option.bind_some, cond_false, Bool.not_false, cond_true]
 | true =>
  have hr := Gz T.k T.a 0;have h00 : sQ key ad 0 = oP (key, ad, [], []) := by
   unfold sQ;by_cases h : oP (key, ad, [], []) = 0
   ·rw [if_pos h, if_neg (by omega), h]
   ·rw [if_neg h]
  rw [h00, show ((0 : Nat) : Int) = 0 from rfl] at hr;have hf' := OT xs key ad t hx hv.2 T.a;simp only [cu.run, hr, Option.bind_some, aF hp63, aF FZ, cond_true, cond_false, Bool.not_true, hf'];unfold FX;by_cases h0 : oP (key, ad, [], []) = 0
  ·rw [au h0, if_pos h0];simp only [Bool.not_true, cond_false];by_cases h1 : t.length < 16
   ·rw [au (show (t.length : Int) < 16 by omega), if_pos h1]; rfl
   ·rw [aA (show ¬ (t.length : Int) < 16 by omega), if_neg h1];by_cases h2 : t.length > 65552
    ·rw [au (show (t.length : Int) > 65552 by omega), if_pos h2]; rfl
    ·rw [aA (show ¬ (t.length : Int) > 65552 by omega), if_neg h2];simp only [cond_false];cases hq : (List.range xs.length).find? (fun j : Nat => hit key ad t (rd k0 xs (j : Int))) with
     | some k => rfl
     | none => rfl
  ·rw [aA h0, if_neg h0]; rfl
end Go.AM
end
section
namespace Go.AM
theorem F5 {key : List Int} {ad : List (List Int)} {n : Nat} (h0 : sQ key ad n = 0) : oP (key, ad, [], []) = 0 /\ n <= 65536 := by
 unfold sQ at h0;split at h0
 ·split at h0
  ·exact absurd h0 (by decide)
  ·exact ⟨by assumption, by omega⟩
 ·exact absurd h0 (by assumption)
theorem xE (xs : List KK) (key : List Int) (ad : List (List Int)) (plain : List Int) :
  ((sS xs key ad plain).2.2 ≠ 0 /\ (sS xs key ad plain).1 = xs /\ (sS xs key ad plain).2.1 = []) \/
  (sQ key ad plain.length = 0 /\ (∃ k, k < xs.length /\ FM (rd k0 xs (k : Int)) (key, ad, plain, []) = true /\ sS xs key ad plain = (xs, (rd k0 xs (k : Int)).2.2.2, 0))) \/
  (sQ key ad plain.length = 0 /\ xs.length < 2048 /\ (∀ k, k < xs.length -> FM (rd k0 xs (k : Int)) (key, ad, plain, []) = false) /\ sS xs key ad plain = (xs ++ [(key, ad, plain, txt (xs.length + 1) plain)], txt (xs.length + 1) plain, 0)) := by
 unfold sS;by_cases h0 : sQ key ad plain.length = 0
 ·rw [if_pos h0];cases hq : (List.range xs.length).find? (fun j : Nat => FM (rd k0 xs (j : Int)) (key, ad, plain, [])) with
  | some k => exact .inr (.inl ⟨h0, k, List.mem_range.1 (List.mem_of_find?_eq_some hq), by simpa using List.find?_some hq, rfl⟩)
  | none =>
   simp only;by_cases h2 : xs.length >= 2048
   ·rw [if_pos h2]; exact .inl ⟨show (18 : Int) ≠ 0 by decide, rfl, rfl⟩
   ·rw [if_neg h2];refine .inr (.inr ⟨h0, by omega, fun k hk => ?_, rfl⟩);have := List.find?_eq_none.1 hq k (List.mem_range.2 hk);simpa using this
 ·rw [if_neg h0]; exact .inl ⟨h0, rfl, rfl⟩
theorem Qz {xs : List KK} (h : uG (true, xs) = true) : xs.length <= 2048 /\ ∀ i, i < xs.length -> Gx xs i = false := by
 unfold uG at h;simp only [cond_true, Bool.and_eq_true, decide_eq_true_eq, Bool.not_eq_true', List.any_eq_false, List.mem_range] at h;exact ⟨h.1, fun i hi => by simpa using h.2 i hi⟩
theorem U2 {xs : List KK} {q : KK} {i : Nat} (hi : i < xs.length) : Gx (xs ++ [q]) i = Gx xs i := by
 unfold Gx;rw [JG hi, any_congr (d := fun j => FM (rd k0 xs (j : Int)) (rd k0 xs (i : Int))) fun j hj => by rw [JG (by omega)]]
theorem QA {α : Type} {d : α} {xs : List α} {q : α} : rd d (xs ++ [q]) (xs.length : Int) = q := by rw [mX (by simp)]; simp
theorem U3 {v : VV} (hf : uG v = true) (key : List Int) (ad : List (List Int)) (plain : List Int) : uG (jV v key ad plain).1 = true := by
 obtain ⟨b, xs⟩ := v;unfold jV;cases b with
 | false => exact hf
 | true =>
  simp only [cond_true];obtain ⟨f1, f2⟩ := Qz hf;rcases xE xs key ad plain with ⟨_, h, _⟩ | ⟨_, k, _, _, h⟩ | ⟨h0, h1, h2, h⟩
  ·rw [h]; exact hf
  ·rw [h]; exact hf
  ·rw [h];obtain ⟨g1, g2⟩ := F5 h0;unfold uG;simp only [cond_true, Bool.and_eq_true, decide_eq_true_eq, Bool.not_eq_true', List.any_eq_false, List.mem_range, List.length_append, List.length_singleton];refine ⟨by omega, fun i hi => ?_⟩;by_cases hl : i < xs.length
   ·rw [U2 hl, f2 i hl]; simp
   ·obtain rfl : i = xs.length := by omega
    unfold Gx;rw [QA];rw [any_congr (d := fun _ => false) fun j hj => by
     rw [JG hj];have := h2 j hj;unfold FM at this ⊢
     exact this]
    rw [JW, g1, au rfl, aA (show ¬ plain.length > 65536 by omega), au rfl];simp
theorem Sv (n : Int) (k : Nat) : 0 <= byteOf n k /\ byteOf n k < 256 := by unfold byteOf; omega
theorem U4 {xs : List KK} (h : uG (true, xs) = true) {i : Nat} (hi : i < xs.length) : (rd k0 xs (i : Int)).2.2.2 = txt ((i + 1 : Nat) : Int) (rd k0 xs (i : Int)).2.2.1 /\ (rd k0 xs (i : Int)).2.2.1.length <= 65536 := by
 have := (Qz h).2 i hi;unfold Gx at this;simp only [Bool.or_eq_false_iff, Bool.not_eq_false', decide_eq_true_eq, decide_eq_false_iff_not] at this;exact ⟨by rw [this.1.2]; congr 1, by omega⟩
theorem QB (n : Int) (p : List Int) : (txt n p).length = p.length + 16 := by simp [txt, Dc]; omega
theorem txt_B (n : Int) (p : List Int) : Bs (txt n p) := fun x hx => by
 unfold txt at hx;rcases List.mem_append.1 hx with h | h
 ·obtain ⟨i, _, rfl⟩ := List.mem_map.1 h;exact Sv _ _
 ·rw [(List.mem_replicate.1 h).2]; exact ⟨by decide, by decide⟩
end Go.AM
end
section
namespace Go.AM
def vB (v : VV) : Prop := ∀ k ∈ v.2, Bs k.2.2.1
def Ext (v w : VV) : Prop := v.1 = w.1 /\ ∃ l, w.2 = v.2 ++ l
theorem Ext.trans {u v w : VV} (a : Ext u v) (b : Ext v w) : Ext u w := by
 obtain ⟨l, hl⟩ := a.2; obtain ⟨m, hm⟩ := b.2;exact ⟨a.1.trans b.1, l ++ m, by rw [hm, hl, List.append_assoc]⟩
theorem XF {v : VV} {key : List Int} {ad : List (List Int)} {s : List Int} (he : (jV v key ad s).2.2 ≠ 0) : (jV v key ad s).1 = v /\ (jV v key ad s).2.1 = [] := by
 obtain ⟨b, xs⟩ := v;cases b with
 | false =>
  refine ⟨rfl, ?_⟩;simp only [jV, cond_false] at he ⊢
  unfold xC at he ⊢
  by_cases h : oQ key ad = 0
  ·rw [if_pos h] at he ⊢
   by_cases h' : s.length > 65536
   ·rw [if_pos h']
   ·rw [if_neg h'] at he; exact absurd rfl he
  ·rw [if_neg h]
 | true =>
  simp only [jV, cond_true] at he ⊢
  rcases xE xs key ad s with ⟨_, h, h'⟩ | ⟨_, _, _, _, h⟩ | ⟨_, _, _, h⟩
  ·rw [h, h']; exact ⟨rfl, rfl⟩
  ·rw [h] at he; exact absurd rfl he
  ·rw [h] at he; exact absurd rfl he
theorem OU {xs : List KK} {key : List Int} {ad : List (List Int)} {s : List Int} (hf : uG (true, xs) = true) (he : (sS xs key ad s).2.2 = 0) :
  sQ key ad s.length = 0 /\ ∃ k, k < (sS xs key ad s).1.length /\ rd k0 (sS xs key ad s).1 (k : Int) = (key, ad, s, (sS xs key ad s).2.1) := by
 rcases xE xs key ad s with ⟨h, _, _⟩ | ⟨h0, k, hk, ha, h⟩ | ⟨h0, h1, h2, h⟩
 ·exact absurd he h
 ·rw [h];refine ⟨h0, k, hk, ?_⟩;unfold FM at ha;simp only [Bool.and_eq_true, decide_eq_true_eq] at ha;obtain ⟨⟨a1, a2⟩, a3⟩ := ha;rw [<- a1, <- a2, <- a3]
 ·rw [h];exact ⟨h0, xs.length, by simp, QA⟩
theorem U5 {v : VV} {key : List Int} {ad : List (List Int)} {s : List Int} (hf : uG v = true) (he : (jV v key ad s).2.2 = 0) :
  oP (key, ad, [], []) = 0 /\ s.length <= 65536 /\ (jV v key ad s).2.1.length = s.length + 16 /\ Bs (jV v key ad s).2.1 := by
 have hfw := U3 hf key ad s;obtain ⟨b, xs⟩ := v;cases b with
 | false =>
  simp only [jV, cond_false] at he ⊢
  have h0 : oQ key ad = 0 /\ s.length <= 65536 := by
   unfold xC at he;by_cases h : oQ key ad = 0
   ·rw [if_pos h] at he;by_cases h' : s.length > 65536
    ·rw [if_pos h'] at he; exact absurd he (by decide)
    ·exact ⟨h, by omega⟩
   ·rw [if_neg h] at he; exact absurd he h
  have hr : xC key ad s = (oZ key ad s, 0) := by unfold xC; rw [if_pos h0.1, if_neg (by omega)]
  rw [hr];exact ⟨by rw [<- FY]; exact h0.1, h0.2, Iw _ _ _, Qy _ _ _⟩
 | true =>
  simp only [jV, cond_true] at he hfw ⊢
  obtain ⟨h0, k, hk, e⟩ := OU hf he;obtain ⟨g1, g2⟩ := F5 h0;have ht := (U4 hfw hk).1;rw [e] at ht;simp only at ht;refine ⟨g1, g2, by rw [ht, QB], by rw [ht]; exact txt_B _ _⟩
theorem OV {xs : List KK} {key : List Int} {ad : List (List Int)} {t : List Int} (h : (FX xs key ad t).2 = 0) :
  ∃ k, k < xs.length /\ rd k0 xs (k : Int) = (key, ad, (FX xs key ad t).1, t) := by
 unfold FX at h ⊢
 by_cases h0 : oP (key, ad, [], []) = 0
 ·rw [if_pos h0] at h ⊢
  by_cases h1 : t.length < 16
  ·rw [if_pos h1] at h; exact absurd h (by decide)
  ·rw [if_neg h1] at h ⊢
   by_cases h2 : t.length > 65552
   ·rw [if_pos h2] at h; exact absurd h (by decide)
   ·rw [if_neg h2] at h ⊢
    cases hq : (List.range xs.length).find? (fun j : Nat => hit key ad t (rd k0 xs (j : Int))) with
    | none => rw [hq] at h; exact absurd h (show (17 : Int) ≠ 0 by decide)
    | some k =>
     have hh : hit key ad t (rd k0 xs (k : Int)) = true := by simpa using List.find?_some hq
     unfold hit at hh;simp only [Bool.and_eq_true, decide_eq_true_eq] at hh;obtain ⟨⟨a1, a2⟩, a3⟩ := hh;refine ⟨k, List.mem_range.1 (List.mem_of_find?_eq_some hq), ?_⟩;simp only;rw [<- a1, <- a2, <- a3]
 ·rw [if_neg h0] at h; exact absurd h h0
theorem U6 {v : VV} {key : List Int} {ad : List (List Int)} {t : List Int} (hf : uG v = true) (hb : vB v) (h : (iq v key ad t).2 = 0) :
  oP (key, ad, [], []) = 0 /\ (iq v key ad t).1.length <= 65536 /\ t.length = (iq v key ad t).1.length + 16 /\ Bs (iq v key ad t).1 := by
 obtain ⟨b, xs⟩ := v;cases b with
 | false =>
  simp only [iq, cond_false] at h ⊢
  unfold sO at h ⊢
  by_cases h0 : oQ key ad = 0
  ·rw [if_pos h0] at h ⊢
   by_cases h1 : t.length < 16
   ·rw [if_pos h1] at h; exact absurd h (by decide)
   ·rw [if_neg h1] at h ⊢
    by_cases h2 : t.length > 65552
    ·rw [if_pos h2] at h; exact absurd h (by decide)
    ·rw [if_neg h2] at h ⊢
     split at h
     ·rename_i q;rw [if_pos q];have hl : (kW key t).length = t.length - 16 := by unfold kW; rw [nN, List.length_drop]
      refine ⟨by rw [<- FY]; exact h0, by rw [hl]; omega, by rw [hl]; omega, ?_⟩;unfold kW; exact Qw _ _ _
     ·exact absurd h (by decide)
  ·rw [if_neg h0] at h; exact absurd h h0
 | true =>
  simp only [iq, cond_true] at h ⊢
  obtain ⟨k, hk, e⟩ := OV h;obtain ⟨f1, f2⟩ := U4 hf hk;rw [e] at f1 f2;simp only at f1 f2;refine ⟨?_, f2, (congrArg List.length f1).trans (QB _ _), ?_⟩
  ·unfold FX at h;by_cases h0 : oP (key, ad, [], []) = 0
   ·exact h0
   ·rw [if_neg h0] at h; exact absurd h h0
  ·have := hb (rd k0 xs (k : Int)) (fJ (by omega) (by show (k : Int) < (xs.length : Int); omega));rw [e] at this;exact this
theorem v_B {v : VV} (h : Ty.ok (.pair .bool (.lst (.pair .str (.pair (.lst .str) (.pair .str .str))))) v) : vB v := by
 obtain ⟨_, h1, h2⟩ := h;intro k hk;obtain ⟨a, ⟨b1, b2⟩, c, d⟩ := h2 k hk;exact c.2
end Go.AM
end
section
namespace Go.AM
def findF (l : List FF) (kind : Int) : List Int := ((List.range l.length).filter fun k : Nat => decide ((rd f0 l (k : Int)).1 = kind)).map fun k : Nat => (k : Int)
def yL (l : List FF) (kind : Int) (n : Nat) : List Int := ((List.range n).filter fun k : Nat => decide ((rd f0 l (k : Int)).1 = kind)).map fun k : Nat => (k : Int)
theorem BO (l : List FF) (kind : Int) (n : Nat) : (yL l kind n).length <= n := by
 unfold yL;rw [List.length_map];exact Nat.le_trans (List.length_filter_le _ _) (by simp)
theorem F6 (l : List FF) (kind : Int) (n : Nat) : yL l kind (n + 1) = if (rd f0 l (n : Int)).1 = kind then yL l kind n ++ [(n : Int)] else yL l kind n := by
 unfold yL;rw [List.range_succ, List.filter_append, List.map_append];by_cases h : (rd f0 l (n : Int)).1 = kind
 ·rw [if_pos h, List.filter_cons_of_pos (by simpa using h)]; rfl
 ·rw [if_neg h, List.filter_cons_of_neg (by simpa using h)]; simp
theorem MP {l : List FF} (kind : Int) (hl : l.length <= 140737488351232) (h2 : l.length < 8796093022208) : iF.run .lim (l, kind, ()) = some (findF l kind) := by
 have e := dB (f := iF.l0 .lim) (fun k => (kind, l, (l.length : Int), (k : Int), yL l kind k, ())) (n := l.length) (fun k hk => by
  rw [iF.q0];have hn := BO l kind k;simp only [iF.b0, au (show (k : Int) < (l.length : Int) by omega), aH (show (0 : Int) <= (k : Int) by omega) (show (k : Int) < (l.length : Int) by omega), cond_true, mM k (by omega), F6];by_cases h : (rd f0 l (k : Int)).1 = kind
  ·rw [au h, if_pos h];simp only [cond_true];rw [cond_pos (au (show (yL l kind k).length + [(k : Int)].length < 8796093022208 by simp; omega))]
  ·rw [aA h, if_neg h]; rfl)
 have e0 : iF.l0 .lim (kind, l, (l.length : Int), 0, ([] : List Int), ()) = _ := e;simp only [iF.run, aF (show l.length < 9223372036854775808 by omega), cond_true, e0];rw [iF.q0];simp only [iF.b0, aA (show ¬ (l.length : Int) < (l.length : Int) by omega), cond_false, Option.bind_some];rfl
theorem MQ {l : List FF} (kind : Int) (hl : l.length <= 140737488351232) (h2 : l.length < 8796093022208) : bQ.run .lim (l, kind, ()) = some (findF l kind) := by
 have e := dB (f := bQ.l0 .lim) (fun k => (l, kind, (k : Int), yL l kind k, ())) (n := l.length) (fun k hk => by
  rw [bQ.q0];have hn := BO l kind k;simp only [bQ.b0, aF (show l.length < 9223372036854775808 by omega), au (show (k : Int) < (l.length : Int) by omega), aH (show (0 : Int) <= (k : Int) by omega) (show (k : Int) < (l.length : Int) by omega), cond_true, mM k (by omega), F6];by_cases h : (rd f0 l (k : Int)).1 = kind
  ·rw [au h, if_pos h];simp only [cond_true];rw [cond_pos (au (show (yL l kind k).length + [(k : Int)].length < 8796093022208 by simp; omega))]
  ·rw [aA h, if_neg h]; rfl)
 have e0 : bQ.l0 .lim (l, kind, 0, ([] : List Int), ()) = _ := e;simp only [bQ.run, e0];rw [bQ.q0];simp only [bQ.b0, aF (show l.length < 9223372036854775808 by omega), aA (show ¬ (l.length : Int) < (l.length : Int) by omega), cond_true, cond_false, Option.bind_some];rfl
def uK (l : List FF) (kind : Int) : Option Nat := (List.range l.length).find? fun k : Nat => decide ((rd f0 l (k : Int)).1 = kind)
theorem Df {α : Type} (p : α -> Bool) : ∀ l : List α, l.find? p = (l.filter p).head?
 | [] => rfl
 | a :: l => by
  cases h : p a with
  | true => rw [List.find?_cons_of_pos h, List.filter_cons_of_pos h]; rfl
  | false => rw [List.find?_cons_of_neg (by simp [h]), List.filter_cons_of_neg (by simp [h]), Df p l]
theorem Dh (l : List FF) (kind : Int) : (uK l kind = none /\ findF l kind = []) \/ ∃ k r, uK l kind = some k /\ findF l kind = (k : Int) :: r /\ k < l.length /\ (rd f0 l (k : Int)).1 = kind := by
 unfold uK findF;rw [Df];cases h : (List.range l.length).filter (fun k : Nat => decide ((rd f0 l (k : Int)).1 = kind)) with
 | nil => exact .inl ⟨rfl, rfl⟩
 | cons k r =>
  have hm : k ∈ (List.range l.length).filter (fun k : Nat => decide ((rd f0 l (k : Int)).1 = kind)) := by rw [h]; exact .head _
  obtain ⟨h1, h2⟩ := List.mem_filter.1 hm;exact .inr ⟨k, _, rfl, rfl, List.mem_range.1 h1, by simpa using h2⟩
theorem xZ (l : List FF) (kind : Int) : (findF l kind).length <= l.length := BO l kind l.length
def OW (l : List FF) (kind : Int) : List Int × Int :=
 if (findF l kind).length = 0 then ([], 19) else if (findF l kind).length = 1 then ((rd f0 l (rd 0 (findF l kind) 0)).2, 0) else ([], 24)
theorem U7 {l : List FF} {kind : Int} (h : (findF l kind).length ≠ 0) : inB 0 ((findF l kind).length : Int) = true /\ inB (rd 0 (findF l kind) 0) (l.length : Int) = true := by
 refine ⟨aH (by omega) (by omega), ?_⟩;rcases Dh l kind with ⟨_, q⟩ | ⟨k, r, _, q, hk, _⟩
 ·rw [q] at h; exact absurd rfl h
 ·rw [q];exact aH (show (0 : Int) <= (k : Int) by omega) (show (k : Int) < (l.length : Int) by omega)
theorem U8 {l : List FF} (kind : Int) (hl : l.length < 8796093022208) : uw.run .lim (l, kind, ()) = some ((OW l kind).1, (OW l kind).2, ()) := by
 have hn := xZ l kind;simp only [uw.run, MP kind (by omega) hl, Option.bind_some, aF (show (findF l kind).length < 9223372036854775808 by omega), cond_true];unfold OW;by_cases h0 : (findF l kind).length = 0
 ·rw [au (show ((findF l kind).length : Int) = 0 by omega), if_pos h0]; rfl
 ·rw [aA (show ¬ ((findF l kind).length : Int) = 0 by omega), if_neg h0];obtain ⟨i1, i2⟩ := U7 h0;by_cases h1 : (findF l kind).length = 1
  ·rw [au (show ((findF l kind).length : Int) = 1 by omega), if_pos h1];simp only [cond_true, cond_false, i1, i2]
  ·rw [aA (show ¬ ((findF l kind).length : Int) = 1 by omega), if_neg h1]; rfl
theorem XG {l : List FF} (kind : Int) (hl : l.length < 8796093022208) : jE.run .lim (l, kind, ()) = some ((OW l kind).1, (OW l kind).2, ()) := by
 have hn := xZ l kind;simp only [jE.run, MQ kind (by omega) hl, Option.bind_some, aF (show (findF l kind).length < 9223372036854775808 by omega), cond_true];unfold OW;by_cases h0 : (findF l kind).length = 0
 ·rw [au (show ((findF l kind).length : Int) = 0 by omega), if_pos h0]; rfl
 ·rw [aA (show ¬ ((findF l kind).length : Int) = 0 by omega), if_neg h0];obtain ⟨i1, i2⟩ := U7 h0;by_cases h1 : (findF l kind).length = 1
  ·rw [aA (show ¬ ((findF l kind).length : Int) > 1 by omega), if_pos h1];simp only [cond_true, cond_false, i1, i2]
  ·rw [au (show ((findF l kind).length : Int) > 1 by omega), if_neg h1]; rfl
def oU (n : Nat) : Nat := (4 - n % 4) % 4
def sU (s : List Int) : List Int := s ++ List.replicate (oU s.length) 0
theorem Iy : ∀ n, Dq [0] n = List.replicate n (0 : Int)
 | 0 => rfl
 | n + 1 => by rw [Dq, Iy n]; rfl
theorem and3' (n : Int) : gB .i64 n 3 = n % 4 := by
 show IntKind.i64.wrap ((BitVec.ofInt 64 n &&& BitVec.ofInt 64 3).toNat : Int) = _;rw [BitVec.toNat_and, BitVec.toNat_ofInt, show (BitVec.ofInt 64 3).toNat = 2 ^ 2 - 1 from rfl, Nat.and_two_pow_sub_one_eq_mod];rw [wrap64 (by omega) (by omega)]; omega
theorem Iz {s : List Int} (h : s.length < 4611686018427387904) : lQ.run .lim (s, ()) = some (sU s) := by
 have w : IntKind.i64.wrap (0 - (s.length : Int)) = -(s.length : Int) := by rw [wrap64 (by omega) (by omega)]; omega
 have e : gB .i64 (-(s.length : Int)) 3 = (oU s.length : Int) := by rw [and3']; unfold oU; omega
 have hp : oU s.length < 4 := by unfold oU; omega
 simp only [lQ.run, aF (show s.length < 9223372036854775808 by omega), cond_true, w, e];have hr : strings_Repeat.run .lim ([0], (oU s.length : Int), ()) = some (List.replicate (oU s.length) 0) := by
  show LW ([0], (oU s.length : Int), ()) = _;unfold LW;simp only [Int.toNat_natCast];rw [au (show (0 : Int) <= (oU s.length : Int) by omega), Nat.ble_eq_true_of_le (show [(0 : Int)].length * oU s.length <= 140737488355328 by simp; omega), Iy]; rfl
 simp only [hr, Option.bind_some];rw [cond_pos (au (show s.length + (List.replicate (oU s.length) (0 : Int)).length <= maxStr by rw [List.length_replicate]; unfold maxStr; omega))];rfl
theorem JX : ∀ (d : Nat) (s : List Int), s.length + d < 4611686018427387904 -> oU s.length = d -> dw.l0 .lim (s, ()) = some (s ++ List.replicate d 0, ()) := by
 intro d
 induction d with
 | zero =>
  intro s h hd;rw [dw.q0];have : (s.length : Int).tmod 4 = 0 := by rw [Int.tmod_eq_emod_of_nonneg (by omega)]; unfold oU at hd; omega
  simp only [dw.b0, aF (show s.length < 9223372036854775808 by omega), cond_true, au this, Bool.not_true, cond_false, List.replicate_zero, List.append_nil]
 | succ d ih =>
  intro s h hd;rw [dw.q0];have : ¬ (s.length : Int).tmod 4 = 0 := by rw [Int.tmod_eq_emod_of_nonneg (by omega)]; unfold oU at hd; omega
  simp only [dw.b0, aF (show s.length < 9223372036854775808 by omega), cond_true, aA this, Bool.not_false];rw [cond_pos (au (show s.length + [(0 : Int)].length <= maxStr by simp; unfold maxStr; omega)), ih (s ++ [0]) (by simp; omega) (by unfold oU at hd ⊢; simp; omega), List.append_assoc];rfl
theorem OX {s : List Int} (h : s.length < 4611686018427387900) : dw.run .lim (s, ()) = some (sU s) := by
 have hp : oU s.length < 4 := by unfold oU; omega
 simp only [dw.run, JX _ s (by omega) rfl, Option.bind_some];rfl
def qJ (b : List Int) : Nat := (rd 0 b 2 * 256 + rd 0 b 3).toNat
def xG (b : List Int) : Prop := ¬ (rd 0 b 0 * 256 + rd 0 b 1 = 16) \/ b.length < 20 + qJ b \/ b.drop 20 ≠ sU ((b.take (20 + qJ b)).drop 20)
open Classical in
noncomputable def vG (b : List Int) : List Int × List Int × Int :=
 if b.length < 4 then ([], [], 11) else if xG b then ([], [], 10) else ((b.take 20).drop 4, (b.take (20 + qJ b)).drop 20, 0)
end Go.AM
end
section
namespace Go.AM
theorem MR {b : List Int} (hb : Bs b) {k : Nat} (h : k < b.length) : B8 (rd 0 b (k : Int)) := hb _ (fJ (by omega) (by omega))
theorem QC {α : Type} {d : α} {xs : List α} {n k : Nat} : rd d (xs.drop n) (k : Int) = rd d xs ((n + k : Nat) : Int) := by unfold rd; rw [Int.toNat_natCast, Int.toNat_natCast, List.getD_eq_getElem?_getD, List.getD_eq_getElem?_getD, List.getElem?_drop]
theorem sV {α : Type} {s : List α} {b : Nat} {j : Int} (hj : j = (b : Int)) : cut s 0 j = s.take b := by subst hj; rfl
theorem MS {b : List Int} (hb : Bs b) (hl : b.length < 1000000) : lY.run .lim (b, ()) = some ((vG b).1, (vG b).2.1, (vG b).2.2, ()) := by
 simp only [lY.run, aF (show b.length < 9223372036854775808 by omega), cond_true];have hc0 : cut b 2 (b.length : Int) = b.drop 2 := pJ (a := 2) rfl;have hc1 : cut b 0 2 = b.take 2 := sV (b := 2) rfl;simp only [hc0, hc1];unfold vG;by_cases h2 : b.length < 2
 ·rw [au (show (b.length : Int) < 2 by omega), if_pos (by omega)]; rfl
 rw [aA (show ¬ (b.length : Int) < 2 by omega)];have l2 : (b.drop 2).length = b.length - 2 := List.length_drop;have lt2 : (b.take 2).length = 2 := by rw [List.length_take]; omega
 simp only [cond_false, aP (show (0 : Int) <= 0 by omega) (show (0 : Int) <= 2 by omega) (show (2 : Int) <= (b.length : Int) by omega), aP (show (0 : Int) <= 2 by omega) (show (2 : Int) <= (b.length : Int) by omega) (Int.le_refl _), cond_true, lt2,
  aH (show (0 : Int) <= 0 by omega) (show (0 : Int) < ((2 : Nat) : Int) by omega), aH (show (0 : Int) <= 1 by omega) (show (1 : Int) < ((2 : Nat) : Int) by omega), aF (show (b.drop 2).length < 9223372036854775808 by omega)]
 by_cases h4 : b.length < 4
 ·rw [au (show ((b.drop 2).length : Int) < 2 by omega), if_pos h4]; rfl
 rw [aA (show ¬ ((b.drop 2).length : Int) < 2 by omega), if_neg h4];have hc2 : cut (b.drop 2) 0 2 = (b.drop 2).take 2 := sV (b := 2) rfl;have hc3 : cut (b.drop 2) 2 ((b.drop 2).length : Int) = b.drop 4 := (show cut (b.drop 2) 2 ((b.drop 2).length : Int) = (b.drop 2).drop 2 from pJ (a := 2) rfl).trans (by rw [List.drop_drop]);have lt3 : ((b.drop 2).take 2).length = 2 := by rw [List.length_take]; omega
 have l4 : (b.drop 4).length = b.length - 4 := List.length_drop;have r0 : rd 0 (b.take 2) 0 = rd 0 b 0 := pG (k := 0) (n := 2) (by decide);have r1 : rd 0 (b.take 2) 1 = rd 0 b 1 := pG (k := 1) (n := 2) (by decide);have r2 : rd 0 ((b.drop 2).take 2) 0 = rd 0 b 2 := (pG (k := 0) (n := 2) (by decide)).trans (QC (n := 2) (k := 0));have r3 : rd 0 ((b.drop 2).take 2) 1 = rd 0 b 3 := (pG (k := 1) (n := 2) (by decide)).trans (QC (n := 2) (k := 1));have b0 : B8 (rd 0 b 0) := MR hb (k := 0) (by omega);have b1 : B8 (rd 0 b 1) := MR hb (k := 1) (by omega);have b2 : B8 (rd 0 b 2) := MR hb (k := 2) (by omega);have b3 : B8 (rd 0 b 3) := MR hb (k := 3) (by omega);have hm : rd 0 b 2 * 256 + rd 0 b 3 = (qJ b : Int) := by unfold qJ; omega
 have hm2 : qJ b < 65536 := by unfold qJ; omega
 simp only [cond_false, hc2, hc3, lt3, r0, r1, r2, r3, num2 b0 b1, num2 b2 b3, hm, aP (show (0 : Int) <= 0 by omega) (show (0 : Int) <= 2 by omega) (show (2 : Int) <= ((b.drop 2).length : Int) by omega), aP (show (0 : Int) <= 2 by omega) (show (2 : Int) <= ((b.drop 2).length : Int) by omega) (Int.le_refl _), cond_true,
  aH (show (0 : Int) <= 0 by omega) (show (0 : Int) < ((2 : Nat) : Int) by omega), aH (show (0 : Int) <= 1 by omega) (show (1 : Int) < ((2 : Nat) : Int) by omega)]
 by_cases hn : rd 0 b 0 * 256 + rd 0 b 1 = 16
 ·simp only [hn, decide_true, Bool.not_true, cond_false, aF (show (b.drop 4).length < 9223372036854775808 by omega), cond_true];by_cases h20 : b.length < 20
  ·rw [au (show ((b.drop 4).length : Int) < 16 by omega), if_pos (show xG b from .inr (.inl (by omega)))]; rfl
  rw [aA (show ¬ ((b.drop 4).length : Int) < 16 by omega)];have hc4 : cut (b.drop 4) 0 16 = (b.take 20).drop 4 := (show cut (b.drop 4) 0 16 = (b.drop 4).take 16 from sV (b := 16) rfl).trans (by rw [List.drop_take]);have hc5 : cut (b.drop 4) 16 ((b.drop 4).length : Int) = b.drop 20 := (show cut (b.drop 4) 16 ((b.drop 4).length : Int) = (b.drop 4).drop 16 from pJ (a := 16) rfl).trans (by rw [List.drop_drop]);have l20 : (b.drop 20).length = b.length - 20 := List.length_drop;simp only [cond_false, hc4, hc5, aP (show (0 : Int) <= 0 by omega) (show (0 : Int) <= 16 by omega) (show (16 : Int) <= ((b.drop 4).length : Int) by omega), aP (show (0 : Int) <= 16 by omega) (show (16 : Int) <= ((b.drop 4).length : Int) by omega) (Int.le_refl _), cond_true, aF (show (b.drop 20).length < 9223372036854775808 by omega)];by_cases hmm : b.length < 20 + qJ b
  ·rw [au (show ((b.drop 20).length : Int) < (qJ b : Int) by omega), if_pos (show xG b from .inr (.inl hmm))]; rfl
  rw [aA (show ¬ ((b.drop 20).length : Int) < (qJ b : Int) by omega)];have hc6 : cut (b.drop 20) 0 (qJ b : Int) = (b.drop 20).take (qJ b) := sV rfl;have hc7 : cut (b.drop 20) (qJ b : Int) ((b.drop 20).length : Int) = (b.drop 20).drop (qJ b) := pJ rfl;have ls : ((b.drop 20).take (qJ b)).length = qJ b := by rw [List.length_take]; omega
  have hst : (b.take (20 + qJ b)).drop 20 = (b.drop 20).take (qJ b) := by rw [List.drop_take]; congr 1; omega
  have lsum : ((b.drop 20).take (qJ b)).length + ((b.drop 20).drop (qJ b)).length <= maxStr := by rw [ls, List.length_drop]; unfold maxStr; omega
  simp only [cond_false, hc6, hc7, aP (show (0 : Int) <= 0 by omega) (show (0 : Int) <= (qJ b : Int) by omega) (show (qJ b : Int) <= ((b.drop 20).length : Int) by omega), aP (show (0 : Int) <= (qJ b : Int) by omega) (show (qJ b : Int) <= ((b.drop 20).length : Int) by omega) (Int.le_refl _), cond_true];rw [cond_pos (au lsum), Iz (show ((b.drop 20).take (qJ b)).length < 4611686018427387904 by omega)];simp only [Option.bind_some, List.take_append_drop];by_cases hf : b.drop 20 = sU ((b.drop 20).take (qJ b))
  ·rw [au hf, if_neg (show ¬ xG b from fun q => by
    rcases q with q | q | q
    ·exact q hn
    ·exact hmm q
    ·exact q (by rw [hst]; exact hf)), hst]; rfl
  ·rw [aA hf, if_pos (show xG b from .inr (.inr (by rw [hst]; exact hf)))]; rfl
 ·rw [aA hn, if_pos (show xG b from .inl hn)]; rfl
theorem IB {b : List Int} (hb : Bs b) (hl : b.length < 1000000) : eY.run .lim (b, ()) = some ((vG b).1, (vG b).2.1, (vG b).2.2, ()) := by
 simp only [eY.run, aF (show b.length < 9223372036854775808 by omega), cond_true];unfold vG;by_cases h4 : b.length < 4
 ·rw [au (show (b.length : Int) < 4 by omega), if_pos h4]; rfl
 rw [aA (show ¬ (b.length : Int) < 4 by omega), if_neg h4];have b0 : B8 (rd 0 b 0) := MR hb (k := 0) (by omega);have b1 : B8 (rd 0 b 1) := MR hb (k := 1) (by omega);have b2 : B8 (rd 0 b 2) := MR hb (k := 2) (by omega);have b3 : B8 (rd 0 b 3) := MR hb (k := 3) (by omega);have hm : rd 0 b 2 * 256 + rd 0 b 3 = (qJ b : Int) := by unfold qJ; omega
 have hm2 : qJ b < 65536 := by unfold qJ; omega
 have i : ∀ a : Int, 0 <= a -> a < 4 -> inB a (b.length : Int) = true := fun a x y => aH x (by omega)
 simp only [cond_false, i 0 (by decide) (by decide), i 1 (by decide) (by decide), i 2 (by decide) (by decide), i 3 (by decide) (by decide), cond_true, Yo b0 b1, Yo b2 b3, hm, Bool.or_true];by_cases hn : rd 0 b 0 * 256 + rd 0 b 1 = 16
 ·have w1 : IntKind.i64.wrap (4 + 16) = 20 := by decide
  have w2 : IntKind.i64.wrap (20 + (qJ b : Int)) = ((20 + qJ b : Nat) : Int) := by rw [wrap64 (by omega) (by omega)]; omega
  simp only [hn, decide_true, Bool.not_true, Bool.false_or, w1, w2];by_cases hmm : b.length < 20 + qJ b
  ·rw [au (show (b.length : Int) < ((20 + qJ b : Nat) : Int) by omega), if_pos (show xG b from .inr (.inl hmm))]; rfl
  rw [aA (show ¬ (b.length : Int) < ((20 + qJ b : Nat) : Int) by omega)];have hc4 : cut b 4 20 = (b.take 20).drop 4 := jB (a := 4) (b := 20) rfl rfl;have hc5 : cut b 20 (b.length : Int) = b.drop 20 := pJ (a := 20) rfl;have hc6 : cut b 20 ((20 + qJ b : Nat) : Int) = (b.take (20 + qJ b)).drop 20 := jB (a := 20) rfl rfl;have ls : ((b.take (20 + qJ b)).drop 20).length = qJ b := by rw [uF (by omega)]; omega
  simp only [cond_false, hc4, hc5, hc6, aP (show (0 : Int) <= 20 by omega) (show (20 : Int) <= ((20 + qJ b : Nat) : Int) by omega) (show ((20 + qJ b : Nat) : Int) <= (b.length : Int) by omega), aP (show (0 : Int) <= 20 by omega) (show (20 : Int) <= (b.length : Int) by omega) (Int.le_refl _), aP (show (0 : Int) <= 4 by omega) (show (4 : Int) <= 20 by omega) (show (20 : Int) <= (b.length : Int) by omega), cond_true,
   OX (show ((b.take (20 + qJ b)).drop 20).length < 4611686018427387900 by omega), Option.bind_some]
  by_cases hf : b.drop 20 = sU ((b.take (20 + qJ b)).drop 20)
  ·rw [au hf, if_neg (show ¬ xG b from fun q => by
    rcases q with q | q | q
    ·exact q hn
    ·exact hmm q
    ·exact q hf)]; rfl
  ·rw [aA hf, if_pos (show xG b from .inr (.inr hf))]; rfl
 ·rw [aA hn, if_pos (show xG b from .inl hn)]; rfl
theorem spS_B {b : List Int} (hb : Bs b) : Bs (vG b).1 /\ Bs (vG b).2.1 /\ (vG b).1.length <= b.length /\ (vG b).2.1.length <= b.length := by
 unfold vG;split
 ·exact ⟨fun x h => (by cases h), fun x h => (by cases h), by simp, by simp⟩
 ·split
  ·exact ⟨fun x h => (by cases h), fun x h => (by cases h), by simp, by simp⟩
  ·exact ⟨(hb.take _).drop _, (hb.take _).drop _, by rw [List.length_drop, List.length_take]; omega, by rw [List.length_drop, List.length_take]; omega⟩
theorem OY {a b : List FF} (ha : a.length < 9223372036854775808) (hb : b.length < 9223372036854775808) : aI.run .lim (a, b, ()) = some (decide (a = b)) := by
 simp only [aI.run, aF ha, aF hb, cond_true];by_cases hl : a.length = b.length
 ·rw [au (show (a.length : Int) = (b.length : Int) by omega)];have e := rX (f := aI.l0 .lim) (fun k => (a, b, (a.length : Int), (k : Int), ())) a.length (fun k : Nat => !decide (rd f0 a (k : Int) = rd f0 b (k : Int))) (some (.inl (false, ()))) (fun k hk => by
   rw [aI.q0];have w : IntKind.i64.wrap ((k : Int) + 1) = ((k + 1 : Nat) : Int) := by rw [wrap64 (by omega) (by omega)]; omega
   have hd : ((decide ((rd f0 a (k : Int)).1 = (rd f0 b (k : Int)).1)) && (decide ((rd f0 a (k : Int)).2 = (rd f0 b (k : Int)).2))) = decide (rd f0 a (k : Int) = rd f0 b (k : Int)) := by rw [Bool.eq_iff_iff]; simp [Prod.ext_iff]
   simp only [aI.b0, au (show (k : Int) < (a.length : Int) by omega), aH (show (0 : Int) <= (k : Int) by omega) (show (k : Int) < (a.length : Int) by omega), aH (show (0 : Int) <= (k : Int) by omega) (show (k : Int) < (b.length : Int) by omega), cond_true, w, hd])
  rw [JE hl] at e;have e0 : aI.l0 .lim (a, b, (a.length : Int), 0, ()) = _ := e;simp only [Bool.not_true, cond_false, e0];by_cases hq : a = b
  ·rw [au hq];simp only [Bool.not_true, cond_false];rw [aI.q0];simp only [aI.b0, aA (show ¬ (a.length : Int) < (a.length : Int) by omega), cond_false, Option.bind_some]
  ·rw [aA hq]; rfl
 ·rw [aA (show ¬ (a.length : Int) = (b.length : Int) by omega), aA (show ¬ a = b from fun q => hl (by rw [q]))]; rfl
theorem JY {a b : List FF} (ha : a.length < 9223372036854775808) (hb : b.length < 9223372036854775808) : bP.run .lim (a, b, ()) = some (decide (a = b)) := by
 simp only [bP.run, aF ha, aF hb, cond_true];by_cases hl : a.length = b.length
 ·rw [au (show (a.length : Int) = (b.length : Int) by omega)];have e := rX (f := bP.l0 .lim) (fun k => (a, b, (k : Int), ())) a.length (fun k : Nat => !decide (rd f0 a (k : Int) = rd f0 b (k : Int))) (some (.inl (false, ()))) (fun k hk => by
   rw [bP.q0];have w : IntKind.i64.wrap ((k : Int) + 1) = ((k + 1 : Nat) : Int) := by rw [wrap64 (by omega) (by omega)]; omega
   have hd : ((decide ((rd f0 a (k : Int)).1 = (rd f0 b (k : Int)).1)) && (decide ((rd f0 a (k : Int)).2 = (rd f0 b (k : Int)).2))) = decide (rd f0 a (k : Int) = rd f0 b (k : Int)) := by rw [Bool.eq_iff_iff]; simp [Prod.ext_iff]
   simp only [bP.b0, aF ha, au (show (k : Int) < (a.length : Int) by omega), aH (show (0 : Int) <= (k : Int) by omega) (show (k : Int) < (a.length : Int) by omega), aH (show (0 : Int) <= (k : Int) by omega) (show (k : Int) < (b.length : Int) by omega), cond_true, w, hd])
  rw [JE hl] at e;have e0 : bP.l0 .lim (a, b, 0, ()) = _ := e;simp only [Bool.not_true, cond_false, e0];by_cases hq : a = b
  ·rw [au hq];simp only [Bool.not_true, cond_false];rw [bP.q0];simp only [bP.b0, aF ha, aA (show ¬ (a.length : Int) < (a.length : Int) by omega), cond_true, cond_false, Option.bind_some]
  ·rw [aA hq]; rfl
 ·rw [aA (show ¬ (a.length : Int) = (b.length : Int) by omega), aA (show ¬ a = b from fun q => hl (by rw [q]))]; rfl
theorem qG {c : Bool} {x : Option Bool} {d : Bool} (h : x = some d) : (bif c then x else some false) = some (c && d) := by cases c <;> simp [h]
def yM (a b : PK) : Bool := ((((((((((((decide (a.1 = b.1) && decide (a.2.1 = b.2.1)) && decide (a.2.2.1 = b.2.2.1)) && decide (a.2.2.2.1 = b.2.2.2.1)) && decide (a.2.2.2.2.1 = b.2.2.2.2.1)) && decide (a.2.2.2.2.2.1 = b.2.2.2.2.2.1)) && decide (a.2.2.2.2.2.2.1 = b.2.2.2.2.2.2.1)) && decide (a.2.2.2.2.2.2.2.1 = b.2.2.2.2.2.2.2.1)) && decide (a.2.2.2.2.2.2.2.2.1 = b.2.2.2.2.2.2.2.2.1)) && decide (a.2.2.2.2.2.2.2.2.2.1 = b.2.2.2.2.2.2.2.2.2.1)) && decide (a.2.2.2.2.2.2.2.2.2.2.1 = b.2.2.2.2.2.2.2.2.2.2.1)) && decide (a.2.2.2.2.2.2.2.2.2.2.2.1 = b.2.2.2.2.2.2.2.2.2.2.2.1)) && decide (a.2.2.2.2.2.2.2.2.2.2.2.2.1 = b.2.2.2.2.2.2.2.2.2.2.2.2.1)) && decide (a.fs = b.fs)
theorem SA (a b : PK) : yM a b = true ↔ a = b := by
 obtain ⟨a1, a2, a3, a4, a5, a6, a7, a8, a9, a10, a11, a12, a13, al⟩ := a;obtain ⟨b1, b2, b3, b4, b5, b6, b7, b8, b9, b10, b11, b12, b13, bl⟩ := b;unfold yM;simp only [Bool.and_eq_true, decide_eq_true_eq, Prod.mk.injEq];constructor
 ·rintro ⟨⟨⟨⟨⟨⟨⟨⟨⟨⟨⟨⟨⟨h1, h2⟩, h3⟩, h4⟩, h5⟩, h6⟩, h7⟩, h8⟩, h9⟩, h10⟩, h11⟩, h12⟩, h13⟩, WM⟩
  exact ⟨h1, h2, h3, h4, h5, h6, h7, h8, h9, h10, h11, h12, h13, WM⟩
 ·rintro ⟨h1, h2, h3, h4, h5, h6, h7, h8, h9, h10, h11, h12, h13, WM⟩
  exact ⟨⟨⟨⟨⟨⟨⟨⟨⟨⟨⟨⟨⟨h1, h2⟩, h3⟩, h4⟩, h5⟩, h6⟩, h7⟩, h8⟩, h9⟩, h10⟩, h11⟩, h12⟩, h13⟩, WM⟩
theorem U9 {a b : PK} (ha : a.fs.length < 9223372036854775808) (hb : b.fs.length < 9223372036854775808) : sD.run .lim (a, b, ()) = some (yM a b) := by
 simp only [sD.run];rw [qG (OY ha hb)];simp only [Option.bind_some];congr 1;unfold yM;rw [Bool.eq_iff_iff];simp only [Bool.and_eq_true, decide_eq_true_eq];constructor
 ·rintro ⟨⟨⟨⟨⟨⟨⟨h1, h2⟩, h3⟩, h4⟩, h5⟩, h6⟩, ⟨⟨⟨⟨⟨h7, h8⟩, h9⟩, h10⟩, h11⟩, h12⟩, h13⟩, _, WM⟩
  exact ⟨⟨⟨⟨⟨⟨⟨⟨⟨⟨⟨⟨⟨h1, h2⟩, h3⟩, h4⟩, h5⟩, h6⟩, h7⟩, h8⟩, h9⟩, h10⟩, h11⟩, h12⟩, h13⟩, WM⟩
 ·rintro ⟨⟨⟨⟨⟨⟨⟨⟨⟨⟨⟨⟨⟨h1, h2⟩, h3⟩, h4⟩, h5⟩, h6⟩, h7⟩, h8⟩, h9⟩, h10⟩, h11⟩, h12⟩, h13⟩, WM⟩
  exact ⟨⟨⟨⟨⟨⟨⟨h1, h2⟩, h3⟩, h4⟩, h5⟩, h6⟩, ⟨⟨⟨⟨⟨h7, h8⟩, h9⟩, h10⟩, h11⟩, h12⟩, h13⟩, ⟨⟨⟨⟨⟨⟨h1, h2⟩, h3⟩, h4⟩, h5⟩, h6⟩, ⟨⟨⟨⟨⟨h7, h8⟩, h9⟩, h10⟩, h11⟩, h12⟩, h13⟩, WM⟩
theorem SB {a b : PK} (ha : a.fs.length < 9223372036854775808) (hb : b.fs.length < 9223372036854775808) : jq.run .lim (a, b, ()) = some (yM a b) := by
 simp only [jq.run];rw [qG (JY ha hb)];simp only [Option.bind_some];generalize hx : (((((((decide (a.1 = b.1) && decide (a.2.1 = b.2.1)) && decide (a.2.2.1 = b.2.2.1)) && decide (a.2.2.2.1 = b.2.2.2.1)) && decide (a.2.2.2.2.1 = b.2.2.2.2.1)) && decide (a.2.2.2.2.2.1 = b.2.2.2.2.2.1)) && decide (a.2.2.2.2.2.2.1 = b.2.2.2.2.2.2.1)) && decide (a.2.2.2.2.2.2.2.1 = b.2.2.2.2.2.2.2.1)) = x;have hn : ((((((((!(decide (a.1 = b.1))) || (!(decide (a.2.1 = b.2.1)))) || (!(decide (a.2.2.1 = b.2.2.1)))) || (!(decide (a.2.2.2.1 = b.2.2.2.1)))) || (!(decide (a.2.2.2.2.1 = b.2.2.2.2.1)))) || (!(decide (a.2.2.2.2.2.1 = b.2.2.2.2.2.1)))) || (!(decide (a.2.2.2.2.2.2.1 = b.2.2.2.2.2.2.1)))) || (!(decide (a.2.2.2.2.2.2.2.1 = b.2.2.2.2.2.2.2.1)))) = !x := by rw [<- hx]; simp only [Bool.not_and]
 rw [hn];have hs : yM a b = (x && (((((decide (a.2.2.2.2.2.2.2.2.1 = b.2.2.2.2.2.2.2.2.1) && decide (a.2.2.2.2.2.2.2.2.2.1 = b.2.2.2.2.2.2.2.2.2.1)) && decide (a.2.2.2.2.2.2.2.2.2.2.1 = b.2.2.2.2.2.2.2.2.2.2.1)) && decide (a.2.2.2.2.2.2.2.2.2.2.2.1 = b.2.2.2.2.2.2.2.2.2.2.2.1)) && decide (a.2.2.2.2.2.2.2.2.2.2.2.2.1 = b.2.2.2.2.2.2.2.2.2.2.2.2.1)) && decide (a.fs = b.fs))) := by
  unfold yM;rw [<- hx];simp only [Bool.and_assoc]
 rw [hs];cases x with
 | false => rfl
 | true =>
  simp only [Bool.not_true, cond_false, Bool.true_and];congr 1;rw [Bool.eq_iff_iff];simp only [Bool.and_eq_true];constructor
  ·rintro ⟨h, _, k⟩; exact ⟨h, k⟩
  ·rintro ⟨h, k⟩; exact ⟨h, h, k⟩
abbrev NT := PK × List FF × List FF
abbrev n0 : NT := (p0, ([], []))
def IC (a b : NT) : Bool := (yM a.1 b.1 && decide (a.2.1 = b.2.1)) && decide (a.2.2 = b.2.2)
structure NL (a : NT) : Prop where
 x : a.1.fs.length < 9223372036854775808
 y : a.2.1.length < 9223372036854775808
 z : a.2.2.length < 9223372036854775808
theorem OZ (a : NT) : IC a a = true := by
 unfold IC;rw [(SA a.1 a.1).2 rfl]; simp
theorem MV {a b : NT} (ha : NL a) (hb : NL b) : sF.run .lim (a, b, ()) = some (IC a b) := by
 simp only [sF.run, U9 ha.x hb.x, Option.bind_some, qG (OY ha.y hb.y), qG (OY ha.z hb.z)];unfold IC;congr 1;cases yM a.1 b.1 <;> cases decide (a.2.1 = b.2.1) <;> rfl
theorem IE {a b : NT} (ha : NL a) (hb : NL b) : iH.run .lim (a, b, ()) = some (IC a b) := by
 simp only [iH.run, SB ha.x hb.x, Option.bind_some, qG (JY ha.y hb.y), qG (JY ha.z hb.z)];unfold IC;congr 1;cases yM a.1 b.1 <;> cases decide (a.2.1 = b.2.1) <;> rfl
end Go.AM
end
section
namespace Go.AM
noncomputable def BP (v : VV) (s key : List Int) : NT × Int :=
 if JM s = 0 then
  match uK (jF s).fs 1028 with
  | none => (n0, 19)
  | some k =>
   if (vG (rd f0 (jF s).fs (k : Int)).2).2.2 = 0 then
    if (iq v key [s.take (48 + (aS ((jF s).fs.take k)).length), (vG (rd f0 (jF s).fs (k : Int)).2).1] (vG (rd f0 (jF s).fs (k : Int)).2).2.1).2 = 0 then
     if (vI (iq v key [s.take (48 + (aS ((jF s).fs.take k)).length), (vG (rd f0 (jF s).fs (k : Int)).2).1] (vG (rd f0 (jF s).fs (k : Int)).2).2.1).1.length (iq v key [s.take (48 + (aS ((jF s).fs.take k)).length), (vG (rd f0 (jF s).fs (k : Int)).2).1] (vG (rd f0 (jF s).fs (k : Int)).2).2.1).1 []).2 = 0 then
      ((PK.cut (jF s) [], ((jF s).fs.take k, (vI (iq v key [s.take (48 + (aS ((jF s).fs.take k)).length), (vG (rd f0 (jF s).fs (k : Int)).2).1] (vG (rd f0 (jF s).fs (k : Int)).2).2.1).1.length (iq v key [s.take (48 + (aS ((jF s).fs.take k)).length), (vG (rd f0 (jF s).fs (k : Int)).2).1] (vG (rd f0 (jF s).fs (k : Int)).2).2.1).1 []).1)), 0)
     else (n0, (vI (iq v key [s.take (48 + (aS ((jF s).fs.take k)).length), (vG (rd f0 (jF s).fs (k : Int)).2).1] (vG (rd f0 (jF s).fs (k : Int)).2).2.1).1.length (iq v key [s.take (48 + (aS ((jF s).fs.take k)).length), (vG (rd f0 (jF s).fs (k : Int)).2).1] (vG (rd f0 (jF s).fs (k : Int)).2).2.1).1 []).2)
    else (n0, (iq v key [s.take (48 + (aS ((jF s).fs.take k)).length), (vG (rd f0 (jF s).fs (k : Int)).2).1] (vG (rd f0 (jF s).fs (k : Int)).2).2.1).2)
   else (n0, (vG (rd f0 (jF s).fs (k : Int)).2).2.2)
 else (n0, JM s)
theorem U_ {l : List FF} (hb : ∀ f ∈ l, f.2.length < 65532) : ∀ j, (aS (l.take j)).length <= j * 65536 := fun j => by
 induction j with
 | zero => exact Nat.zero_le _
 | succ j ih =>
  rw [Nat.add_mul];by_cases hjl : j < l.length
  ·rw [uz hjl, List.length_append, oK];have := hb _ (fJ (d := f0) (xs := l) (i := (j : Int)) (by omega) (by omega));omega
  ·have e1 : l.take (j + 1) = l := List.take_of_length_le (by omega);have e2 : l.take j = l := List.take_of_length_le (by omega);rw [e2] at ih;rw [e1]; exact Nat.le_trans ih (Nat.le_add_right _ _)
theorem ZF {v : VV} {key : List Int} {r : PK} (h : r.fs.length <= 16) :
  iU.l0 .lim (r.2.2.2.2.2.2.2.2.2.2.2.2.2, (r.2.2.2.2.2.2.2.2.2.2.2.2.2.length : Int), 0, key, v.1, v.2, 0, 0, 0, 0, 0, 0, 0, 0, 0, 0, 0, 0, 0, r.1, r.2.1, r.2.2.1, r.2.2.2.1, r.2.2.2.2.1, r.2.2.2.2.2.1, r.2.2.2.2.2.2.1, r.2.2.2.2.2.2.2.1, r.2.2.2.2.2.2.2.2.1, r.2.2.2.2.2.2.2.2.2.1, r.2.2.2.2.2.2.2.2.2.2.1, r.2.2.2.2.2.2.2.2.2.2.2.1, r.2.2.2.2.2.2.2.2.2.2.2.2.1, r.2.2.2.2.2.2.2.2.2.2.2.2.2, ()) = match uK r.fs 1028 with
   | some k => some (.inl ((k : Int), key, v.1, v.2, 0, 0, 0, 0, 0, 0, 0, 0, 0, 0, 0, 0, 0, r.1, r.2.1, r.2.2.1, r.2.2.2.1, r.2.2.2.2.1, r.2.2.2.2.2.1, r.2.2.2.2.2.2.1, r.2.2.2.2.2.2.2.1, r.2.2.2.2.2.2.2.2.1, r.2.2.2.2.2.2.2.2.2.1, r.2.2.2.2.2.2.2.2.2.2.1, r.2.2.2.2.2.2.2.2.2.2.2.1, r.2.2.2.2.2.2.2.2.2.2.2.2.1, r.2.2.2.2.2.2.2.2.2.2.2.2.2, ()))
   | none => some (.inr (key, v.1, v.2, 0, 0, 0, 0, 0, 0, 0, 0, 0, 0, 0, 0, 0, r.1, r.2.1, r.2.2.1, r.2.2.2.1, r.2.2.2.2.1, r.2.2.2.2.2.1, r.2.2.2.2.2.2.1, r.2.2.2.2.2.2.2.1, r.2.2.2.2.2.2.2.2.1, r.2.2.2.2.2.2.2.2.2.1, r.2.2.2.2.2.2.2.2.2.2.1, r.2.2.2.2.2.2.2.2.2.2.2.1, r.2.2.2.2.2.2.2.2.2.2.2.2.1, r.2.2.2.2.2.2.2.2.2.2.2.2.2, ())) := by
 have h : r.2.2.2.2.2.2.2.2.2.2.2.2.2.length <= 16 := h;have e := qp (f := iU.l0 .lim) (fun j => (r.2.2.2.2.2.2.2.2.2.2.2.2.2, (r.2.2.2.2.2.2.2.2.2.2.2.2.2.length : Int), (j : Int), key, v.1, v.2, 0, 0, 0, 0, 0, 0, 0, 0, 0, 0, 0, 0, 0, r.1, r.2.1, r.2.2.1, r.2.2.2.1, r.2.2.2.2.1, r.2.2.2.2.2.1, r.2.2.2.2.2.2.1, r.2.2.2.2.2.2.2.1, r.2.2.2.2.2.2.2.2.1, r.2.2.2.2.2.2.2.2.2.1, r.2.2.2.2.2.2.2.2.2.2.1, r.2.2.2.2.2.2.2.2.2.2.2.1, r.2.2.2.2.2.2.2.2.2.2.2.2.1, r.2.2.2.2.2.2.2.2.2.2.2.2.2, ())) r.2.2.2.2.2.2.2.2.2.2.2.2.2.length (fun j : Nat => decide ((rd f0 r.2.2.2.2.2.2.2.2.2.2.2.2.2 (j : Int)).1 = 1028)) (fun j => some (.inl ((j : Int), key, v.1, v.2, 0, 0, 0, 0, 0, 0, 0, 0, 0, 0, 0, 0, 0, r.1, r.2.1, r.2.2.1, r.2.2.2.1, r.2.2.2.2.1, r.2.2.2.2.2.1, r.2.2.2.2.2.2.1, r.2.2.2.2.2.2.2.1, r.2.2.2.2.2.2.2.2.1, r.2.2.2.2.2.2.2.2.2.1, r.2.2.2.2.2.2.2.2.2.2.1, r.2.2.2.2.2.2.2.2.2.2.2.1, r.2.2.2.2.2.2.2.2.2.2.2.2.1, r.2.2.2.2.2.2.2.2.2.2.2.2.2, ()))) (fun k hk => by
  rw [iU.q0];have hr : uq.run .lim (rd ((0 : Int), ([] : List Int)) r.2.2.2.2.2.2.2.2.2.2.2.2.2 (k : Int), ()) = some (decide ((rd f0 r.2.2.2.2.2.2.2.2.2.2.2.2.2 (k : Int)).1 = 1028)) := rfl;simp only [iU.b0, au (show (k : Int) < (r.2.2.2.2.2.2.2.2.2.2.2.2.2.length : Int) by omega), aH (show (0 : Int) <= (k : Int) by omega) (show (k : Int) < (r.2.2.2.2.2.2.2.2.2.2.2.2.2.length : Int) by omega), cond_true, hr, Option.bind_some, mM k (by omega)])
 have e0 : iU.l0 .lim (r.2.2.2.2.2.2.2.2.2.2.2.2.2, (r.2.2.2.2.2.2.2.2.2.2.2.2.2.length : Int), 0, key, v.1, v.2, 0, 0, 0, 0, 0, 0, 0, 0, 0, 0, 0, 0, 0, r.1, r.2.1, r.2.2.1, r.2.2.2.1, r.2.2.2.2.1, r.2.2.2.2.2.1, r.2.2.2.2.2.2.1, r.2.2.2.2.2.2.2.1, r.2.2.2.2.2.2.2.2.1, r.2.2.2.2.2.2.2.2.2.1, r.2.2.2.2.2.2.2.2.2.2.1, r.2.2.2.2.2.2.2.2.2.2.2.1, r.2.2.2.2.2.2.2.2.2.2.2.2.1, r.2.2.2.2.2.2.2.2.2.2.2.2.2, ()) = _ := e;rw [e0];unfold uK;cases hq : (List.range r.fs.length).find? (fun k : Nat => decide ((rd f0 r.fs (k : Int)).1 = 1028)) with
 | some k =>
  have hq : (List.range r.2.2.2.2.2.2.2.2.2.2.2.2.2.length).find? (fun k : Nat => decide ((rd f0 r.2.2.2.2.2.2.2.2.2.2.2.2.2 (k : Int)).1 = 1028)) = some k := hq;simp only [hq]
 | none =>
  have hq : (List.range r.2.2.2.2.2.2.2.2.2.2.2.2.2.length).find? (fun k : Nat => decide ((rd f0 r.2.2.2.2.2.2.2.2.2.2.2.2.2 (k : Int)).1 = 1028)) = none := hq;simp only [hq];rw [iU.q0];simp only [iU.b0, aA (show ¬ (r.2.2.2.2.2.2.2.2.2.2.2.2.2.length : Int) < (r.2.2.2.2.2.2.2.2.2.2.2.2.2.length : Int) by omega), cond_false]
theorem XH {v : VV} {s key at_ : List Int} {r : PK} {k : Nat} (h : r.fs.length <= 16) (hk : k < r.fs.length) (hb : ∀ f ∈ r.fs, f.2.length < 65532) (hat : rd 0 at_ 0 = (k : Int)) (hal : 0 < at_.length) :
  dh.l0 .lim (s, key, 48, 0, v.1, v.2, 0, 0, 0, 0, 0, 0, 0, 0, 0, 0, 0, 0, 0, r.1, r.2.1, r.2.2.1, r.2.2.2.1, r.2.2.2.2.1, r.2.2.2.2.2.1, r.2.2.2.2.2.2.1, r.2.2.2.2.2.2.2.1, r.2.2.2.2.2.2.2.2.1, r.2.2.2.2.2.2.2.2.2.1, r.2.2.2.2.2.2.2.2.2.2.1, r.2.2.2.2.2.2.2.2.2.2.2.1, r.2.2.2.2.2.2.2.2.2.2.2.2.1, r.2.2.2.2.2.2.2.2.2.2.2.2.2, at_, ()) = some (s, key, ((48 + (aS (r.fs.take k)).length : Nat) : Int), v.1, v.2, 0, 0, 0, 0, 0, 0, 0, 0, 0, 0, 0, 0, 0, r.1, r.2.1, r.2.2.1, r.2.2.2.1, r.2.2.2.2.1, r.2.2.2.2.2.1, r.2.2.2.2.2.2.1, r.2.2.2.2.2.2.2.1, r.2.2.2.2.2.2.2.2.1, r.2.2.2.2.2.2.2.2.2.1, r.2.2.2.2.2.2.2.2.2.2.1, r.2.2.2.2.2.2.2.2.2.2.2.1, r.2.2.2.2.2.2.2.2.2.2.2.2.1, r.2.2.2.2.2.2.2.2.2.2.2.2.2, at_, ()) := by
 have h : r.2.2.2.2.2.2.2.2.2.2.2.2.2.length <= 16 := h;have hk : k < r.2.2.2.2.2.2.2.2.2.2.2.2.2.length := hk;have hal2 : inB 0 (at_.length : Int) = true := aH (by omega) (by omega);have hle := U_ hb;have e := dB (f := dh.l0 .lim) (fun j => (s, key, ((48 + (aS (r.fs.take j)).length : Nat) : Int), (j : Int), v.1, v.2, 0, 0, 0, 0, 0, 0, 0, 0, 0, 0, 0, 0, 0, r.1, r.2.1, r.2.2.1, r.2.2.2.1, r.2.2.2.2.1, r.2.2.2.2.2.1, r.2.2.2.2.2.2.1, r.2.2.2.2.2.2.2.1, r.2.2.2.2.2.2.2.2.1, r.2.2.2.2.2.2.2.2.2.1, r.2.2.2.2.2.2.2.2.2.2.1, r.2.2.2.2.2.2.2.2.2.2.2.1, r.2.2.2.2.2.2.2.2.2.2.2.2.1, r.2.2.2.2.2.2.2.2.2.2.2.2.2, at_, ())) (n := k) (fun j hj => by
  rw [dh.q0];have hl := hle j;have hf := hb _ (fJ (d := f0) (xs := r.fs) (i := (j : Int)) (by omega) (show (j : Int) < (r.2.2.2.2.2.2.2.2.2.2.2.2.2.length : Int) by omega));have es : (aS (r.fs.take (j + 1))).length = (aS (r.fs.take j)).length + (4 + (rd f0 r.2.2.2.2.2.2.2.2.2.2.2.2.2 (j : Int)).2.length) := by rw [uz (show j < r.fs.length by show j < r.2.2.2.2.2.2.2.2.2.2.2.2.2.length; omega), List.length_append, oK]
  have w : IntKind.i64.wrap (IntKind.i64.wrap (((48 + (aS (r.fs.take j)).length : Nat) : Int) + 4) + ((rd f0 r.2.2.2.2.2.2.2.2.2.2.2.2.2 (j : Int)).2.length : Int)) = ((48 + (aS (r.fs.take (j + 1))).length : Nat) : Int) := by
   have hf : (rd f0 r.2.2.2.2.2.2.2.2.2.2.2.2.2 (j : Int)).2.length < 65532 := hf;rw [wrap64 (n := ((48 + (aS (r.fs.take j)).length : Nat) : Int) + 4) (by omega) (by omega), wrap64 (by omega) (by omega), es]; omega
  simp only [dh.b0, hal2, cond_true, hat, au (show (j : Int) < (k : Int) by omega), aH (show (0 : Int) <= (j : Int) by omega) (show (j : Int) < (r.2.2.2.2.2.2.2.2.2.2.2.2.2.length : Int) by omega), aF (show (rd f0 r.2.2.2.2.2.2.2.2.2.2.2.2.2 (j : Int)).2.length < 9223372036854775808 from Nat.lt_of_lt_of_le hf (by decide)), w, mM j (by omega)])
 have e0 : dh.l0 .lim (s, key, 48, 0, v.1, v.2, 0, 0, 0, 0, 0, 0, 0, 0, 0, 0, 0, 0, 0, r.1, r.2.1, r.2.2.1, r.2.2.2.1, r.2.2.2.2.1, r.2.2.2.2.2.1, r.2.2.2.2.2.2.1, r.2.2.2.2.2.2.2.1, r.2.2.2.2.2.2.2.2.1, r.2.2.2.2.2.2.2.2.2.1, r.2.2.2.2.2.2.2.2.2.2.1, r.2.2.2.2.2.2.2.2.2.2.2.1, r.2.2.2.2.2.2.2.2.2.2.2.2.1, r.2.2.2.2.2.2.2.2.2.2.2.2.2, at_, ()) = _ := e;rw [e0, dh.q0];simp only [dh.b0, hal2, cond_true, hat, aA (show ¬ (k : Int) < (k : Int) by omega), cond_false]
theorem nil_B : Bs [] := fun x h => by cases h
theorem F7 {v : VV} (hv : okV v) (hf : uG v = true) (hvb : vB v) {s key : List Int} (hs : Bs s) (hl : s.length < 9223372036854775808) (hk : key.length < dG) (hkb : Bs key) :
  iU.run .lim (v, s, key, ()) = some ((BP v s key).1, (BP v s key).2, ()) /\ dh.run .lim (v, s, key, ()) = some ((BP v s key).1, (BP v s key).2, ()) := by
 simp only [iU.run, dh.run, Xx hs hl, UJ hs hl, Option.bind_some];unfold BP;by_cases h0 : JM s = 0
 case neg => rw [aA h0, if_neg h0]; exact ⟨rfl, rfl⟩
 rw [au h0, if_pos h0];have w := was hs h0;have hfew := w.few;have hok := w.ok;have hwb := OJ hs h0;have hsl : s.length = 48 + (aS (jF s).fs).length := by
  have := congrArg List.length w.st;rw [List.length_append, List.length_take, Nat.min_eq_left w.l0] at this;exact this
 have hs48 := w.l1;generalize jF s = r at hfew hok hwb hsl;have hfs : r.2.2.2.2.2.2.2.2.2.2.2.2.2.length <= 16 := hfew;have hff := MQ (l := r.fs) 1028 (by omega) (by omega);have hff : bQ.run .lim (r.2.2.2.2.2.2.2.2.2.2.2.2.2, 1028, ()) = some (findF r.fs 1028) := hff;have hflen := xZ r.fs 1028;simp only [Bool.not_true, cond_false, aF (show r.2.2.2.2.2.2.2.2.2.2.2.2.2.length < 9223372036854775808 by omega), cond_true, hff, Option.bind_some, aF (show (findF r.fs 1028).length < 9223372036854775808 by omega)];rw [ZF hfew];rcases Dh r.fs 1028 with ⟨q1, q2⟩ | ⟨k, l, q1, q2, hkl, hkd⟩
 ·simp only [q1, q2]; exact ⟨rfl, rfl⟩
 have hmem : rd f0 r.fs (k : Int) ∈ r.fs := fJ (by omega) (by omega);have hfo := hok _ hmem;have hal : 0 < (findF r.fs 1028).length := by rw [q2]; simp
 have hat : rd 0 (findF r.fs 1028) 0 = (k : Int) := by rw [q2]; rfl
 have hkl' : k < r.2.2.2.2.2.2.2.2.2.2.2.2.2.length := hkl;rw [XH hfew hkl (fun f hf => (hok f hf).l1) hat hal];simp only [q1, Option.bind_some, aA (show ¬ ((findF r.fs 1028).length : Int) = 0 by omega), cond_false, aA (show ¬ (k : Int) < 0 by omega), aP (show (0 : Int) <= 0 by omega) (show (0 : Int) <= (k : Int) by omega) (Int.le_refl _), au (show (k : Int) <= (r.2.2.2.2.2.2.2.2.2.2.2.2.2.length : Int) by omega), Bool.and_self, cond_true,
  aH (show (0 : Int) <= (k : Int) by omega) (show (k : Int) < (r.2.2.2.2.2.2.2.2.2.2.2.2.2.length : Int) by omega), aH (show (0 : Int) <= 0 by omega) (show (0 : Int) < ((findF r.fs 1028).length : Int) by omega), hat]
 have hbb : Bs (rd f0 r.fs (k : Int)).2 := hfo.b;have hbl : (rd f0 r.fs (k : Int)).2.length < 65532 := hfo.l1;have sp := MS hbb (by omega);have rsp := IB hbb (by omega);have sp : lY.run .lim ((rd ((0 : Int), ([] : List Int)) r.2.2.2.2.2.2.2.2.2.2.2.2.2 (k : Int)).2, ()) = _ := sp;have rsp : eY.run .lim ((rd ((0 : Int), ([] : List Int)) r.2.2.2.2.2.2.2.2.2.2.2.2.2 (k : Int)).2, ()) = _ := rsp;obtain ⟨sB1, sB2, sL1, sL2⟩ := spS_B hbb;simp only [sp, rsp, Option.bind_some];generalize vG (rd f0 r.fs (k : Int)).2 = g at sB1 sB2 sL1 sL2;obtain ⟨bG, sealed, e⟩ := g;simp only at sB1 sB2 sL1 sL2 ⊢
 by_cases he : e = 0
 case neg => rw [aA he, if_neg he]; exact ⟨rfl, rfl⟩
 rw [au he, if_pos he];have hcz : cut r.2.2.2.2.2.2.2.2.2.2.2.2.2 0 (k : Int) = r.2.2.2.2.2.2.2.2.2.2.2.2.2.take k := sV rfl;have hw := hwb k;have hw : aQ.run .lim ((r.1, r.2.1, r.2.2.1, r.2.2.2.1, r.2.2.2.2.1, r.2.2.2.2.2.1, r.2.2.2.2.2.2.1, r.2.2.2.2.2.2.2.1, r.2.2.2.2.2.2.2.2.1, r.2.2.2.2.2.2.2.2.2.1, r.2.2.2.2.2.2.2.2.2.2.1, r.2.2.2.2.2.2.2.2.2.2.2.1, r.2.2.2.2.2.2.2.2.2.2.2.2.1, r.2.2.2.2.2.2.2.2.2.2.2.2.2.take k), ()) = some (s.take (48 + (aS (r.fs.take k)).length), 0, ()) := hw;have hle := MJ r.fs k;generalize hN : 48 + (aS (r.fs.take k)).length = N at hw;have hNs : N <= s.length := by omega
 have hcn : cut s 0 (N : Int) = s.take N := sV rfl;have T : U0 key [s.take N, bG] sealed := ⟨hk, hkb, by simp [dG], fun t ht => by
  simp only [List.mem_cons, List.not_mem_nil, or_false] at ht;rcases ht with rfl | rfl
  ·rw [List.length_take]; exact kJ (by omega)
  ·exact kJ (by omega), kJ (by omega)⟩
 have op := U1 hv T sB2;have rop := Sr hv T;have op : gV.run .lim ((v.1, v.2), key, [s.take N, bG], sealed, ()) = _ := op;have rop : cu.run .lim ((v.1, v.2), key, [s.take N, bG], sealed, ()) = _ := rop;simp only [Bool.not_true, cond_false, hcz, hw, Option.bind_some, op, rop, hcn, aP (show (0 : Int) <= 0 by omega) (show (0 : Int) <= (N : Int) by omega) (show (N : Int) <= (s.length : Int) by omega), cond_true];by_cases ho : (iq v key [s.take N, bG] sealed).2 = 0
 case neg => rw [aA ho, if_neg ho]; exact ⟨rfl, rfl⟩
 rw [au ho, if_pos ho];obtain ⟨_, ol, _, oB⟩ := U6 hf hvb ho;generalize (iq v key [s.take N, bG] sealed).1 = p at ol oB;simp only [Bool.not_true, cond_false, Yp oB (show p.length < 9223372036854775808 by omega), UG oB (show p.length < 9223372036854775808 by omega), Option.bind_some];by_cases ht : (vI p.length p []).2 = 0
 case neg => rw [aA ht, if_neg ht]; exact ⟨rfl, rfl⟩
 rw [au ht, if_pos ht];simp only [Bool.not_true, cond_false, aP (show (0 : Int) <= 0 by omega) (show (0 : Int) <= (k : Int) by omega) (show (k : Int) <= (r.2.2.2.2.2.2.2.2.2.2.2.2.2.length : Int) by omega), cond_true]
 first | exact ⟨rfl, rfl⟩ | exact ⟨trivial, rfl⟩ | exact ⟨rfl, trivial⟩ | trivial
end Go.AM
end
section
namespace Go.AM
theorem O1 {f : FF} (h : SN f) (x : List Int) : eH (lS f ++ x) = 4 + f.2.length /\ ¬ zk (lS f ++ x) /\ SL (lS f ++ x) = f /\ (lS f ++ x).drop (eH (lS f ++ x)) = x := by
 have h1 := h.k0; have h2 := h.k1; have h3 := h.l0; have h4 := h.l4; have h5 := h.l1;have hl := oK f;have e4 : (lS f ++ x).take 4 = twoS f.1 ++ twoS ((f.2.length : Int) + 4) := by
  unfold lS;rw [List.append_assoc, List.take_append_of_le_length (by simp [twoS]), List.take_of_length_le (by simp [twoS])]
 have eL : eH (lS f ++ x) = 4 + f.2.length := by
  unfold eH;rw [e4, List.drop_append_of_le_length (by simp [twoS]), List.drop_of_length_le (by simp [twoS]), List.nil_append, val_two (by omega) (by omega)];omega
 have e2 : (lS f ++ x).take 2 = twoS f.1 := by
  have : (lS f ++ x).take 2 = ((lS f ++ x).take 4).take 2 := by rw [List.take_take]; rfl
  rw [this, e4, List.take_append_of_le_length (by simp [twoS]), List.take_of_length_le (by simp [twoS])]
 have eT : (lS f ++ x).take (4 + f.2.length) = lS f := by rw [<- hl, List.take_left]
 refine ⟨eL, ?_, ?_, ?_⟩
 ·unfold zk;rw [eL, List.length_append, hl];omega
 ·unfold SL;rw [eL, e2, eT, val_two h1 h2];unfold lS;rw [List.drop_append_of_le_length (by simp [twoS]), List.drop_of_length_le (by simp [twoS]), List.nil_append]
 ·rw [eL, <- hl, List.drop_left]
theorem XI : ∀ (l : List FF) (n : Nat) (acc : List FF), (∀ f ∈ l, SN f) -> (aS l).length <= n -> acc.length + l.length <= 16 -> vI n (aS l) acc = (acc ++ l, 0) := by
 intro l
 induction l with
 | nil =>
  intro n acc _ _ _;have e : aS [] = [] := rfl;rw [e];cases n with
  | zero => simp [vI]
  | succ n => simp [vI]
 | cons f l ih =>
  intro n acc hf hn hl;have hfo := hf f (.head _);have he : aS (f :: l) = lS f ++ aS l := by simp [aS]
  rw [he] at hn ⊢
  obtain ⟨p1, p2, p3, p4⟩ := O1 hfo (aS l);have hlen := oK f;cases n with
  | zero => rw [List.length_append] at hn; omega
  | succ n =>
   have hne : ¬ (lS f ++ aS l = []) := fun q => by
    have := congrArg List.length q;rw [List.length_append, hlen] at this;simp at this
   rw [List.length_cons] at hl;rw [vI, if_neg hne, if_neg p2, if_neg (by omega), p3, p4];have := ih n (acc ++ [f]) (fun g hg => hf g (.tail _ hg)) (by rw [List.length_append] at hn; omega) (by simp; omega);rw [this, List.append_assoc]; rfl
theorem JZ {n : Int} (h0 : 0 <= n) (h1 : n < 4294967296) : eG (SQ (IntKind.u64.wrap n)) = n := by
 rw [show IntKind.u64.wrap n = n by rw [Aw]; omega];have s1 := fZ n 0 24 .u64 (by decide);have s2 := fZ n 0 16 .u64 (by decide);have s3 := fZ n 0 8 .u64 (by decide);have s4 := fZ n 0 0 .u64 (by decide);unfold SQ uD eG;simp only [s1, s2, s3, s4, jY, List.foldl_cons, List.foldl_nil];omega
theorem DU {n : Int} (h0 : 0 <= n) (h1 : n < 18446744073709551616) : eG (by8 n) = n := by
 have s1 := fZ n 0 56 .u64 (by decide);have s2 := fZ n 0 48 .u64 (by decide);have s3 := fZ n 0 40 .u64 (by decide);have s4 := fZ n 0 32 .u64 (by decide);have s5 := fZ n 0 24 .u64 (by decide);have s6 := fZ n 0 16 .u64 (by decide);have s7 := fZ n 0 8 .u64 (by decide);have s8 := fZ n 0 0 .u64 (by decide);unfold by8 uD eG;simp only [s1, s2, s3, s4, s5, s6, s7, s8, jY, List.foldl_cons, List.foldl_nil];omega
structure POk (p : PK) : Prop where
 hd : RN p = true
 a : 0 <= p.2.2.2.2.2.2.1 /\ p.2.2.2.2.2.2.1 < 4294967296
 b : 0 <= p.2.2.2.2.2.2.2.1 /\ p.2.2.2.2.2.2.2.1 < 4294967296
 c : 0 <= p.2.2.2.2.2.2.2.2.1 /\ p.2.2.2.2.2.2.2.2.1 < 4294967296
 d : 0 <= p.2.2.2.2.2.2.2.2.2.1 /\ p.2.2.2.2.2.2.2.2.2.1 < 18446744073709551616
 e : 0 <= p.2.2.2.2.2.2.2.2.2.2.1 /\ p.2.2.2.2.2.2.2.2.2.2.1 < 18446744073709551616
 f : 0 <= p.2.2.2.2.2.2.2.2.2.2.2.1 /\ p.2.2.2.2.2.2.2.2.2.2.2.1 < 18446744073709551616
 g : 0 <= p.2.2.2.2.2.2.2.2.2.2.2.2.1 /\ p.2.2.2.2.2.2.2.2.2.2.2.2.1 < 18446744073709551616
theorem XJ : ∀ a : Nat, a < 4 -> ∀ b : Nat, b < 8 -> ∀ c : Nat, c < 8 -> V7 a b c / 64 = a /\ V7 a b c / 8 % 8 = b /\ V7 a b c % 8 = c := by decide +kernel
theorem QD : ∀ n : Nat, n < 256 -> sg (IntKind.u8.wrap ((n : Int) - 128)) = (n : Int) - 128 := by decide +kernel
theorem Va {p : PK} (h : POk p) (x : List Int) (fs : List FF) : V8 (J8 p ++ x) fs = PK.cut p fs := by
 obtain ⟨a, b, c, d, e, g, r1, r2, r3, q1, q2, q3, q4, l⟩ := p;obtain ⟨h0, h1, h2, h3, h4, h5, h6, h7⟩ := h;unfold RN OI at h0;simp only [Bool.and_eq_true, decide_eq_true_eq] at h0 h1 h2 h3 h4 h5 h6 h7;obtain ⟨⟨⟨⟨⟨ha, hb⟩, hc⟩, hd⟩, he⟩, hg⟩ := h0;have hB := XJ a.toNat (by omega) b.toNat (by omega) c.toNat (by omega);rw [Int.toNat_of_nonneg ha.1, Int.toNat_of_nonneg hb.1, Int.toNat_of_nonneg hc.1] at hB;have he' := QD (e + 128).toNat (by omega);rw [Int.toNat_of_nonneg (by omega), show e + 128 - 128 = e by omega] at he';have hg' := QD (g + 128).toNat (by omega);rw [Int.toNat_of_nonneg (by omega), show g + 128 - 128 = g by omega] at hg';have hd' : IntKind.u8.wrap d = d := by rw [jY]; omega
 have v1 := JZ h1.1 h1.2; have v2 := JZ h2.1 h2.2; have v3 := JZ h3.1 h3.2;have v4 := DU h4.1 h4.2; have v5 := DU h5.1 h5.2; have v6 := DU h6.1 h6.2; have v7 := DU h7.1 h7.2;show (V7 a b c / 64, V7 a b c / 8 % 8, V7 a b c % 8, IntKind.u8.wrap d, sg (IntKind.u8.wrap e), sg (IntKind.u8.wrap g), eG (SQ (IntKind.u64.wrap r1)), eG (SQ (IntKind.u64.wrap r2)), eG (SQ (IntKind.u64.wrap r3)), eG (by8 q1), eG (by8 q2), eG (by8 q3), eG (by8 q4), fs) = (a, b, c, d, e, g, r1, r2, r3, q1, q2, q3, q4, fs);rw [hB.1, hB.2.1, hB.2.2, hd', he', hg', v1, v2, v3, v4, v5, v6, v7]
theorem SC {p : PK} (h : POk p) (hf : ∀ f ∈ p.fs, SN f) (h16 : p.fs.length <= 16) (hl : (aS p.fs).length <= 1232) : JM (J8 p ++ aS p.fs) = 0 /\ jF (J8 p ++ aS p.fs) = p := by
 have hd : (J8 p ++ aS p.fs).drop 48 = aS p.fs := List.drop_left (l₁ := J8 p);have hlen : (J8 p ++ aS p.fs).length = 48 + (aS p.fs).length := by rw [List.length_append, DT]
 have ht := XI p.fs (aS p.fs).length [] hf (Nat.le_refl _) (by simpa using h16);have he : JM (J8 p ++ aS p.fs) = 0 := by
  unfold JM;rw [if_neg (by omega), if_neg (by omega), hd, ht]
 refine ⟨he, ?_⟩;unfold jF;rw [if_pos he, hd, ht, Va h];rfl
theorem hdS_B (p : PK) : Bs (J8 p) := fun x hx => by
 unfold J8 SQ by8 uD V7 at hx;simp only [List.mem_append, List.mem_cons, List.not_mem_nil, or_false] at hx;rcases hx with (h | h | h | h) | (h | h | h | h) | (h | h | h | h) | (h | h | h | h) | (h | h | h | h | h | h | h | h) | (h | h | h | h | h | h | h | h) | (h | h | h | h | h | h | h | h) | h | h | h | h | h | h | h | h <;> (rw [h]; exact wU _)
theorem XL {l : List FF} (h : ∀ f ∈ l, Bs f.2) : Bs (aS l) := fun x hx => by
 unfold aS at hx;obtain ⟨t, ht, hx⟩ := List.mem_flatten.1 hx;obtain ⟨f, hf, rfl⟩ := List.mem_map.1 ht;unfold lS at hx;rcases List.mem_append.1 hx with hx | hx
 ·rcases List.mem_append.1 hx with hx | hx
  ·exact JJ _ x hx
  ·exact JJ _ x hx
 ·exact h f hf x hx
end Go.AM
end
section
namespace Go.AM
theorem XM {v : VV} {s key bG sealed ahead p : List Int} {k : Nat} {l : List FF} (h0 : JM s = 0) (h1 : uK (jF s).fs 1028 = some k) (h2 : vG (rd f0 (jF s).fs (k : Int)).2 = (bG, sealed, 0))
  (h3 : s.take (48 + (aS ((jF s).fs.take k)).length) = ahead) (h4 : iq v key [ahead, bG] sealed = (p, 0)) (h5 : vI p.length p [] = (l, 0)) : BP v s key = ((PK.cut (jF s) [], ((jF s).fs.take k, l)), 0) := by
 unfold BP;rw [if_pos h0, h1];simp only [h2, h3, h4, h5, if_true]
theorem XO {v : VV} {s key bG sealed ahead p : List Int} {k : Nat} {e : Int} (h0 : JM s = 0) (h1 : uK (jF s).fs 1028 = some k) (h2 : vG (rd f0 (jF s).fs (k : Int)).2 = (bG, sealed, 0))
  (h3 : s.take (48 + (aS ((jF s).fs.take k)).length) = ahead) (h4 : iq v key [ahead, bG] sealed = (p, e)) (he : e ≠ 0) : BP v s key = (n0, e) := by
 unfold BP;rw [if_pos h0, h1];simp only [h2, h3, h4, if_true, if_neg he]
def kK (bG sealed : List Int) : List Int := ((twoS 16 ++ twoS (sealed.length : Int)) ++ bG) ++ sU sealed
theorem yc {bG sealed : List Int} (hn : bG.length = 16) : (kK bG sealed).length = 20 + sealed.length + oU sealed.length := by
 unfold kK sU;simp only [List.length_append, iY, List.length_replicate];omega
theorem XP {s : List Int} (h : Bs s) : Bs (sU s) := h.app fun x hx => by rw [(List.mem_replicate.1 hx).2]; decide
theorem XQ {bG sealed : List Int} (hn : Bs bG) (hs : Bs sealed) : Bs (kK bG sealed) := (((JJ _).app (JJ _)).app hn).app (XP hs)
theorem XR {bG sealed : List Int} (hn : bG.length = 16) (hs : sealed.length < 65536) : vG (kK bG sealed) = (bG, sealed, 0) := by
 have hl := yc (sealed := sealed) hn;have h0 : rd 0 (kK bG sealed) 0 = IntKind.u8.wrap (iZ .i64 16 8) := rfl;have h1 : rd 0 (kK bG sealed) 1 = IntKind.u8.wrap 16 := rfl;have h2 : rd 0 (kK bG sealed) 2 = IntKind.u8.wrap (iZ .i64 (sealed.length : Int) 8) := rfl;have h3 : rd 0 (kK bG sealed) 3 = IntKind.u8.wrap (sealed.length : Int) := rfl;have hm : qJ (kK bG sealed) = sealed.length := by
  unfold qJ;rw [h2, h3, Zw, jY, jY]; omega
 have e20 : (kK bG sealed).drop 20 = sU sealed := by
  unfold kK;exact List.drop_left' (by simp only [List.length_append, iY]; omega)
 have ha : kK bG sealed = (((twoS 16 ++ twoS (sealed.length : Int)) ++ bG) ++ sealed) ++ List.replicate (oU sealed.length) 0 := by
  unfold kK sU;rw [List.append_assoc];rw [List.append_assoc, List.append_assoc, List.append_assoc, List.append_assoc]
 have eS : ((kK bG sealed).take (20 + sealed.length)).drop 20 = sealed := by
  rw [ha, List.take_left' (by simp only [List.length_append, iY]; omega)];exact List.drop_left' (by simp only [List.length_append, iY]; omega)
 have eN : ((kK bG sealed).take 20).drop 4 = bG := by
  unfold kK;rw [List.take_left' (by simp only [List.length_append, iY]; omega)];exact List.drop_left' (by simp only [List.length_append, iY])
 unfold vG;rw [if_neg (by omega), if_neg, hm, eN, eS];unfold xG;rw [hm, e20, eS, h0, h1];intro q;rcases q with q | q | q
 ·exact q (by decide)
 ·omega
 ·exact q rfl
noncomputable def qH (v : VV) (key bG ahead : List Int) (inner : List FF) : VV × FF × Int :=
 if bG.length = 16 then
  if ahead.length > 1280 then (v, f0, 12) else
  if sK inner = 0 then
   if (jV v key [ahead, bG] (sN inner)).2.2 = 0 then ((jV v key [ahead, bG] (sN inner)).1, (1028, kK bG (jV v key [ahead, bG] (sN inner)).2.1), 0)
   else (v, f0, (jV v key [ahead, bG] (sN inner)).2.2)
  else (v, f0, sK inner)
 else (v, f0, 10)
theorem IG {v : VV} {key : List Int} {ad : List (List Int)} {s : List Int} (hf : uG v = true) (hs : s.length <= 65536) : (jV v key ad s).2.1.length <= s.length + 16 := by
 by_cases he : (jV v key ad s).2.2 = 0
 ·rw [(U5 hf he).2.2.1]; exact Nat.le_refl _
 ·rw [(XF he).2]; simp
theorem XT {v : VV} (hv : okV v) (hf : uG v = true) {key bG ahead : List Int} {inner : List FF} (hk : key.length < dG) (hkb : Bs key) (hn : bG.length < dG) (ha : ahead.length < dG) (hi : FL inner) :
  wZ.run .lim (v, key, bG, ahead, inner, ()) = some ((qH v key bG ahead inner).1, (qH v key bG ahead inner).2.1, (qH v key bG ahead inner).2.2, ()) := by
 have hn' : bG.length < 9223372036854775808 := hn;have ha' : ahead.length < 9223372036854775808 := ha;simp only [wZ.run, aF hn', aF ha', cond_true];unfold qH;by_cases h1 : bG.length = 16
 case neg => rw [aA (show ¬ (bG.length : Int) = 16 by omega), if_neg h1]; rfl
 rw [au (show (bG.length : Int) = 16 by omega), if_pos h1];by_cases h2 : ahead.length > 1280
 ·rw [au (show (ahead.length : Int) > 1280 by omega), if_pos h2]; rfl
 rw [aA (show ¬ (ahead.length : Int) > 1280 by omega), if_neg h2];simp only [Bool.not_true, cond_false, Iq hi, Option.bind_some];by_cases h3 : sK inner = 0
 case neg => rw [aA h3, if_neg h3]; rfl
 rw [au h3, if_pos h3];have hfl := Az (l := inner);have T : U0 key [ahead, bG] (sN inner) := ⟨hk, hkb, by simp [dG], fun t ht => by
  simp only [List.mem_cons, List.not_mem_nil, or_false] at ht;rcases ht with rfl | rfl
  ·exact ha
  ·exact hn, kJ (by omega)⟩
 simp only [Bool.not_true, cond_false, XE hv hf T, Option.bind_some];have hsl := IG (key := key) (ad := [ahead, bG]) hf (show (sN inner).length <= 65536 by omega);generalize jV v key [ahead, bG] (sN inner) = w at hsl;obtain ⟨w1, w2, w3⟩ := w;simp only at hsl ⊢
 by_cases h4 : w3 = 0
 case neg => rw [aA h4, if_neg h4]; rfl
 rw [au h4, if_pos h4];have hp : oU w2.length < 4 := by unfold oU; omega
 have hfs : (sU w2).length <= w2.length + 4 := by unfold sU; rw [List.length_append, List.length_replicate]; omega
 have t1 : ∀ n, Ap.run .lim (n, ()) = some (twoS n) := fun n => rfl
 simp only [Bool.not_true, cond_false, t1, Option.bind_some, aF (show w2.length < 9223372036854775808 by omega), cond_true];rw [cond_pos (au (show (twoS 16).length + (twoS (w2.length : Int)).length <= maxStr by rw [iY, iY]; decide)), cond_pos (au (show (twoS 16 ++ twoS (w2.length : Int)).length + bG.length <= maxStr by rw [List.length_append, iY, iY, h1]; decide)),
  Iz (show w2.length < 4611686018427387904 by omega)]
 simp only [Option.bind_some];rw [cond_pos (au (show ((twoS 16 ++ twoS (w2.length : Int)) ++ bG).length + (sU w2).length <= maxStr by rw [List.length_append, List.length_append, iY, iY, h1]; unfold maxStr; omega))];rfl
noncomputable def II (v : VV) (p : PK) (key bG : List Int) (inner : List FF) : VV × List Int × Int :=
 if (findF p.fs 1028).length > 0 then (v, [], 23) else
 if JL p = 0 then
  if (qH v key bG (Gw p) inner).2.2 = 0 then
   if JL (PK.cut p (p.fs ++ [(qH v key bG (Gw p) inner).2.1])) = 0 then ((qH v key bG (Gw p) inner).1, Gw (PK.cut p (p.fs ++ [(qH v key bG (Gw p) inner).2.1])), 0)
   else (v, [], JL (PK.cut p (p.fs ++ [(qH v key bG (Gw p) inner).2.1])))
  else (v, [], (qH v key bG (Gw p) inner).2.2)
 else (v, [], JL p)
theorem XU (p : PK) : (Gw p).length <= 1280 := by
 unfold Gw;split
 ·rename_i h;rw [List.length_append, DT];have hf : sK p.fs = 0 := by
   unfold JL at h;split at h
   ·exact h
   ·exact absurd h (by decide)
  have := Az (l := p.fs);unfold sN at this;rw [if_pos hf] at this;omega
 ·simp
theorem SE {v : VV} (hf : uG v = true) {key bG ahead : List Int} {inner : List FF} : (qH v key bG ahead inner).2.1.2.length <= 100000 := by
 unfold qH;split
 ·rename_i hn;split
  ·simp
  ·split
   ·split
    ·rename_i h;have hfl := Az (l := inner);have hsl := IG (v := v) (key := key) (ad := [ahead, bG]) (s := sN inner) hf (by omega);show (kK bG _).length <= _;rw [yc hn];have : oU (jV v key [ahead, bG] (sN inner)).2.1.length < 4 := by unfold oU; omega
     omega
    ·simp
   ·simp
 ·simp
theorem Vb {v : VV} (hv : okV v) (hf : uG v = true) {p : PK} {key bG : List Int} {inner : List FF} (hp : FL p.fs) (hpl : p.fs.length <= 1000000000) (hk : key.length < dG) (hkb : Bs key) (hn : bG.length < dG) (hi : FL inner) :
  w_.run .lim (v, p, key, bG, inner, ()) = some ((II v p key bG inner).1, (II v p key bG inner).2.1, (II v p key bG inner).2.2, ()) := by
 have hff := xZ p.fs 1028;have hfe := MP (l := p.fs) 1028 (by omega) (by omega);have hfe : iF.run .lim (p.2.2.2.2.2.2.2.2.2.2.2.2.2, 1028, ()) = _ := hfe;simp only [w_.run, hfe, Option.bind_some, aF (show (findF p.fs 1028).length < 9223372036854775808 by omega), cond_true];unfold II;by_cases h1 : (findF p.fs 1028).length > 0
 ·rw [au (show ((findF p.fs 1028).length : Int) > 0 by omega), if_pos h1]; rfl
 rw [aA (show ¬ ((findF p.fs 1028).length : Int) > 0 by omega), if_neg h1];simp only [cond_false, FK hp, Option.bind_some];by_cases h2 : JL p = 0
 case neg => rw [aA h2, if_neg h2]; rfl
 rw [au h2, if_pos h2];have hwl := XU p;simp only [Bool.not_true, cond_false, XT hv hf hk hkb hn (kJ (show (Gw p).length < 9223372036854775808 by omega)) hi, Option.bind_some];have hal := SE (v := v) hf (key := key) (bG := bG) (ahead := Gw p) (inner := inner);generalize qH v key bG (Gw p) inner = a at hal;obtain ⟨a1, a2, a3⟩ := a;simp only at hal ⊢
 by_cases h3 : a3 = 0
 case neg => rw [aA h3, if_neg h3]; rfl
 rw [au h3, if_pos h3];have hcl : b_.run .lim (p.2.2.2.2.2.2.2.2.2.2.2.2.2, ()) = some p.fs := by
  simp only [b_.run];rw [cond_pos (au (show ([] : List FF).length + p.fs.length < 2932031007402 by simp; omega))];rfl
 have hq : FL (PK.fs (PK.cut p (p.fs ++ [a2]))) := by
  refine ⟨?_, fun f hf => ?_⟩
  ·show (p.fs ++ [a2]).length < _;rw [List.length_append]; simp; omega
  ·rcases List.mem_append.1 hf with hf | hf
   ·exact hp.2 f hf
   ·rw [List.mem_singleton.1 hf]; omega
 have hw := FK hq;have hw : aQ.run .lim ((p.1, p.2.1, p.2.2.1, p.2.2.2.1, p.2.2.2.2.1, p.2.2.2.2.2.1, p.2.2.2.2.2.2.1, p.2.2.2.2.2.2.2.1, p.2.2.2.2.2.2.2.2.1, p.2.2.2.2.2.2.2.2.2.1, p.2.2.2.2.2.2.2.2.2.2.1, p.2.2.2.2.2.2.2.2.2.2.2.1, p.2.2.2.2.2.2.2.2.2.2.2.2.1, p.fs ++ [a2]), ()) = _ := hw;simp only [Bool.not_true, cond_false, hcl, Option.bind_some];rw [cond_pos (au (show p.fs.length + [a2].length < 2932031007402 by simp; omega)), hw];simp only [Option.bind_some];by_cases h4 : JL (PK.cut p (p.fs ++ [a2])) = 0
 ·rw [au h4, if_pos h4]; rfl
 ·rw [aA h4, if_neg h4]; rfl
end Go.AM
end
section
set_option maxRecDepth 100000
namespace Go.AM
abbrev dL : List Int := [107, 107, 107, 107, 107, 107, 107, 107, 107, 107, 107, 107, 107, 107, 107, 107]
theorem ZG : encS dL CZ = [149, 35, 162, 94, 91, 120, 42, 85, 225, 107, 199, 167, 192, 89, 27, 127] := by decide +kernel
theorem J3 : xw dL = [42, 71, 68, 188, 182, 240, 84, 171, 194, 215, 143, 79, 128, 178, 54, 121] := (congrArg vF ZG).trans (by decide +kernel)
abbrev yg : List Int := [0, 0, 0, 0, 0, 0, 0, 0, 0, 0, 0, 0, 0, 0, 0, 0]
theorem Vd : oW dL yg 0 = [0, 0, 0, 0, 0, 0, 0, 0, 0, 0, 0, 0, 0, 0, 0, 0] := rfl
theorem Ve : gG dL (yg.drop (16 * 0)) = [42, 71, 68, 188, 182, 240, 84, 171, 194, 215, 143, 79, 128, 178, 54, 121] := by unfold gG; rw [if_pos (by decide), J3]; decide +kernel
theorem ZH : uZ dL yg = [138, 17, 135, 69, 125, 68, 78, 155, 36, 236, 23, 96, 235, 236, 220, 208] := by
 have e : uZ dL yg = encS dL (dU (oW dL yg 0) (gG dL (yg.drop (16 * 0)))) := rfl;rw [e, Vd, Ve, show dU [0, 0, 0, 0, 0, 0, 0, 0, 0, 0, 0, 0, 0, 0, 0, 0] [42, 71, 68, 188, 182, 240, 84, 171, 194, 215, 143, 79, 128, 178, 54, 121] = [42, 71, 68, 188, 182, 240, 84, 171, 194, 215, 143, 79, 128, 178, 54, 121] by decide +kernel]; decide +kernel
abbrev vg : List (List Int) := [[35, 0, 0, 0, 0, 0, 0, 0, 0, 0, 0, 0, 0, 0, 0, 0, 0, 0, 0, 0, 0, 0, 0, 0, 0, 0, 0, 0, 0, 0, 0, 0, 0, 0, 0, 0, 0, 0, 0, 0, 0, 0, 0, 0, 0, 0, 0, 0, 1, 4, 0, 36, 117, 117, 117, 117, 117, 117, 117, 117, 117, 117, 117, 117, 117, 117, 117, 117, 117, 117, 117, 117, 117, 117, 117, 117, 117, 117, 117, 117, 117, 117, 117, 117], [107, 107, 107, 107, 107, 107, 107, 107, 107, 107, 107, 107, 107, 107, 107, 107], []]
theorem ZI : yK dL vg 0 = [138, 17, 135, 69, 125, 68, 78, 155, 36, 236, 23, 96, 235, 236, 220, 208] := ZH
abbrev iw : List Int := [35, 0, 0, 0, 0, 0, 0, 0, 0, 0, 0, 0, 0, 0, 0, 0, 0, 0, 0, 0, 0, 0, 0, 0, 0, 0, 0, 0, 0, 0, 0, 0, 0, 0, 0, 0, 0, 0, 0, 0, 0, 0, 0, 0, 0, 0, 0, 0, 1, 4, 0, 36, 117, 117, 117, 117, 117, 117, 117, 117, 117, 117, 117, 117, 117, 117, 117, 117, 117, 117, 117, 117, 117, 117, 117, 117, 117, 117, 117, 117, 117, 117, 117, 117]
theorem Vf : oW dL iw 0 = [0, 0, 0, 0, 0, 0, 0, 0, 0, 0, 0, 0, 0, 0, 0, 0] := rfl
theorem Vg : oW dL iw 1 = [50, 103, 247, 230, 241, 102, 171, 57, 123, 245, 180, 136, 82, 103, 21, 30] := ((congrArg (fun z => encS dL (dU z ((iw.drop (16 * 0)).take 16))) Vf).trans (congrArg (encS dL) (show dU [0, 0, 0, 0, 0, 0, 0, 0, 0, 0, 0, 0, 0, 0, 0, 0] ((iw.drop (16 * 0)).take 16) = [35, 0, 0, 0, 0, 0, 0, 0, 0, 0, 0, 0, 0, 0, 0, 0] by decide +kernel))).trans (by decide +kernel)
theorem Vh : oW dL iw 2 = [87, 6, 235, 136, 118, 75, 52, 142, 4, 15, 115, 3, 233, 131, 72, 7] := ((congrArg (fun z => encS dL (dU z ((iw.drop (16 * 1)).take 16))) Vg).trans (congrArg (encS dL) (show dU [50, 103, 247, 230, 241, 102, 171, 57, 123, 245, 180, 136, 82, 103, 21, 30] ((iw.drop (16 * 1)).take 16) = [50, 103, 247, 230, 241, 102, 171, 57, 123, 245, 180, 136, 82, 103, 21, 30] by decide +kernel))).trans (by decide +kernel)
theorem Vj : oW dL iw 3 = [164, 129, 129, 173, 171, 117, 44, 66, 245, 114, 89, 134, 152, 131, 38, 10] := ((congrArg (fun z => encS dL (dU z ((iw.drop (16 * 2)).take 16))) Vh).trans (congrArg (encS dL) (show dU [87, 6, 235, 136, 118, 75, 52, 142, 4, 15, 115, 3, 233, 131, 72, 7] ((iw.drop (16 * 2)).take 16) = [87, 6, 235, 136, 118, 75, 52, 142, 4, 15, 115, 3, 233, 131, 72, 7] by decide +kernel))).trans (by decide +kernel)
theorem Vk : oW dL iw 4 = [86, 197, 215, 208, 118, 159, 145, 216, 106, 166, 20, 63, 208, 168, 152, 139] := ((congrArg (fun z => encS dL (dU z ((iw.drop (16 * 3)).take 16))) Vj).trans (congrArg (encS dL) (show dU [164, 129, 129, 173, 171, 117, 44, 66, 245, 114, 89, 134, 152, 131, 38, 10] ((iw.drop (16 * 3)).take 16) = [165, 133, 129, 137, 222, 0, 89, 55, 128, 7, 44, 243, 237, 246, 83, 127] by decide +kernel))).trans (by decide +kernel)
theorem Vl : oW dL iw 5 = [207, 24, 82, 191, 110, 42, 30, 26, 91, 88, 54, 151, 19, 33, 162, 128] := ((congrArg (fun z => encS dL (dU z ((iw.drop (16 * 4)).take 16))) Vk).trans (congrArg (encS dL) (show dU [86, 197, 215, 208, 118, 159, 145, 216, 106, 166, 20, 63, 208, 168, 152, 139] ((iw.drop (16 * 4)).take 16) = [35, 176, 162, 165, 3, 234, 228, 173, 31, 211, 97, 74, 165, 221, 237, 254] by decide +kernel))).trans (by decide +kernel)
theorem Vm : gG dL (iw.drop (16 * 5)) = [33, 251, 252, 12, 237, 224, 169, 87, 133, 175, 30, 159, 1, 100, 108, 242] := by unfold gG; rw [if_neg (by decide), J3]; decide +kernel
theorem ZJ : uZ dL iw = [15, 174, 234, 58, 140, 220, 147, 16, 67, 164, 159, 160, 37, 18, 150, 161] := by
 have e : uZ dL iw = encS dL (dU (oW dL iw 5) (gG dL (iw.drop (16 * 5)))) := rfl;rw [e, Vl, Vm, show dU [207, 24, 82, 191, 110, 42, 30, 26, 91, 88, 54, 151, 19, 33, 162, 128] [33, 251, 252, 12, 237, 224, 169, 87, 133, 175, 30, 159, 1, 100, 108, 242] = [238, 227, 174, 179, 131, 202, 183, 77, 222, 247, 40, 8, 18, 69, 206, 114] by decide +kernel]; decide +kernel
theorem ZK : yK dL vg 1 = [27, 141, 228, 176, 118, 84, 14, 38, 10, 124, 177, 97, 242, 203, 47, 134] := by
 have e : yK dL vg 1 = dU (vF (yK dL vg 0)) (uZ dL iw) := rfl;rw [e, ZI, ZJ]; decide +kernel
abbrev uM : List Int := [107, 107, 107, 107, 107, 107, 107, 107, 107, 107, 107, 107, 107, 107, 107, 107]
theorem Vo : oW dL uM 0 = [0, 0, 0, 0, 0, 0, 0, 0, 0, 0, 0, 0, 0, 0, 0, 0] := rfl
theorem Vp : gG dL (uM.drop (16 * 0)) = [65, 44, 47, 215, 221, 155, 63, 192, 169, 188, 228, 36, 235, 217, 93, 18] := by unfold gG; rw [if_pos (by decide), J3]; decide +kernel
theorem ZL : uZ dL uM = [74, 180, 50, 78, 186, 17, 232, 7, 55, 161, 212, 105, 79, 66, 253, 11] := by
 have e : uZ dL uM = encS dL (dU (oW dL uM 0) (gG dL (uM.drop (16 * 0)))) := rfl;rw [e, Vo, Vp, show dU [0, 0, 0, 0, 0, 0, 0, 0, 0, 0, 0, 0, 0, 0, 0, 0] [65, 44, 47, 215, 221, 155, 63, 192, 169, 188, 228, 36, 235, 217, 93, 18] = [65, 44, 47, 215, 221, 155, 63, 192, 169, 188, 228, 36, 235, 217, 93, 18] by decide +kernel]; decide +kernel
theorem ZM : yK dL vg 2 = [125, 175, 251, 46, 86, 185, 244, 75, 35, 88, 182, 170, 170, 212, 162, 7] := by
 have e : yK dL vg 2 = dU (vF (yK dL vg 1)) (uZ dL uM) := rfl;rw [e, ZK, ZL]; decide +kernel
abbrev Yt : List Int := []
abbrev uN : List Int := [123, 95, 246, 92, 173, 115, 232, 150, 70, 177, 109, 85, 85, 169, 68, 14]
theorem Vq : oW dL uN 0 = [0, 0, 0, 0, 0, 0, 0, 0, 0, 0, 0, 0, 0, 0, 0, 0] := rfl
theorem Vr : gG dL (uN.drop (16 * 0)) = [81, 24, 178, 224, 27, 131, 188, 61, 132, 102, 226, 26, 213, 27, 114, 119] := by unfold gG; rw [if_pos (by decide), J3]; decide +kernel
theorem ZN : uZ dL uN = [54, 42, 173, 236, 193, 166, 245, 24, 109, 58, 68, 170, 192, 194, 131, 59] := by
 have e : uZ dL uN = encS dL (dU (oW dL uN 0) (gG dL (uN.drop (16 * 0)))) := rfl;rw [e, Vq, Vr, show dU [0, 0, 0, 0, 0, 0, 0, 0, 0, 0, 0, 0, 0, 0, 0, 0] [81, 24, 178, 224, 27, 131, 188, 61, 132, 102, 226, 26, 213, 27, 114, 119] = [81, 24, 178, 224, 27, 131, 188, 61, 132, 102, 226, 26, 213, 27, 114, 119] by decide +kernel]; decide +kernel
theorem awA_h : dU (uI Yt) (vF [125, 175, 251, 46, 86, 185, 244, 75, 35, 88, 182, 170, 170, 212, 162, 7]) = uN := by decide +kernel
theorem awA_s : FT dL vg = [54, 42, 173, 236, 193, 166, 245, 24, 109, 58, 68, 170, 192, 194, 131, 59] := by
 have e : FT dL vg = s2E dL (yK dL vg 2) Yt := rfl;rw [e, ZM];exact (if_pos (by decide)).trans ((congrArg (uZ dL) awA_h).trans ZN)
abbrev dM : List Int := [108, 108, 108, 108, 108, 108, 108, 108, 108, 108, 108, 108, 108, 108, 108, 108]
theorem ZO : encS dM CZ = [225, 136, 183, 210, 176, 183, 19, 96, 208, 134, 206, 212, 133, 237, 27, 81] := by decide +kernel
theorem J4 : xw dM = [195, 17, 111, 165, 97, 110, 38, 193, 161, 13, 157, 169, 11, 218, 54, 37] := (congrArg vF ZO).trans (by decide +kernel)
abbrev yh : List Int := [0, 0, 0, 0, 0, 0, 0, 0, 0, 0, 0, 0, 0, 0, 0, 0]
theorem Vs : oW dM yh 0 = [0, 0, 0, 0, 0, 0, 0, 0, 0, 0, 0, 0, 0, 0, 0, 0] := rfl
theorem Vt : gG dM (yh.drop (16 * 0)) = [195, 17, 111, 165, 97, 110, 38, 193, 161, 13, 157, 169, 11, 218, 54, 37] := by unfold gG; rw [if_pos (by decide), J4]; decide +kernel
theorem ZP : uZ dM yh = [170, 248, 20, 46, 209, 250, 90, 72, 30, 116, 52, 46, 129, 117, 203, 58] := by
 have e : uZ dM yh = encS dM (dU (oW dM yh 0) (gG dM (yh.drop (16 * 0)))) := rfl;rw [e, Vs, Vt, show dU [0, 0, 0, 0, 0, 0, 0, 0, 0, 0, 0, 0, 0, 0, 0, 0] [195, 17, 111, 165, 97, 110, 38, 193, 161, 13, 157, 169, 11, 218, 54, 37] = [195, 17, 111, 165, 97, 110, 38, 193, 161, 13, 157, 169, 11, 218, 54, 37] by decide +kernel]; decide +kernel
abbrev vk : List (List Int) := [[35, 0, 0, 0, 0, 0, 0, 0, 0, 0, 0, 0, 0, 0, 0, 0, 0, 0, 0, 0, 0, 0, 0, 0, 0, 0, 0, 0, 0, 0, 0, 0, 0, 0, 0, 0, 0, 0, 0, 0, 0, 0, 0, 0, 0, 0, 0, 0, 1, 4, 0, 36, 117, 117, 117, 117, 117, 117, 117, 117, 117, 117, 117, 117, 117, 117, 117, 117, 117, 117, 117, 117, 117, 117, 117, 117, 117, 117, 117, 117, 117, 117, 117, 117], [107, 107, 107, 107, 107, 107, 107, 107, 107, 107, 107, 107, 107, 107, 107, 107], []]
theorem ZQ : yK dM vk 0 = [170, 248, 20, 46, 209, 250, 90, 72, 30, 116, 52, 46, 129, 117, 203, 58] := ZP
abbrev iy : List Int := [35, 0, 0, 0, 0, 0, 0, 0, 0, 0, 0, 0, 0, 0, 0, 0, 0, 0, 0, 0, 0, 0, 0, 0, 0, 0, 0, 0, 0, 0, 0, 0, 0, 0, 0, 0, 0, 0, 0, 0, 0, 0, 0, 0, 0, 0, 0, 0, 1, 4, 0, 36, 117, 117, 117, 117, 117, 117, 117, 117, 117, 117, 117, 117, 117, 117, 117, 117, 117, 117, 117, 117, 117, 117, 117, 117, 117, 117, 117, 117, 117, 117, 117, 117]
theorem Vu : oW dM iy 0 = [0, 0, 0, 0, 0, 0, 0, 0, 0, 0, 0, 0, 0, 0, 0, 0] := rfl
theorem Vw : oW dM iy 1 = [50, 104, 41, 26, 180, 14, 12, 151, 83, 22, 111, 228, 249, 118, 33, 153] := ((congrArg (fun z => encS dM (dU z ((iy.drop (16 * 0)).take 16))) Vu).trans (congrArg (encS dM) (show dU [0, 0, 0, 0, 0, 0, 0, 0, 0, 0, 0, 0, 0, 0, 0, 0] ((iy.drop (16 * 0)).take 16) = [35, 0, 0, 0, 0, 0, 0, 0, 0, 0, 0, 0, 0, 0, 0, 0] by decide +kernel))).trans (by decide +kernel)
theorem Vx : oW dM iy 2 = [164, 126, 166, 109, 164, 124, 3, 201, 107, 185, 92, 108, 98, 129, 219, 207] := ((congrArg (fun z => encS dM (dU z ((iy.drop (16 * 1)).take 16))) Vw).trans (congrArg (encS dM) (show dU [50, 104, 41, 26, 180, 14, 12, 151, 83, 22, 111, 228, 249, 118, 33, 153] ((iy.drop (16 * 1)).take 16) = [50, 104, 41, 26, 180, 14, 12, 151, 83, 22, 111, 228, 249, 118, 33, 153] by decide +kernel))).trans (by decide +kernel)
theorem Vy : oW dM iy 3 = [136, 202, 209, 184, 170, 252, 14, 181, 237, 184, 198, 79, 23, 21, 168, 136] := ((congrArg (fun z => encS dM (dU z ((iy.drop (16 * 2)).take 16))) Vx).trans (congrArg (encS dM) (show dU [164, 126, 166, 109, 164, 124, 3, 201, 107, 185, 92, 108, 98, 129, 219, 207] ((iy.drop (16 * 2)).take 16) = [164, 126, 166, 109, 164, 124, 3, 201, 107, 185, 92, 108, 98, 129, 219, 207] by decide +kernel))).trans (by decide +kernel)
theorem Vz : oW dM iy 4 = [220, 207, 94, 151, 237, 126, 226, 107, 116, 228, 4, 125, 244, 8, 82, 140] := ((congrArg (fun z => encS dM (dU z ((iy.drop (16 * 3)).take 16))) Vy).trans (congrArg (encS dM) (show dU [136, 202, 209, 184, 170, 252, 14, 181, 237, 184, 198, 79, 23, 21, 168, 136] ((iy.drop (16 * 3)).take 16) = [137, 206, 209, 156, 223, 137, 123, 192, 152, 205, 179, 58, 98, 96, 221, 253] by decide +kernel))).trans (by decide +kernel)
theorem VA : oW dM iy 5 = [82, 143, 122, 155, 185, 148, 35, 177, 250, 8, 30, 124, 201, 204, 96, 153] := ((congrArg (fun z => encS dM (dU z ((iy.drop (16 * 4)).take 16))) Vz).trans (congrArg (encS dM) (show dU [220, 207, 94, 151, 237, 126, 226, 107, 116, 228, 4, 125, 244, 8, 82, 140] ((iy.drop (16 * 4)).take 16) = [169, 186, 43, 226, 152, 11, 151, 30, 1, 145, 113, 8, 129, 125, 39, 249] by decide +kernel))).trans (by decide +kernel)
theorem VB : gG dM (iy.drop (16 * 5)) = [243, 87, 170, 63, 66, 220, 77, 131, 66, 27, 59, 82, 23, 180, 108, 205] := by unfold gG; rw [if_neg (by decide), J4]; decide +kernel
theorem ZR : uZ dM iy = [106, 188, 119, 27, 113, 87, 178, 42, 85, 28, 230, 121, 132, 130, 101, 199] := by
 have e : uZ dM iy = encS dM (dU (oW dM iy 5) (gG dM (iy.drop (16 * 5)))) := rfl;rw [e, VA, VB, show dU [82, 143, 122, 155, 185, 148, 35, 177, 250, 8, 30, 124, 201, 204, 96, 153] [243, 87, 170, 63, 66, 220, 77, 131, 66, 27, 59, 82, 23, 180, 108, 205] = [161, 216, 208, 164, 251, 72, 110, 50, 184, 19, 37, 46, 222, 120, 12, 84] by decide +kernel]; decide +kernel
theorem ZT : yK dM vk 1 = [63, 76, 95, 70, 210, 163, 6, 186, 105, 244, 142, 36, 134, 105, 243, 52] := by
 have e : yK dM vk 1 = dU (vF (yK dM vk 0)) (uZ dM iy) := rfl;rw [e, ZQ, ZR]; decide +kernel
abbrev uO : List Int := [107, 107, 107, 107, 107, 107, 107, 107, 107, 107, 107, 107, 107, 107, 107, 107]
theorem VD : oW dM uO 0 = [0, 0, 0, 0, 0, 0, 0, 0, 0, 0, 0, 0, 0, 0, 0, 0] := rfl
theorem VE : gG dM (uO.drop (16 * 0)) = [168, 122, 4, 206, 10, 5, 77, 170, 202, 102, 246, 194, 96, 177, 93, 78] := by unfold gG; rw [if_pos (by decide), J4]; decide +kernel
theorem ZU : uZ dM uO = [239, 136, 254, 64, 50, 87, 86, 108, 237, 99, 152, 168, 24, 167, 228, 224] := by
 have e : uZ dM uO = encS dM (dU (oW dM uO 0) (gG dM (uO.drop (16 * 0)))) := rfl;rw [e, VD, VE, show dU [0, 0, 0, 0, 0, 0, 0, 0, 0, 0, 0, 0, 0, 0, 0, 0] [168, 122, 4, 206, 10, 5, 77, 170, 202, 102, 246, 194, 96, 177, 93, 78] = [168, 122, 4, 206, 10, 5, 77, 170, 202, 102, 246, 194, 96, 177, 93, 78] by decide +kernel]; decide +kernel
theorem ZV : yK dM vk 2 = [145, 16, 64, 205, 151, 17, 91, 24, 62, 138, 132, 225, 20, 116, 2, 136] := by
 have e : yK dM vk 2 = dU (vF (yK dM vk 1)) (uZ dM uO) := rfl;rw [e, ZT, ZU]; decide +kernel
abbrev Yu : List Int := []
abbrev uP : List Int := [162, 32, 129, 155, 46, 34, 182, 48, 125, 21, 9, 194, 40, 232, 5, 151]
theorem VF : oW dM uP 0 = [0, 0, 0, 0, 0, 0, 0, 0, 0, 0, 0, 0, 0, 0, 0, 0] := rfl
theorem VG : gG dM (uP.drop (16 * 0)) = [97, 49, 238, 62, 79, 76, 144, 241, 220, 24, 148, 107, 35, 50, 51, 178] := by unfold gG; rw [if_pos (by decide), J4]; decide +kernel
theorem ZW : uZ dM uP = [159, 129, 153, 29, 166, 160, 61, 117, 246, 78, 159, 114, 77, 161, 147, 102] := by
 have e : uZ dM uP = encS dM (dU (oW dM uP 0) (gG dM (uP.drop (16 * 0)))) := rfl;rw [e, VF, VG, show dU [0, 0, 0, 0, 0, 0, 0, 0, 0, 0, 0, 0, 0, 0, 0, 0] [97, 49, 238, 62, 79, 76, 144, 241, 220, 24, 148, 107, 35, 50, 51, 178] = [97, 49, 238, 62, 79, 76, 144, 241, 220, 24, 148, 107, 35, 50, 51, 178] by decide +kernel]; decide +kernel
theorem awB_h : dU (uI Yu) (vF [145, 16, 64, 205, 151, 17, 91, 24, 62, 138, 132, 225, 20, 116, 2, 136]) = uP := by decide +kernel
theorem awB_s : FT dM vk = [159, 129, 153, 29, 166, 160, 61, 117, 246, 78, 159, 114, 77, 161, 147, 102] := by
 have e : FT dM vk = s2E dM (yK dM vk 2) Yu := rfl;rw [e, ZV];exact (if_pos (by decide)).trans ((congrArg (uZ dM) awB_h).trans ZW)
theorem SG : FT dL vg ≠ FT dM vk := by rw [awA_s, awB_s]; decide
end Go.AM
end
section
set_option maxRecDepth 100000
namespace Go.AM
abbrev IJ : List Int := List.replicate 32 107
abbrev zq : List Int := List.replicate 16 107
abbrev XV : List Int := List.replicate 32 108
abbrev awU : List Int := List.replicate 32 117
abbrev F8 : FF := (260, awU)
abbrev V_ : PK := ((0 : Int), (4, (3, (0, (0, (0, (0, (0, (0, (0, (0, (0, (0, ([F8] : List FF))))))))))))))
abbrev GH : VV := (false, [])
theorem MW {n : Nat} {x : Int} (h : B8 x) : Bs (List.replicate n x) := fun y hy => by rw [(List.mem_replicate.1 hy).2]; exact h
theorem O4 : okV GH := ⟨by decide, fun k hk => nomatch hk⟩
theorem Yv : vB GH := fun k hk => nomatch hk
theorem ZX : bU.l0 .lim ([], [], [], 0, ()) = some (IJ, XV, awU, ()) := by
 have e := dB (f := bU.l0 .lim) (fun j => (List.replicate j (107 : Int), List.replicate j (108 : Int), List.replicate j (117 : Int), (j : Int), ())) (n := 32) (fun k hk => by
  rw [bU.q0];have hl : ∀ x : Int, decide ((List.replicate k x).length + [x].length <= maxStr) = true := fun x => au (by unfold maxStr; simp; omega)
  simp only [bU.b0, au (show (k : Int) < 32 by omega), cond_true, hl, mM k (by omega)];rw [List.replicate_succ', List.replicate_succ', List.replicate_succ'])
 refine (show bU.l0 .lim ([], [], [], 0, ()) = bU.l0 .lim (List.replicate 32 (107 : Int), List.replicate 32 (108 : Int), List.replicate 32 (117 : Int), ((32 : Nat) : Int), ()) from e).trans ?_;rw [bU.q0];rfl
theorem VH : SN F8 := ⟨by decide, by decide, by decide, by decide, by decide, MW (by decide)⟩
theorem ZY : POk V_ := ⟨by decide, by decide, by decide, by decide, by decide, by decide, by decide, by decide⟩
abbrev awA : List Int := J8 V_ ++ aS [F8]
theorem O5 : awA = [35] ++ List.replicate 47 0 ++ [1, 4, 0, 36] ++ List.replicate 32 117 := by decide +kernel
noncomputable abbrev GI : List Int := oZ IJ [awA, zq] []
theorem yj : GI.length = 16 := Iw IJ [awA, zq] []
noncomputable abbrev Nc : FF := (1028, kK zq GI)
noncomputable abbrev O6 : PK := PK.cut V_ [F8, Nc]
theorem Z4 : SN Nc := by
 have hl := yc (bG := zq) (sealed := GI) (by decide);have hp : oU GI.length = 0 := by rw [yj]; rfl
 rw [yj] at hl hp;exact ⟨by decide, by decide, by show 12 <= (kK zq GI).length; omega, by show (kK zq GI).length % 4 = 0; omega, by show (kK zq GI).length < 65532; omega, XQ (MW (by decide)) (Qy _ _ _)⟩
theorem VI : POk O6 := ⟨by decide, by decide, by decide, by decide, by decide, by decide, by decide, by decide⟩
theorem VJ : ∀ f ∈ [F8, Nc], SN f := fun f hf => by
 simp only [List.mem_cons, List.not_mem_nil, or_false] at hf;rcases hf with rfl | rfl
 ·exact VH
 ·exact Z4
theorem J5 : (aS [F8, Nc]).length = 76 := by
 have h1 : aS [F8, Nc] = lS F8 ++ lS Nc := by simp [aS]
 have hl := yc (bG := zq) (sealed := GI) (by decide);have hp : oU GI.length = 0 := by rw [yj]; rfl
 rw [h1, List.length_append, oK, oK, show F8.2.length = 32 from rfl, show Nc.2.length = (kK zq GI).length from rfl, hl, hp, yj]
theorem XW : jV GH IJ [awA, zq] [] = (GH, GI, 0) := by
 show (GH, xC IJ [awA, zq] []) = _;unfold xC;rw [if_pos (show oQ IJ [awA, zq] = 0 from rfl), if_neg (show ¬ ([] : List Int).length > 65536 by decide)]
theorem VK : JL V_ = 0 /\ Gw V_ = awA := by
 have h : JL V_ = 0 := by
  unfold JL;rw [if_pos ZY.hd];exact JK (l := [F8]) (fun f hf => by rw [List.mem_singleton.1 hf]; exact VH) (by decide) (by decide)
 refine ⟨h, ?_⟩;unfold Gw;rw [if_pos h]
theorem XY : qH GH IJ zq awA [] = (GH, Nc, 0) := by
 unfold qH;rw [if_pos (show zq.length = 16 by decide), if_neg (show ¬ awA.length > 1280 by rw [O5]; decide), if_pos (show sK [] = 0 from rfl)];have h : sN [] = [] := rfl;rw [h, XW];rfl
theorem VL : JL O6 = 0 /\ Gw O6 = J8 O6 ++ aS [F8, Nc] := by
 have h : JL O6 = 0 := by
  unfold JL;rw [if_pos VI.hd];exact JK (l := [F8, Nc]) VJ (by simp) (by rw [J5]; decide)
 refine ⟨h, ?_⟩;unfold Gw;rw [if_pos h]
noncomputable abbrev O7 : List Int := J8 O6 ++ aS [F8, Nc]
theorem J6 : O7.length = 124 := by rw [List.length_append, DT, J5]
theorem Yw : Bs O7 := (hdS_B _).app (XL fun f hf => (VJ f hf).b)
theorem XZ : II GH V_ IJ zq [] = (GH, O7, 0) := by
 unfold II;rw [if_neg (show ¬ (findF V_.fs 1028).length > 0 from fun h => absurd h (by decide)), if_pos VK.1, VK.2, XY, if_pos rfl];show (if JL O6 = 0 then (GH, Gw O6, 0) else _) = _;rw [if_pos VL.1, VL.2]
theorem VN : jZ IJ = dL := by decide
theorem SH : jZ XV = dM := by decide
theorem aw_ad : [awA, zq] ++ [[]] = vg := by rw [O5]; decide
theorem Z5 : [awA, zq] ++ [[]] = vk := by rw [O5]; decide
theorem Z7 : sO IJ [awA, zq] GI = ([], 0) := Si (show oQ IJ [awA, zq] = 0 from rfl) (by decide) nil_B
theorem Z8 : sO XV [awA, zq] GI = ([], 17) := by
 have hv := BN (jZ IJ) ([awA, zq] ++ [[]]);have hl := yj;have ht : GI.take 16 = FT (jZ IJ) ([awA, zq] ++ [[]]) := by unfold GI oZ; rw [List.take_append_of_le_length (by rw [hv.1]; omega), List.take_of_length_le (by rw [hv.1]; omega)]
 have ho : kW XV GI = [] := by
  unfold kW;apply List.length_eq_zero_iff.1
  rw [nN, List.length_drop, hl]
 unfold sO;rw [if_pos (show oQ XV [awA, zq] = 0 from rfl), if_neg (by omega), if_neg (by omega), ho, ht, VN, SH, if_neg (fun h => SG (by rw [<- aw_ad, <- h, <- Z5]))]
theorem DV : JM O7 = 0 /\ jF O7 = O6 := SC (p := O6) VI VJ (show 2 <= 16 by decide) (by show (aS [F8, Nc]).length <= 1232; rw [J5]; decide)
theorem MX : uK O6.fs 1028 = some 1 := rfl
theorem MZ : O7.take (48 + (aS (O6.fs.take 1)).length) = awA := by
 have e : O7 = (J8 V_ ++ aS [F8]) ++ lS Nc := by
  show J8 O6 ++ aS [F8, Nc] = _;have h1 : aS [F8, Nc] = aS [F8] ++ lS Nc := by simp [aS]
  rw [h1, <- List.append_assoc]; rfl
 rw [e];exact List.take_left' (by rw [List.length_append, DT]; rfl)
theorem M_ : vG (rd f0 O6.fs ((1 : Nat) : Int)).2 = (zq, GI, 0) := XR (by decide) (by rw [yj]; decide)
theorem X0 : iq GH IJ [awA, zq] GI = ([], 0) := by
 unfold iq;rw [show GH.1 = false from rfl, cond_false];exact Z7
theorem X3 : iq GH XV [awA, zq] GI = ([], 17) := by
 unfold iq;rw [show GH.1 = false from rfl, cond_false];exact Z8
theorem VO : BP GH O7 IJ = ((PK.cut O6 [], ([F8], [])), 0) := by
 have r := DV.2;have h := XM (v := GH) (s := O7) (key := IJ) (k := 1) (bG := zq) (sealed := GI) (ahead := awA) (p := []) (l := []) DV.1 (by rw [r]; exact MX) (by rw [r]; exact M_) (by rw [r]; exact MZ) X0 rfl;rw [r] at h;exact h
theorem VP : BP GH O7 XV = (n0, 17) := by
 have r := DV.2;exact XO (v := GH) (s := O7) (key := XV) (k := 1) (bG := zq) (sealed := GI) (ahead := awA) (p := []) (e := 17) DV.1 (by rw [r]; exact MX) (by rw [r]; exact M_) (by rw [r]; exact MZ) X3 (by decide)
theorem X4 : bU.run .lim () = some true := by
 have hfl : FL [F8] := ⟨by decide, fun f hf => by rw [List.mem_singleton.1 hf]; decide⟩;have m := Vb (v := GH) (p := V_) (key := IJ) (bG := zq) (inner := []) O4 rfl hfl (by decide) (by decide) (MW (by decide)) (by decide) ⟨by decide, fun f hf => nomatch hf⟩;rw [XZ] at m;have hT : O7.length < 9223372036854775808 := by rw [J6]; decide
 have o1 := (F7 (v := GH) (s := O7) (key := IJ) O4 rfl Yv Yw hT (by decide) (MW (by decide))).1;have o2 := (F7 (v := GH) (s := O7) (key := XV) O4 rfl Yv Yw hT (by decide) (MW (by decide))).1;rw [VO] at o1;rw [VP] at o2;have hc : cut IJ 0 16 = zq := by decide
 have hcb : dJ 0 16 (IJ.length : Int) = true := by decide
 have hn := U8 (l := [F8]) 260 (by decide);have ho : OW [F8] 260 = (awU, 0) := rfl;rw [ho] at hn;simp only [bU.run, ZX, Option.bind_some, hcb, cond_true, hc, m, o1, o2, hn];have h5 : aB ((O7.length : Nat) : Int) = true := by rw [J6]; decide
 rw [h5, J6];decide
end Go.AM
end
section
namespace Go.AM
theorem Z9 : ∀ (n : Nat) (s : List Int) (acc : List FF), acc.length <= 16 -> (vI n s acc).1.length <= 16 := by
 intro n
 induction n with
 | zero => intro s acc h; exact h
 | succ n ih =>
  intro s acc h;simp only [vI];split
  ·exact h
  ·split
   ·exact Nat.zero_le _
   ·split
    ·exact Nat.zero_le _
    ·exact ih _ _ (by simp; omega)
theorem X5 {v : VV} {s key : List Int} (hs : Bs s) : NL (BP v s key).1 := by
 have z : NL n0 := ⟨by decide, by decide, by decide⟩;unfold BP;split
 ·rename_i h0;have w := was hs h0;split
  ·exact z
  ·split
   ·split
    ·split
     ·refine ⟨by show ([] : List FF).length < _; decide, ?_, ?_⟩
      ·show ((jF s).fs.take _).length < _;have := w.few;rw [List.length_take]; omega
      ·exact Nat.lt_of_le_of_lt (Z9 _ _ [] (by decide)) (by decide)
     ·exact z
    ·exact z
   ·exact z
 ·exact z
theorem Z_ {x : List FF} (hx : FL x) (l : List (List FF)) (N i : Int) (b : Bool) (m : List KK) :
  aW.l0 .lim (l, N, i, x, (x.length : Int), 0, b, m, ()) = bif (List.range x.length).any (fun k : Nat => decide ((rd f0 x (k : Int)).2.length > 2000)) then some (.inl (false, ())) else some (.inr (l, N, i, b, m, ())) := by
 obtain ⟨h1, h2⟩ := hx;have e := rX (f := aW.l0 .lim) (fun k => (l, N, i, x, (x.length : Int), (k : Int), b, m, ())) x.length (fun k : Nat => decide ((rd f0 x (k : Int)).2.length > 2000)) (some (.inl (false, ()))) (fun k hk => by
  rw [aW.q0];have hb := h2 _ (fJ (d := f0) (xs := x) (i := (k : Int)) (by omega) (by omega));have w : IntKind.i64.wrap ((k : Int) + 1) = ((k + 1 : Nat) : Int) := by rw [wrap64 (by omega) (by omega)]; omega
  have hd : decide (((rd f0 x (k : Int)).2.length : Int) > 2000) = decide ((rd f0 x (k : Int)).2.length > 2000) := by
   by_cases q : (rd f0 x (k : Int)).2.length > 2000
   ·rw [au q, au (show ((rd f0 x (k : Int)).2.length : Int) > 2000 by omega)]
   ·rw [aA q, aA (show ¬ ((rd f0 x (k : Int)).2.length : Int) > 2000 by omega)]
  simp only [aW.b0, au (show (k : Int) < (x.length : Int) by omega), aH (show (0 : Int) <= (k : Int) by omega) (show (k : Int) < (x.length : Int) by omega), cond_true, aF (show (rd f0 x (k : Int)).2.length < 9223372036854775808 by omega), w, hd])
 have e0 : aW.l0 .lim (l, N, i, x, (x.length : Int), 0, b, m, ()) = _ := e;rw [e0, aW.q0];simp only [aW.b0, aA (show ¬ (x.length : Int) < (x.length : Int) by omega), cond_false]
theorem aac {v : VV} (hv : okV v) {l : List (List FF)} (hl : l.length <= 1000) (hx : ∀ x ∈ l, FL x) : ∃ r, aW.run .lim (v, l, ()) = some r /\ (r = true -> uG v = true /\ ∀ x ∈ l, x.length <= 40) := by
 have e := LY (f := aW.l1 .lim) (fun k => (l, (l.length : Int), (k : Int), v.1, v.2, ())) l.length (fun k : Nat => decide ((rd [] l (k : Int)).length > 40) || (List.range (rd [] l (k : Int)).length).any (fun j : Nat => decide ((rd f0 (rd [] l (k : Int)) (j : Int)).2.length > 2000)))
  (fun k => bif decide ((rd [] l (k : Int)).length > 40) then some (.inl (false, ())) else some (.inr (.inl (false, ())))) (fun k hk => by
  rw [aW.q1];have hm := hx _ (fJ (d := ([] : List FF)) (xs := l) (i := (k : Int)) (by omega) (by omega));have hml : (rd [] l (k : Int)).length < 9223372036854775808 := hm.1;have hd : decide (((rd [] l (k : Int)).length : Int) > 40) = decide ((rd [] l (k : Int)).length > 40) := by
   by_cases q : (rd [] l (k : Int)).length > 40
   ·rw [au q, au (show ((rd [] l (k : Int)).length : Int) > 40 by omega)]
   ·rw [aA q, aA (show ¬ ((rd [] l (k : Int)).length : Int) > 40 by omega)]
  simp only [aW.b1, au (show (k : Int) < (l.length : Int) by omega), aH (show (0 : Int) <= (k : Int) by omega) (show (k : Int) < (l.length : Int) by omega), cond_true, aF hml, hd, Z_ hm];cases decide ((rd [] l (k : Int)).length > 40) with
  | true => rfl
  | false =>
   cases (List.range (rd [] l (k : Int)).length).any (fun j : Nat => decide ((rd f0 (rd [] l (k : Int)) (j : Int)).2.length > 2000)) with
   | true => rfl
   | false => simp only [cond_false, Bool.or_self, Option.bind_some, mM k (by omega)])
 obtain ⟨k, hk, e⟩ := e;have e0 : aW.l1 .lim (l, (l.length : Int), 0, v.1, v.2, ()) = _ := e;obtain ⟨r, er⟩ := OL v hv;have er : aN.run .lim ((v.1, v.2), ()) = _ := er;have ef := XA v hv;have ef : bD.run .lim ((v.1, v.2), ()) = _ := ef;simp only [aW.run, aF (show l.length < 9223372036854775808 by omega), cond_true, e0];cases hany : (List.range l.length).any (fun k : Nat => decide ((rd [] l (k : Int)).length > 40) || (List.range (rd [] l (k : Int)).length).any (fun j : Nat => decide ((rd f0 (rd [] l (k : Int)) (j : Int)).2.length > 2000))) with
 | true =>
  simp only [cond_true];refine ⟨false, ?_, fun q => by cases q⟩;cases decide ((rd [] l (k : Int)).length > 40) <;> rfl
 | false =>
  simp only [cond_false];rw [aW.q1];simp only [aW.b1, aA (show ¬ (l.length : Int) < (l.length : Int) by omega), cond_false, Option.bind_some, er, qG ef];refine ⟨_, rfl, fun q => ⟨by simp only [Bool.and_eq_true] at q; exact q.2.2, fun x hx => ?_⟩⟩;rw [List.any_eq_false] at hany;obtain ⟨i, hi, rfl⟩ := List.mem_iff_getElem.1 hx;have := hany i (List.mem_range.2 hi);rw [mX hi] at this;simp only [Bool.or_eq_true, decide_eq_true_eq, not_or] at this;omega
theorem QE {l : List FF} (h : Ty.ok (.lst (.pair (.int .i64) .str)) l) : FL l := ⟨Gy h.1, fun f hf => (h.2 f hf).2.1⟩
theorem O8 {v : VV} {s key body : List Int} {l : List FF} {kind : Int} {o : NT} (hv : okV v) (hvb : vB v) (hs : s.length < dG) (hsb : Bs s) (hk : key.length < dG) (hkb : Bs key) (hb : body.length < dG) (hbb : Bs body)
  (hl : FL l) (ho1 : FL o.1.fs) (ho2 : FL o.2.1) (ho3 : FL o.2.2) : gX.run .lim (v, s, key, body, l, kind, o, ()) = some true := by
 have hs' : s.length < 9223372036854775808 := hs;have hk' : key.length < 9223372036854775808 := hk;have hb' : body.length < 9223372036854775808 := hb;obtain ⟨r, er, hr⟩ := aac hv (l := [l, o.2.1, o.2.2, o.1.fs]) (show 4 <= 1000 by decide) (fun x hx => by
  simp only [List.mem_cons, List.not_mem_nil, or_false] at hx;rcases hx with rfl | rfl | rfl | rfl
  ·exact hl
  ·exact ho2
  ·exact ho3
  ·exact ho1)
 have er : aW.run .lim (v, [l, o.2.1, o.2.2, o.1.2.2.2.2.2.2.2.2.2.2.2.2.2], ()) = some r := er;simp only [gX.run, er, Option.bind_some, aF hs', aF hk', aF hb', Bool.or_true, cond_true, X4];cases r with
 | false => rfl
 | true =>
  obtain ⟨hf, h40⟩ := hr rfl;by_cases h1 : s.length > 5000
  ·rw [au (show (s.length : Int) > 5000 by omega)]; rfl
  rw [aA (show ¬ (s.length : Int) > 5000 by omega)];by_cases h2 : key.length > 100
  ·rw [au (show (key.length : Int) > 100 by omega)]; rfl
  rw [aA (show ¬ (key.length : Int) > 100 by omega)];by_cases h3 : body.length > 70000
  ·rw [au (show (body.length : Int) > 70000 by omega)]; rfl
  rw [aA (show ¬ (body.length : Int) > 70000 by omega)];obtain ⟨n1, n2⟩ := F7 hv hf hvb (key := key) hsb hs' hk hkb;have h4 : l.length < 8796093022208 := Nat.lt_of_le_of_lt (h40 l (.head _)) (by decide);have nl := X5 (v := v) (s := s) (key := key) hsb;have no : NL o := ⟨ho1.1, ho2.1, ho3.1⟩;simp only [Bool.not_true, Bool.or_self, cond_false, n1, n2, Option.bind_some, MS hbb (show body.length < 1000000 by omega), IB hbb (show body.length < 1000000 by omega), U8 kind h4, XG kind h4, IE nl nl, IE nl no, MV nl no, MV nl nl, OZ, decide_true, Bool.and_self, cond_true, beq_self_eq_true]
theorem Na : ∀ x, oks [.ag zi, .one .str, .one .str, .one .str, .one zn, .one (.int .i64), .ag LZ] x -> gX.run .lim x = some true := by
 intro x h
 match x with
 | (v, s, key, body, l, kind, o, ()) =>
  obtain ⟨h1, h2, h3, h4, h5, _, h7, _⟩ := h;obtain ⟨⟨_, _, _, _, _, _, _, _, _, _, _, _, _, g1⟩, g2, g3⟩ := h7;exact O8 (ok_v h1) (v_B h1) (Gy h2.1) h2.2 (Gy h3.1) h3.2 (Gy h4.1) h4.2 (QE h5) (QE g1) (QE g2) (QE g3)
end Go.AM
end
