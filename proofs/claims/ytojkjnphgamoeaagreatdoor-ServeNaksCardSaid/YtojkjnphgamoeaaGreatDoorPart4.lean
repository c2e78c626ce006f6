import Derived.Test.YtojkjnphgamoeaaGreatDoorPart3

/-! The functions that the laws of this seat reach, as plain functions, and what these answer; no condition. -/
set_option linter.unusedSimpArgs false
set_option linter.unusedVariables false
set_option linter.unusedSectionVars false

open BitVec renaming ofInt->afu
open Bool renaming not_true->aeJ,and_eq_true->aeO,or_true->ae0,or_eq_true->ae_,not_false->afe,not_eq_true'->aff,eq_iff_iff->afk,or_eq_false_iff->afm,false_and->afn,and_self->afr,true_and->afs,or_self->afI
open Go.IntKind renaming u8->aeF,i64->aeH,u64->aeI,u32->afa,i8->afJ
open Int renaming toNat_of_nonneg->aeS,eq_ofNat_of_zero_le->ae1,le_refl->ae6,toNat_natCast->ae7,tmod_eq_emod_of_nonneg->afc
open List renaming length_append->aeG,length_take->aeK,length_drop->aeL,replicate->aeM,mem_singleton->aeN,length_singleton->aeP,append_assoc->aeQ,range->aeR,length_cons->aeT,not_mem_nil->aeU,take_of_length_le->aeV,length_nil->aeW,length_replicate->aeX,take_append_drop->aeY,mem_of_mem_take->aeZ,mem_append->ae2,mem_cons->ae3,drop_of_length_le->ae5,drop_append_of_le_length->ae8,take_append_of_le_length->ae9,getD_eq_getElem?_getD->afd,filter_cons_of_neg->afg,filter_cons_of_pos->afh,length->afi,take_length->afj,nil_append->afl,drop_drop->afo,drop_take->afp,filter_append->aft,mem_map->afv,filter_cons->afx,find?_some->afy,foldl_cons->afz,length_map->afA,length_set->afB,mem_filter->afC,drop_left->afD,foldl_nil->afE,mem_range->afF,take_left->afG,take_take->afH
open Nat renaming min_eq_left->ae4,le_refl->afb,le_trans->afw
open Option renaming bind_some->aeE,bind->afq
section
namespace Go.AM
abbrev PK := Int × Int × Int × Int × Int × Int × Int × Int × Int × Int × Int × Int × Int × List FF
abbrev p0 : PK := ((0 : Int), (0, (0, (0, (0, (0, (0, (0, (0, (0, (0, (0, (0, ([] : List FF))))))))))))))
abbrev PK.fs (p : PK) : List FF := p.2.2.2.2.2.2.2.2.2.2.2.2.2
abbrev PK.cut (p : PK) (l : List FF) : PK := (p.1, p.2.1, p.2.2.1, p.2.2.2.1, p.2.2.2.2.1, p.2.2.2.2.2.1, p.2.2.2.2.2.2.1, p.2.2.2.2.2.2.2.1, p.2.2.2.2.2.2.2.2.1, p.2.2.2.2.2.2.2.2.2.1, p.2.2.2.2.2.2.2.2.2.2.1, p.2.2.2.2.2.2.2.2.2.2.2.1, p.2.2.2.2.2.2.2.2.2.2.2.2.1, l)
def V6 (n low high : Int) : Bool := decide (low <= n) && decide (n <= high)
def UD (p : PK) : Bool := V6 p.1 0 3 && V6 p.2.1 0 7 && V6 p.2.2.1 0 7 && V6 p.2.2.2.1 0 255 && V6 p.2.2.2.2.1 (-128) 127 && V6 p.2.2.2.2.2.1 (-128) 127
def QK (n : Int) (k : Nat) : Int := aeF.wrap (I_ .u64 n (k : Int))
def WX (n : Int) : List Int := [QK n 24, QK n 16, QK n 8, QK n 0]
def by8 (n : Int) : List Int := [QK n 56, QK n 48, QK n 40, QK n 32, QK n 24, QK n 16, QK n 8, QK n 0]
def YM (a b c : Int) : Int := aeF.wrap (KO .i64 (KO .i64 (I9 .i64 a 6) (I9 .i64 b 3)) c)
def UE (p : PK) : List Int := [YM p.1 p.2.1 p.2.2.1, aeF.wrap p.2.2.2.1, aeF.wrap p.2.2.2.2.1, aeF.wrap p.2.2.2.2.2.1] ++
 (WX (aeI.wrap p.2.2.2.2.2.2.1) ++ (WX (aeI.wrap p.2.2.2.2.2.2.2.1) ++ (WX (aeI.wrap p.2.2.2.2.2.2.2.2.1) ++ (by8 p.2.2.2.2.2.2.2.2.2.1 ++ (by8 p.2.2.2.2.2.2.2.2.2.2.1 ++ (by8 p.2.2.2.2.2.2.2.2.2.2.2.1 ++ by8 p.2.2.2.2.2.2.2.2.2.2.2.2.1))))))
theorem S9 (p : PK) : (UE p).length = 48 := rfl
def U9 (p : PK) : Int := if UD p = true then P8 p.fs else 13
def U_ (p : PK) : List Int := if U9 p = 0 then UE p ++ Nk p.fs else []
def OQ (m : List Int) (bp : Nat) (g : Nat -> Int) : Nat -> List Int
 | 0 => m
 | i + 1 => (OQ m bp g i).set (bp + i) (g i)
theorem PS (m : List Int) (bp : Nat) (g : Nat -> Int) : ∀ i, (OQ m bp g i).length = m.length
 | 0 => rfl
 | i + 1 => by rw [OQ, afB, PS m bp g i]
theorem adA {bp bq : Nat} (hb : bp <= 48) (hq : bq <= 8) (hq0 : 1 <= bq) (n : Int) (f : List Int) (t : List Int) (t3 : Int) (m : List Int) (m1 m2 m3 m4 m5 m6 m7 m8 m9 m10 m11 m12 m13 : Int) (m14 : List FF) :
  Nb.l0 .lim ((bp : Int), (bq : Int), n, (bq : Int), 0, f, t, t3, m, m1, m2, m3, m4, m5, m6, m7, m8, m9, m10, m11, m12, m13, m14, ()) =
   some (f, t, t3, m1, m2, m3, m4, m5, m6, m7, m8, m9, m10, m11, m12, m13, m14, OQ m bp (fun i => QK n (8 * (bq - 1 - i))) bq, ()) := by
 have e := Oi (f := Nb.l0 .lim) (fun i => ((bp : Int), (bq : Int), n, (bq : Int), (i : Int), f, t, t3, OQ m bp (fun i => QK n (8 * (bq - 1 - i))) i, m1, m2, m3, m4, m5, m6, m7, m8, m9, m10, m11, m12, m13, m14, ())) (n := bq) (fun i hi => by
  rw [Nb.q0];have w1 : aeH.wrap (8 * (aeH.wrap ((aeH.wrap ((bq : Int) - 1)) - (i : Int)))) = ((8 * (bq - 1 - i) : Nat) : Int) := by rw [wrap64 (n := (bq : Int) - 1) (by omega) (by omega), wrap64 (n := (bq : Int) - 1 - (i : Int)) (by omega) (by omega), wrap64 (by omega) (by omega)]; omega
  have w2 : ((bp : Int) + (i : Int)).toNat = bp + i := by omega
  simp only [Nb.b0, MQ (show (i : Int) < (bq : Int) by omega), MX (show bq < 9223372036854775808 by omega), w1, MQ (show (0 : Int) <= ((8 * (bq - 1 - i) : Nat) : Int) by omega), MW (show (0 : Int) <= (i : Int) by omega) (show (i : Int) < (bq : Int) by omega), cond_true, Qp i (by omega), w2];rfl)
 have e0 : Nb.l0 .lim ((bp : Int), (bq : Int), n, (bq : Int), 0, f, t, t3, m, m1, m2, m3, m4, m5, m6, m7, m8, m9, m10, m11, m12, m13, m14, ()) = _ := e;rw [e0, Nb.q0];simp only [Nb.b0, MR (show ¬ (bq : Int) < (bq : Int) by omega), cond_false]
theorem adC {bp bq : Nat} (hb : bp <= 48) (hq : bq <= 8) (hq0 : 1 <= bq) (n : Int) (f : List Int) (t : List Int) (t3 : Int) (m : List Int) :
  Nb.l2 .lim ((bp : Int), (bq : Int), n, (bq : Int), 0, f, t, t3, m, ()) = some (f, t, t3, OQ m bp (fun i => QK n (8 * (bq - 1 - i))) bq, ()) := by
 have e := Oi (f := Nb.l2 .lim) (fun i => ((bp : Int), (bq : Int), n, (bq : Int), (i : Int), f, t, t3, OQ m bp (fun i => QK n (8 * (bq - 1 - i))) i, ())) (n := bq) (fun i hi => by
  rw [Nb.q2];have w1 : aeH.wrap (8 * (aeH.wrap ((aeH.wrap ((bq : Int) - 1)) - (i : Int)))) = ((8 * (bq - 1 - i) : Nat) : Int) := by rw [wrap64 (n := (bq : Int) - 1) (by omega) (by omega), wrap64 (n := (bq : Int) - 1 - (i : Int)) (by omega) (by omega), wrap64 (by omega) (by omega)]; omega
  have w2 : ((bp : Int) + (i : Int)).toNat = bp + i := by omega
  simp only [Nb.b2, MQ (show (i : Int) < (bq : Int) by omega), MX (show bq < 9223372036854775808 by omega), w1, MQ (show (0 : Int) <= ((8 * (bq - 1 - i) : Nat) : Int) by omega), MW (show (0 : Int) <= (i : Int) by omega) (show (i : Int) < (bq : Int) by omega), cond_true, Qp i (by omega), w2];rfl)
 have e0 : Nb.l2 .lim ((bp : Int), (bq : Int), n, (bq : Int), 0, f, t, t3, m, ()) = _ := e;rw [e0, Nb.q2];simp only [Nb.b2, MR (show ¬ (bq : Int) < (bq : Int) by omega), cond_false]
theorem aax (n low high : Int) : Py.run .lim (n, low, high, ()) = some (V6 n low high) := rfl
theorem adB (f a : List Int) (x0 x1 x2 : Int) (ha : a = [x0, x1, x2]) (m : List Int) (m1 m2 m3 m4 m5 m6 m7 m8 m9 m10 m11 m12 m13 : Int) (m14 : List FF) :
  Nb.l1 .lim (f, a, 0, m1, m2, m3, m4, m5, m6, m7, m8, m9, m10, m11, m12, m13, m14, m, ()) =
   some (f, m1, m2, m3, m4, m5, m6, m7, m8, m9, m10, m11, m12, m13, m14,
    OQ (OQ (OQ m 4 (fun i => QK (aeI.wrap x0) (8 * (4 - 1 - i))) 4) 8 (fun i => QK (aeI.wrap x1) (8 * (4 - 1 - i))) 4) 12 (fun i => QK (aeI.wrap x2) (8 * (4 - 1 - i))) 4, ()) := by
 subst ha;have step : ∀ (k : Nat) (hk : k < 3) (x : Int) (_ : rd 0 [x0, x1, x2] (k : Int) = x) (q : List Int), Nb.l1 .lim (f, [x0, x1, x2], (k : Int), m1, m2, m3, m4, m5, m6, m7, m8, m9, m10, m11, m12, m13, m14, q, ()) =
   Nb.l1 .lim (f, [x0, x1, x2], ((k + 1 : Nat) : Int), m1, m2, m3, m4, m5, m6, m7, m8, m9, m10, m11, m12, m13, m14, OQ q (4 + 4 * k) (fun i => QK (aeI.wrap x) (8 * (4 - 1 - i))) 4, ()) := by
  intro k hk x hx q;rw [Nb.q1];have w1 : aeH.wrap (4 + aeH.wrap (4 * (k : Int))) = ((4 + 4 * k : Nat) : Int) := by rw [wrap64 (n := 4 * (k : Int)) (by omega) (by omega), wrap64 (by omega) (by omega)]; omega
  have w2 : aeH.wrap (8 + aeH.wrap (4 * (k : Int))) = ((8 + 4 * k : Nat) : Int) := by rw [wrap64 (n := 4 * (k : Int)) (by omega) (by omega), wrap64 (by omega) (by omega)]; omega
  have w3 : ((8 + 4 * k : Nat) : Int) - ((4 + 4 * k : Nat) : Int) = ((4 : Nat) : Int) := by omega
  have h := adA (bp := 4 + 4 * k) (bq := 4) (by omega) (by omega) (by omega) (aeI.wrap x) f [x0, x1, x2] (k : Int) q m1 m2 m3 m4 m5 m6 m7 m8 m9 m10 m11 m12 m13 m14;simp only [Nb.b1, MQ (show (k : Int) < 3 by omega), MW (show (0 : Int) <= (k : Int) by omega) (show (k : Int) < 3 by omega), w1, w2, w3, Nc (show (0 : Int) <= ((4 + 4 * k : Nat) : Int) by omega) (show ((4 + 4 * k : Nat) : Int) <= ((8 + 4 * k : Nat) : Int) by omega) (show ((8 + 4 * k : Nat) : Int) <= 48 by omega), MX (show 4 < 9223372036854775808 by decide), cond_true, hx, h, aeE, Qp k (by omega)]
 have s0 := step 0 (by decide) x0 rfl m;have s1 := step 1 (by decide) x1 rfl (OQ m 4 (fun i => QK (aeI.wrap x0) (8 * (4 - 1 - i))) 4);have s2 := step 2 (by decide) x2 rfl (OQ (OQ m 4 (fun i => QK (aeI.wrap x0) (8 * (4 - 1 - i))) 4) 8 (fun i => QK (aeI.wrap x1) (8 * (4 - 1 - i))) 4);refine (s0.trans (s1.trans s2)).trans ?_;rw [Nb.q1];simp only [Nb.b1, MR (show ¬ ((2 + 1 : Nat) : Int) < 3 by decide), cond_false]
theorem adD (f a : List Int) (x0 x1 x2 x3 : Int) (ha : a = [x0, x1, x2, x3]) (m : List Int) :
  Nb.l3 .lim (f, a, 0, m, ()) =
   some (f, OQ (OQ (OQ (OQ m 16 (fun i => QK x0 (8 * (8 - 1 - i))) 8) 24 (fun i => QK x1 (8 * (8 - 1 - i))) 8) 32 (fun i => QK x2 (8 * (8 - 1 - i))) 8) 40 (fun i => QK x3 (8 * (8 - 1 - i))) 8, ()) := by
 subst ha;have step : ∀ (k : Nat) (hk : k < 4) (x : Int) (_ : rd 0 [x0, x1, x2, x3] (k : Int) = x) (q : List Int), Nb.l3 .lim (f, [x0, x1, x2, x3], (k : Int), q, ()) =
   Nb.l3 .lim (f, [x0, x1, x2, x3], ((k + 1 : Nat) : Int), OQ q (16 + 8 * k) (fun i => QK x (8 * (8 - 1 - i))) 8, ()) := by
  intro k hk x hx q;rw [Nb.q3];have w1 : aeH.wrap (16 + aeH.wrap (8 * (k : Int))) = ((16 + 8 * k : Nat) : Int) := by rw [wrap64 (n := 8 * (k : Int)) (by omega) (by omega), wrap64 (by omega) (by omega)]; omega
  have w2 : aeH.wrap (24 + aeH.wrap (8 * (k : Int))) = ((24 + 8 * k : Nat) : Int) := by rw [wrap64 (n := 8 * (k : Int)) (by omega) (by omega), wrap64 (by omega) (by omega)]; omega
  have w3 : ((24 + 8 * k : Nat) : Int) - ((16 + 8 * k : Nat) : Int) = ((8 : Nat) : Int) := by omega
  have h := adC (bp := 16 + 8 * k) (bq := 8) (by omega) (by omega) (by omega) x f [x0, x1, x2, x3] (k : Int) q;simp only [Nb.b3, MQ (show (k : Int) < 4 by omega), MW (show (0 : Int) <= (k : Int) by omega) (show (k : Int) < 4 by omega), w1, w2, w3, Nc (show (0 : Int) <= ((16 + 8 * k : Nat) : Int) by omega) (show ((16 + 8 * k : Nat) : Int) <= ((24 + 8 * k : Nat) : Int) by omega) (show ((24 + 8 * k : Nat) : Int) <= 48 by omega), MX (show 8 < 9223372036854775808 by decide), cond_true, hx, h, aeE, Qp k (by omega)]
 have s0 := step 0 (by decide) x0 rfl m;have s1 := step 1 (by decide) x1 rfl (OQ m 16 (fun i => QK x0 (8 * (8 - 1 - i))) 8);have s2 := step 2 (by decide) x2 rfl (OQ (OQ m 16 (fun i => QK x0 (8 * (8 - 1 - i))) 8) 24 (fun i => QK x1 (8 * (8 - 1 - i))) 8);have s3 := step 3 (by decide) x3 rfl (OQ (OQ (OQ m 16 (fun i => QK x0 (8 * (8 - 1 - i))) 8) 24 (fun i => QK x1 (8 * (8 - 1 - i))) 8) 32 (fun i => QK x2 (8 * (8 - 1 - i))) 8);refine (s0.trans (s1.trans (s2.trans s3))).trans ?_;rw [Nb.q3];simp only [Nb.b3, MR (show ¬ ((3 + 1 : Nat) : Int) < 4 by decide), cond_false]
theorem RD {l : List FF} : (Qc l).length <= 1232 := by
 unfold Qc;split
 ·rename_i h;unfold P8 at h;split at h
  ·cases h
  ·split at h
   ·rename_i k hq;have hk := afy hq;simp only [aff, decide_eq_false_iff_not] at hk;exact absurd h hk
   ·split at h
    ·cases h
    ·omega
 ·simp
theorem ZO (x0 x1 x2 x3 : Int) (a b c d e f g : Nat -> Int) :
  ((OQ (OQ (OQ (OQ (OQ (OQ (OQ (((((aeM 48 (0 : Int)).set 0 x0).set 1 x1).set 2 x2).set 3 x3) 4 a 4) 8 b 4) 12 c 4) 16 d 8) 24 e 8) 32 f 8) 40 g 8).drop 0).take 48 =
   [x0, x1, x2, x3] ++ ([a 0, a 1, a 2, a 3] ++ ([b 0, b 1, b 2, b 3] ++ ([c 0, c 1, c 2, c 3] ++ ([d 0, d 1, d 2, d 3, d 4, d 5, d 6, d 7] ++ ([e 0, e 1, e 2, e 3, e 4, e 5, e 6, e 7] ++ ([f 0, f 1, f 2, f 3, f 4, f 5, f 6, f 7] ++ [g 0, g 1, g 2, g 3, g 4, g 5, g 6, g 7])))))) := by kernel_rfl
theorem TG {p : PK} (hl : FL p.fs) : Nb.run .lim (p, ()) = some (U_ p, U9 p, ()) := by
 obtain ⟨a, b, c, d, e, g, r1, r2, r3, q1, q2, q3, q4, l⟩ := p;simp only [Nb.run, aax, aeE];unfold U_ U9 UD;generalize V6 a 0 3 = c1;generalize V6 b 0 7 = c2;generalize V6 c 0 7 = c3;generalize V6 d 0 255 = c4;generalize V6 e (-128) 127 = c5;generalize V6 g (-128) 127 = c6;cases c1
 ·rfl
 cases c2
 ·rfl
 cases c3
 ·rfl
 cases c4
 ·rfl
 cases c5
 ·rfl
 cases c6
 ·rfl
 simp only [aeJ, afe, cond_true, cond_false, aeE, afI, afr, if_true];rw [Vd hl];simp only [aeE];have hfl : (Qc (PK.fs (a, b, c, d, e, g, r1, r2, r3, q1, q2, q3, q4, l))).length <= 1232 := RD;show (bif !decide (P8 l = 0) then some (([] : List Int), P8 l, ()) else _) = some (if P8 l = 0 then _ else [], P8 l, ());by_cases h0 : P8 l = 0
 ·rw [MQ h0, if_pos h0];simp only [aeJ, cond_false];rw [adB _ ((((aeM 3 (0 : Int)).set 0 r1).set 1 r2).set 2 r3) r1 r2 r3 rfl];simp only [aeE];rw [adD _ (((((aeM 4 (0 : Int)).set 0 q1).set 1 q2).set 2 q3).set 3 q4) q1 q2 q3 q4 rfl];simp only [aeE];have hf : Qc l = Nk l := by unfold Qc; rw [if_pos h0]
  rw [cond_pos (MQ (show _ <= maxStr by rw [aeK, List.drop_zero, PS, PS, PS, PS, PS, PS, PS]; simp only [afB, aeX]; unfold maxStr; omega)), h0, ZO];have hf : Qc (PK.fs (a, b, c, d, e, g, r1, r2, r3, q1, q2, q3, q4, l)) = Nk (PK.fs (a, b, c, d, e, g, r1, r2, r3, q1, q2, q3, q4, l)) := hf;rw [hf];rfl
 ·rw [MR h0, if_neg h0]; rfl
end Go.AM
end
section
namespace Go.AM
def sg (c : Int) : Int := if c > 127 then c - 256 else c
def rdP (s : List Int) (fs : List FF) : PK := (rd 0 s 0 / 64, rd 0 s 0 / 8 % 8, rd 0 s 0 % 8, rd 0 s 1, sg (rd 0 s 2), sg (rd 0 s 3), N7 ((s.take 8).drop 4), N7 ((s.take 12).drop 8), N7 ((s.take 16).drop 12),
 N7 ((s.take 24).drop 16), N7 ((s.take 32).drop 24), N7 ((s.take 40).drop 32), N7 ((s.take 48).drop 40), fs)
def Ur (s : List Int) : Int := if s.length < 48 then 11 else if s.length > 1280 then 12 else (Sr (s.drop 48).length (s.drop 48) []).2
def Ou (s : List Int) : PK := if Ur s = 0 then rdP s (Sr (s.drop 48).length (s.drop 48) []).1 else p0
theorem ab9 {c : Int} (h : B8 c) : aeH.wrap (I_ .u8 c 6) = c / 64 := OY (p := fun c => aeH.wrap (I_ .u8 c 6) = c / 64) (by decide +kernel) h
theorem ab_ {c : Int} (h : B8 c) : aeH.wrap (I8 .u8 (I_ .u8 c 3) 7) = c / 8 % 8 := OY (p := fun c => aeH.wrap (I8 .u8 (I_ .u8 c 3) 7) = c / 8 % 8) (by decide +kernel) h
theorem acd {c : Int} (h : B8 c) : aeH.wrap (I8 .u8 c 7) = c % 8 := OY (p := fun c => aeH.wrap (I8 .u8 c 7) = c % 8) (by decide +kernel) h
theorem abo {c : Int} (h : B8 c) : aeH.wrap c = c := OY (p := fun c => aeH.wrap c = c) (by decide +kernel) h
theorem ace {c : Int} (h : B8 c) : aeH.wrap (afJ.wrap c) = sg c := OY (p := fun c => aeH.wrap (afJ.wrap c) = sg c) (by decide +kernel) h
theorem acf {c : Int} (h : B8 c) : Ox.run .lim (c, ()) = some (sg c) := by
 have e1 := abo h;unfold sg;simp only [Ox.run, e1];by_cases q : c > 127
 ·rw [MQ q, if_pos q, wrap64 (by omega) (by omega)]; rfl
 ·rw [MR q, if_neg q]; rfl
theorem abS {t : List Int} (hb : Bs t) (hl : t.length = 4) : afa.wrap (N7 t) = N7 t /\ WX (aeI.wrap (N7 t)) = t := by
 have hv := TB hb 4 (by omega);rw [aeV (by omega)] at hv;refine ⟨by rw [Qi]; omega, ?_⟩;rw [show aeI.wrap (N7 t) = N7 t by rw [Qj]; omega]
 match t, hl with
 | [a, b, c, d], _ =>
  have h1 := hb a (by simp); have h2 := hb b (by simp); have h3 := hb c (by simp); have h4 := hb d (by simp);have e : N7 [a, b, c, d] = ((a * 256 + b) * 256 + c) * 256 + d := by simp [N7]
  have s1 := Oj (N7 [a, b, c, d]) 0 24 .u64 (by decide);have s2 := Oj (N7 [a, b, c, d]) 0 16 .u64 (by decide);have s3 := Oj (N7 [a, b, c, d]) 0 8 .u64 (by decide);have s4 := Oj (N7 [a, b, c, d]) 0 0 .u64 (by decide);unfold WX QK;simp only [s1, s2, s3, s4];simp only [Pg, e];congr 1
  ·omega
  congr 1
  ·omega
  congr 1
  ·omega
  congr 1;omega
theorem adz {t : List Int} (hb : Bs t) (hl : t.length = 8) : by8 (N7 t) = t := by
 match t, hl with
 | [a, b, c, d, a', b', c', d'], _ =>
  have h1 := hb a (by simp); have h2 := hb b (by simp); have h3 := hb c (by simp); have h4 := hb d (by simp);have h5 := hb a' (by simp); have h6 := hb b' (by simp); have h7 := hb c' (by simp); have h8 := hb d' (by simp);have e : N7 [a, b, c, d, a', b', c', d'] = ((((((a * 256 + b) * 256 + c) * 256 + d) * 256 + a') * 256 + b') * 256 + c') * 256 + d' := by simp [N7]
  have s1 := Oj (N7 [a, b, c, d, a', b', c', d']) 0 56 .u64 (by decide);have s2 := Oj (N7 [a, b, c, d, a', b', c', d']) 0 48 .u64 (by decide);have s3 := Oj (N7 [a, b, c, d, a', b', c', d']) 0 40 .u64 (by decide);have s4 := Oj (N7 [a, b, c, d, a', b', c', d']) 0 32 .u64 (by decide);have s5 := Oj (N7 [a, b, c, d, a', b', c', d']) 0 24 .u64 (by decide);have s6 := Oj (N7 [a, b, c, d, a', b', c', d']) 0 16 .u64 (by decide);have s7 := Oj (N7 [a, b, c, d, a', b', c', d']) 0 8 .u64 (by decide);have s8 := Oj (N7 [a, b, c, d, a', b', c', d']) 0 0 .u64 (by decide);unfold by8 QK;simp only [s1, s2, s3, s4, s5, s6, s7, s8];simp only [Pg, e];congr 1
  ·omega
  congr 1
  ·omega
  congr 1
  ·omega
  congr 1
  ·omega
  congr 1
  ·omega
  congr 1
  ·omega
  congr 1
  ·omega
  congr 1;omega
theorem Q7 {s : List Int} {a b : Nat} (h : b <= s.length) : ((s.take b).drop a).length = b - a := by rw [aeL, aeK, ae4 h]
theorem X6 {s : List Int} (hs : Bs s) (hl : s.length < 9223372036854775808) : P5.run .lim (s, ()) = some (Ou s, Ur s, ()) := by
 simp only [P5.run, MX hl, cond_true];unfold Ou Ur;by_cases h1 : s.length < 48
 ·rw [MQ (show (s.length : Int) < 48 by omega), if_pos h1]; rfl
 rw [MR (show ¬ (s.length : Int) < 48 by omega), if_neg h1];by_cases h2 : s.length > 1280
 ·rw [MQ (show (s.length : Int) > 1280 by omega), if_pos h2]; rfl
 rw [MR (show ¬ (s.length : Int) > 1280 by omega), if_neg h2];have hc : cut s 48 (s.length : Int) = s.drop 48 := QC (a := 48) rfl;simp only [cond_false, Nc (show (0 : Int) <= 48 by omega) (show (48 : Int) <= (s.length : Int) by omega) (ae6 _), cond_true, hc, aa9 (hs.drop 48) (show (s.drop 48).length < 9223372036854775808 by rw [aeL]; omega), aeE];generalize Sr (s.drop 48).length (s.drop 48) [] = r;obtain ⟨fs, e⟩ := r;simp only;by_cases h0 : e = 0
 ·rw [MQ h0, if_pos h0];have rb : ∀ k : Nat, k < 48 -> B8 (rd 0 s (k : Int)) := fun k hk => hs _ (Oc (by omega) (by omega))
  have r0 := rb 0 (by decide); have r1 := rb 1 (by decide); have r2 := rb 2 (by decide); have r3 := rb 3 (by decide);have v : ∀ a b : Nat, a <= b -> b <= 48 -> b - a <= 8 -> NI.run .lim ((s.take b).drop a, ()) = some (N7 ((s.take b).drop a)) := fun a b _ hb hq => TD ((hs.take b).drop a) (by rw [Q7 (by omega)]; omega)
  have u : ∀ a b : Nat, b = a + 4 -> b <= 48 -> afa.wrap (N7 ((s.take b).drop a)) = N7 ((s.take b).drop a) := fun a b h hb => (abS ((hs.take b).drop a) (by rw [Q7 (by omega)]; omega)).1
  have c1 : cut s 4 8 = (s.take 8).drop 4 := O4 rfl rfl;have c2 : cut s 8 12 = (s.take 12).drop 8 := O4 rfl rfl;have c3 : cut s 12 16 = (s.take 16).drop 12 := O4 rfl rfl;have c4 : cut s 16 24 = (s.take 24).drop 16 := O4 rfl rfl;have c5 : cut s 24 32 = (s.take 32).drop 24 := O4 rfl rfl;have c6 : cut s 32 40 = (s.take 40).drop 32 := O4 rfl rfl;have c7 : cut s 40 48 = (s.take 48).drop 40 := O4 rfl rfl;have k : ∀ a b : Int, 0 <= a -> a <= b -> b <= 48 -> sK a b (s.length : Int) = true := fun a b x y z => Nc x y (by omega)
  have i : ∀ a : Int, 0 <= a -> a < 48 -> inB a (s.length : Int) = true := fun a x y => MW x (by omega)
  simp only [aeJ, cond_false, i 0 (by decide) (by decide), i 1 (by decide) (by decide), i 2 (by decide) (by decide), i 3 (by decide) (by decide), cond_true, k 4 8 (by decide) (by decide) (by decide), k 8 12 (by decide) (by decide) (by decide), k 12 16 (by decide) (by decide) (by decide), k 16 24 (by decide) (by decide) (by decide), k 24 32 (by decide) (by decide) (by decide), k 32 40 (by decide) (by decide) (by decide), k 40 48 (by decide) (by decide) (by decide),
   c1, c2, c3, c4, c5, c6, c7, v 4 8 (by decide) (by decide) (by decide), v 8 12 (by decide) (by decide) (by decide), v 12 16 (by decide) (by decide) (by decide), v 16 24 (by decide) (by decide) (by decide), v 24 32 (by decide) (by decide) (by decide), v 32 40 (by decide) (by decide) (by decide), v 40 48 (by decide) (by decide) (by decide), aeE, u 4 8 rfl (by decide), u 8 12 rfl (by decide), u 12 16 rfl (by decide)]
  have q0 : B8 (rd 0 s 0) := r0;have q1 : B8 (rd 0 s 1) := r1;have q2 : B8 (rd 0 s 2) := r2;have q3 : B8 (rd 0 s 3) := r3;simp only [ab9 q0, ab_ q0, acd q0, abo q1, ace q2, ace q3, h0];rfl
 ·rw [MR h0, if_neg h0]; rfl
theorem ZJ {s : List Int} (hs : Bs s) (hl : s.length < 9223372036854775808) : NQ.run .lim (s, ()) = some (Ou s, Ur s, ()) := by
 simp only [NQ.run, MX hl, cond_true];unfold Ou Ur;by_cases h1 : s.length < 48
 ·rw [MQ (show (s.length : Int) < 48 by omega), if_pos h1]; rfl
 rw [MR (show ¬ (s.length : Int) < 48 by omega), if_neg h1];by_cases h2 : s.length > 1280
 ·rw [MQ (show (s.length : Int) > 1280 by omega), if_pos h2]; rfl
 rw [MR (show ¬ (s.length : Int) > 1280 by omega), if_neg h2];have hc : cut s 48 (s.length : Int) = s.drop 48 := QC (a := 48) rfl;simp only [cond_false, Nc (show (0 : Int) <= 48 by omega) (show (48 : Int) <= (s.length : Int) by omega) (ae6 _), cond_true, hc, abM (hs.drop 48) (show (s.drop 48).length < 9223372036854775808 by rw [aeL]; omega), aeE];generalize Sr (s.drop 48).length (s.drop 48) [] = r;obtain ⟨fs, e⟩ := r;simp only;by_cases h0 : e = 0
 ·rw [MQ h0, if_pos h0];have rb : ∀ k : Nat, k < 48 -> B8 (rd 0 s (k : Int)) := fun k hk => hs _ (Oc (by omega) (by omega))
  have q0 : B8 (rd 0 s 0) := rb 0 (by decide);have q1 : B8 (rd 0 s 1) := rb 1 (by decide);have q2 : B8 (rd 0 s 2) := rb 2 (by decide);have q3 : B8 (rd 0 s 3) := rb 3 (by decide);have v : ∀ a b : Nat, a <= b -> b <= 48 -> b - a <= 8 -> M_.run .lim ((s.take b).drop a, ()) = some (N7 ((s.take b).drop a)) := fun a b _ hb hq => RV ((hs.take b).drop a) (by rw [Q7 (by omega)]; omega)
  have u : ∀ a b : Nat, b = a + 4 -> b <= 48 -> afa.wrap (N7 ((s.take b).drop a)) = N7 ((s.take b).drop a) := fun a b h hb => (abS ((hs.take b).drop a) (by rw [Q7 (by omega)]; omega)).1
  have c1 : cut s 4 8 = (s.take 8).drop 4 := O4 rfl rfl;have c2 : cut s 8 12 = (s.take 12).drop 8 := O4 rfl rfl;have c3 : cut s 12 16 = (s.take 16).drop 12 := O4 rfl rfl;have c4 : cut s 16 24 = (s.take 24).drop 16 := O4 rfl rfl;have c5 : cut s 24 32 = (s.take 32).drop 24 := O4 rfl rfl;have c6 : cut s 32 40 = (s.take 40).drop 32 := O4 rfl rfl;have c7 : cut s 40 48 = (s.take 48).drop 40 := O4 rfl rfl;have k : ∀ a b : Int, 0 <= a -> a <= b -> b <= 48 -> sK a b (s.length : Int) = true := fun a b x y z => Nc x y (by omega)
  have i : ∀ a : Int, 0 <= a -> a < 48 -> inB a (s.length : Int) = true := fun a x y => MW x (by omega)
  simp only [aeJ, cond_false, i 0 (by decide) (by decide), i 1 (by decide) (by decide), i 2 (by decide) (by decide), i 3 (by decide) (by decide), cond_true, k 4 8 (by decide) (by decide) (by decide), k 8 12 (by decide) (by decide) (by decide), k 12 16 (by decide) (by decide) (by decide), k 16 24 (by decide) (by decide) (by decide), k 24 32 (by decide) (by decide) (by decide), k 32 40 (by decide) (by decide) (by decide), k 40 48 (by decide) (by decide) (by decide),
   c1, c2, c3, c4, c5, c6, c7, v 4 8 (by decide) (by decide) (by decide), v 8 12 (by decide) (by decide) (by decide), v 12 16 (by decide) (by decide) (by decide), v 16 24 (by decide) (by decide) (by decide), v 24 32 (by decide) (by decide) (by decide), v 32 40 (by decide) (by decide) (by decide), v 40 48 (by decide) (by decide) (by decide), aeE, u 4 8 rfl (by decide), u 8 12 rfl (by decide), u 12 16 rfl (by decide), acf q2, acf q3]
  simp only [ab9 q0, ab_ q0, acd q0, abo q1, h0];rfl
 ·rw [MR h0, if_neg h0]; rfl
theorem acU {c : Int} (h : B8 c) : YM (c / 64) (c / 8 % 8) (c % 8) = c := OY (p := fun c => YM (c / 64) (c / 8 % 8) (c % 8) = c) (by decide +kernel) h
theorem acg {c : Int} (h : B8 c) : aeF.wrap (sg c) = c := OY (p := fun c => aeF.wrap (sg c) = c) (by decide +kernel) h
theorem glue {s : List Int} {a b c : Nat} (h1 : a <= b) (h2 : b <= c) : (s.take b).drop a ++ (s.take c).drop b = (s.take c).drop a := by
 have e : s.take b = (s.take c).take b := by rw [afH, ae4 h2]
 have e2 : (s.take c).drop b = ((s.take c).drop a).drop (b - a) := by rw [afo]; congr 1; omega
 have e3 : ((s.take c).take b).drop a = ((s.take c).drop a).take (b - a) := by rw [afp]
 rw [e, e2, e3, aeY]
theorem aaz {s : List Int} (hs : Bs s) (hl : 48 <= s.length) (fs : List FF) : UE (rdP s fs) = s.take 48 /\ UD (rdP s fs) = true := by
 have rb : ∀ k : Nat, k < 48 -> B8 (rd 0 s (k : Int)) := fun k hk => hs _ (Oc (by omega) (by omega))
 have q0 : B8 (rd 0 s 0) := rb 0 (by decide);have q1 : B8 (rd 0 s 1) := rb 1 (by decide);have q2 : B8 (rd 0 s 2) := rb 2 (by decide);have q3 : B8 (rd 0 s 3) := rb 3 (by decide);constructor
 ·have u : ∀ a b : Nat, b = a + 4 -> b <= 48 -> WX (aeI.wrap (N7 ((s.take b).drop a))) = (s.take b).drop a := fun a b h hb => (abS ((hs.take b).drop a) (by rw [Q7 (by omega)]; omega)).2
  have v : ∀ a b : Nat, b = a + 8 -> b <= 48 -> by8 (N7 ((s.take b).drop a)) = (s.take b).drop a := fun a b h hb => adz ((hs.take b).drop a) (by rw [Q7 (by omega)]; omega)
  have h4 := list4 (t := s.take 4) (by rw [aeK]; omega);have t0 : rd 0 (s.take 4) 0 = rd 0 s 0 := Qe (k := 0) (n := 4) (by decide);have t1 : rd 0 (s.take 4) 1 = rd 0 s 1 := Qe (k := 1) (n := 4) (by decide);have t2 : rd 0 (s.take 4) 2 = rd 0 s 2 := Qe (k := 2) (n := 4) (by decide);have t3 : rd 0 (s.take 4) 3 = rd 0 s 3 := Qe (k := 3) (n := 4) (by decide);rw [t0, t1, t2, t3] at h4;unfold UE rdP;simp only [acU q0, Qq q1, acg q2, acg q3, u 4 8 rfl (by decide), u 8 12 rfl (by decide), u 12 16 rfl (by decide), v 16 24 rfl (by decide), v 24 32 rfl (by decide), v 32 40 rfl (by decide), v 40 48 rfl (by decide)];rw [<- h4, glue (by decide) (by decide), glue (by decide) (by decide), glue (by decide) (by decide), glue (by decide) (by decide), glue (by decide) (by decide), glue (by decide) (by decide)];have := glue (s := s) (a := 0) (b := 4) (c := 48) (by decide) (by decide);simpa using this
 ·unfold UD rdP V6 sg;simp only [aeO, decide_eq_true_eq];refine ⟨⟨⟨⟨⟨?_, ?_⟩, ?_⟩, ?_⟩, ?_⟩, ?_⟩
  ·omega
  ·omega
  ·omega
  ·omega
  ·split <;> omega
  ·split <;> omega
structure Was (s : List Int) : Prop where
 l0 : 48 <= s.length
 l1 : s.length <= 1280
 eq : Ou s = rdP s (Ou s).fs
 st : s = s.take 48 ++ Nk (Ou s).fs
 ok : ∀ f ∈ (Ou s).fs, Yj f
 few : (Ou s).fs.length <= 16
theorem was {s : List Int} (hs : Bs s) (h : Ur s = 0) : Was s := by
 have h1 : 48 <= s.length := by
  unfold Ur at h;split at h
  ·cases h
  ·omega
 have h2 : s.length <= 1280 := by
  unfold Ur at h;rw [if_neg (by omega)] at h;split at h
  ·cases h
  ·omega
 have h3 : (Sr (s.drop 48).length (s.drop 48) []).2 = 0 := by
  unfold Ur at h
  rwa [if_neg (by omega), if_neg (by omega)] at h
 obtain ⟨l, k1, k2, k3, k4⟩ := aaS _ _ [] (afb _) (hs.drop 48) h3;have hr : Ou s = rdP s l := by unfold Ou; rw [if_pos h, k1]; rfl
 have hf : (Ou s).fs = l := by rw [hr]; rfl
 refine ⟨h1, h2, by rw [hf, hr], by rw [hf, <- k2, aeY], by rw [hf]; exact k3, by rw [hf]; simpa using k4 (by simp)⟩
theorem XG {s : List Int} (hs : Bs s) (h : Ur s = 0) (k : Nat) : Nb.run .lim (PK.cut (Ou s) ((Ou s).fs.take k), ()) = some (s.take (48 + (Nk ((Ou s).fs.take k)).length), 0, ()) := by
 have w := was hs h;have hle := Wn (Ou s).fs k;have hsl : s.length = 48 + (Nk (Ou s).fs).length := by
  have := congrArg afi w.st;rw [aeG, aeK, ae4 w.l0] at this;exact this
 have hok : ∀ f ∈ (Ou s).fs.take k, Yj f := fun f hf => w.ok f (aeZ hf)
 have hfl : FL (PK.fs (PK.cut (Ou s) ((Ou s).fs.take k))) := by
  refine ⟨?_, fun f hf => ?_⟩
  ·show ((Ou s).fs.take k).length < _;have := w.few;rw [aeK]; omega
  ·have := (hok f hf).l1; omega
 rw [TG hfl];have hb := aaz hs w.l0 ((Ou s).fs.take k);have hc : PK.cut (Ou s) ((Ou s).fs.take k) = rdP s ((Ou s).fs.take k) := by
  conv => lhs; rw [show PK.cut (Ou s) ((Ou s).fs.take k) = PK.cut (rdP s (Ou s).fs) ((Ou s).fs.take k) by rw [<- w.eq]]
  rfl
 have he : U9 (PK.cut (Ou s) ((Ou s).fs.take k)) = 0 := by
  unfold U9;rw [hc, if_pos hb.2];show P8 ((Ou s).fs.take k) = 0;exact VO hok (by have := w.few; rw [aeK]; omega) (by have := w.l1; omega)
 have hs2 : U_ (PK.cut (Ou s) ((Ou s).fs.take k)) = s.take (48 + (Nk ((Ou s).fs.take k)).length) := by
  unfold U_;rw [if_pos he, hc, hb.1];show s.take 48 ++ Nk ((Ou s).fs.take k) = _;have e1 : Nk (Ou s).fs = Nk ((Ou s).fs.take k) ++ Nk ((Ou s).fs.drop k) := by rw [<- TL, aeY]
  have e2 : s = (s.take 48 ++ Nk ((Ou s).fs.take k)) ++ Nk ((Ou s).fs.drop k) := by rw [aeQ, <- e1]; exact w.st
  have e3 : (s.take 48 ++ Nk ((Ou s).fs.take k)).length = 48 + (Nk ((Ou s).fs.take k)).length := by rw [aeG, aeK, ae4 w.l0]
  rw [<- e3];generalize Nk ((Ou s).fs.take k) = x at e2;generalize Nk ((Ou s).fs.drop k) = y at e2;generalize s.take 48 = z at e2;rw [e2, afG]
 rw [he, hs2]
end Go.AM
end
section
namespace Go.AM
def findF (l : List FF) (kind : Int) : List Int := ((aeR l.length).filter fun k : Nat => decide ((rd f0 l (k : Int)).1 = kind)).map fun k : Nat => (k : Int)
def Ub (l : List FF) (kind : Int) (n : Nat) : List Int := ((aeR n).filter fun k : Nat => decide ((rd f0 l (k : Int)).1 = kind)).map fun k : Nat => (k : Int)
theorem Vf (l : List FF) (kind : Int) (n : Nat) : (Ub l kind n).length <= n := by
 unfold Ub;rw [afA];exact afw (List.length_filter_le _ _) (by simp)
theorem Xj (l : List FF) (kind : Int) (n : Nat) : Ub l kind (n + 1) = if (rd f0 l (n : Int)).1 = kind then Ub l kind n ++ [(n : Int)] else Ub l kind n := by
 unfold Ub;rw [List.range_succ, aft, List.map_append];by_cases h : (rd f0 l (n : Int)).1 = kind
 ·rw [if_pos h, afh (by simpa using h)]; rfl
 ·rw [if_neg h, afg (by simpa using h)]; simp
theorem TF {l : List FF} (kind : Int) (hl : l.length <= 140737488351232) (h2 : l.length < 8796093022208) : Oa.run .lim (l, kind, ()) = some (findF l kind) := by
 have e := Oi (f := Oa.l0 .lim) (fun k => (kind, l, (l.length : Int), (k : Int), Ub l kind k, ())) (n := l.length) (fun k hk => by
  rw [Oa.q0];have hn := Vf l kind k;simp only [Oa.b0, MQ (show (k : Int) < (l.length : Int) by omega), MW (show (0 : Int) <= (k : Int) by omega) (show (k : Int) < (l.length : Int) by omega), cond_true, Qp k (by omega), Xj];by_cases h : (rd f0 l (k : Int)).1 = kind
  ·rw [MQ h, if_pos h];simp only [cond_true];rw [cond_pos (MQ (show (Ub l kind k).length + [(k : Int)].length < 8796093022208 by simp; omega))]
  ·rw [MR h, if_neg h]; rfl)
 have e0 : Oa.l0 .lim (kind, l, (l.length : Int), 0, ([] : List Int), ()) = _ := e;simp only [Oa.run, MX (show l.length < 9223372036854775808 by omega), cond_true, e0];rw [Oa.q0];simp only [Oa.b0, MR (show ¬ (l.length : Int) < (l.length : Int) by omega), cond_false, aeE];rfl
def SE (l : List FF) (kind : Int) : Option Nat := (aeR l.length).find? fun k : Nat => decide ((rd f0 l (k : Int)).1 = kind)
theorem Ua {α : Type} (p : α -> Bool) : ∀ l : List α, l.find? p = (l.filter p).head?
 | [] => rfl
 | a :: l => by
  cases h : p a with
  | true => rw [List.find?_cons_of_pos h, afh h]; rfl
  | false => rw [List.find?_cons_of_neg (by simp [h]), afg (by simp [h]), Ua p l]
theorem QD (l : List FF) (kind : Int) : (SE l kind = none /\ findF l kind = []) \/ ∃ k r, SE l kind = some k /\ findF l kind = (k : Int) :: r /\ k < l.length /\ (rd f0 l (k : Int)).1 = kind := by
 unfold SE findF;rw [Ua];cases h : (aeR l.length).filter (fun k : Nat => decide ((rd f0 l (k : Int)).1 = kind)) with
 | nil => exact .inl ⟨rfl, rfl⟩
 | cons k r =>
  have hm : k ∈ (aeR l.length).filter (fun k : Nat => decide ((rd f0 l (k : Int)).1 = kind)) := by rw [h]; exact .head _
  obtain ⟨h1, h2⟩ := afC.1 hm;exact .inr ⟨k, _, rfl, rfl, afF.1 h1, by simpa using h2⟩
theorem Qm (l : List FF) (kind : Int) : (findF l kind).length <= l.length := Vf l kind l.length
def OW (l : List FF) (kind : Int) : List Int × Int :=
 if (findF l kind).length = 0 then ([], 19) else if (findF l kind).length = 1 then ((rd f0 l (rd 0 (findF l kind) 0)).2, 0) else ([], 24)
theorem Zy {l : List FF} {kind : Int} (h : (findF l kind).length ≠ 0) : inB 0 ((findF l kind).length : Int) = true /\ inB (rd 0 (findF l kind) 0) (l.length : Int) = true := by
 refine ⟨MW (by omega) (by omega), ?_⟩;rcases QD l kind with ⟨_, q⟩ | ⟨k, r, _, q, hk, _⟩
 ·rw [q] at h; exact absurd rfl h
 ·rw [q];exact MW (show (0 : Int) <= (k : Int) by omega) (show (k : Int) < (l.length : Int) by omega)
theorem Zx {l : List FF} (kind : Int) (hl : l.length < 8796093022208) : P6.run .lim (l, kind, ()) = some ((OW l kind).1, (OW l kind).2, ()) := by
 have hn := Qm l kind;simp only [P6.run, TF kind (by omega) hl, aeE, MX (show (findF l kind).length < 9223372036854775808 by omega), cond_true];unfold OW;by_cases h0 : (findF l kind).length = 0
 ·rw [MQ (show ((findF l kind).length : Int) = 0 by omega), if_pos h0]; rfl
 ·rw [MR (show ¬ ((findF l kind).length : Int) = 0 by omega), if_neg h0];obtain ⟨i1, i2⟩ := Zy h0;by_cases h1 : (findF l kind).length = 1
  ·rw [MQ (show ((findF l kind).length : Int) = 1 by omega), if_pos h1];simp only [cond_true, cond_false, i1, i2]
  ·rw [MR (show ¬ ((findF l kind).length : Int) = 1 by omega), if_neg h1]; rfl
def Sj (n : Nat) : Nat := (4 - n % 4) % 4
def T_ (s : List Int) : List Int := s ++ aeM (Sj s.length) 0
theorem Vw : ∀ n, EM [0] n = aeM n (0 : Int)
 | 0 => rfl
 | n + 1 => by rw [EM, Vw n]; rfl
theorem ab4 (n : Int) : I8 .i64 n 3 = n % 4 := by
 show aeH.wrap ((afu 64 n &&& afu 64 3).toNat : Int) = _;rw [BitVec.toNat_and, BitVec.toNat_ofInt, show (afu 64 3).toNat = 2 ^ 2 - 1 from rfl, Nat.and_two_pow_sub_one_eq_mod];rw [wrap64 (by omega) (by omega)]; omega
theorem Ve {s : List Int} (h : s.length < 4611686018427387904) : PG.run .lim (s, ()) = some (T_ s) := by
 have w : aeH.wrap (0 - (s.length : Int)) = -(s.length : Int) := by rw [wrap64 (by omega) (by omega)]; omega
 have e : I8 .i64 (-(s.length : Int)) 3 = (Sj s.length : Int) := by rw [ab4]; unfold Sj; omega
 have hp : Sj s.length < 4 := by unfold Sj; omega
 simp only [PG.run, MX (show s.length < 9223372036854775808 by omega), cond_true, w, e];have hr : strings_Repeat.run .lim ([0], (Sj s.length : Int), ()) = some (aeM (Sj s.length) 0) := by
  show KY ([0], (Sj s.length : Int), ()) = _;unfold KY;simp only [ae7];rw [MQ (show (0 : Int) <= (Sj s.length : Int) by omega), Nat.ble_eq_true_of_le (show [(0 : Int)].length * Sj s.length <= 140737488355328 by simp; omega), Vw]; rfl
 simp only [hr, aeE];rw [cond_pos (MQ (show s.length + (aeM (Sj s.length) (0 : Int)).length <= maxStr by rw [aeX]; unfold maxStr; omega))];rfl
def Ui (b : List Int) : Nat := (rd 0 b 2 * 256 + rd 0 b 3).toNat
def VA (b : List Int) : Prop := ¬ (rd 0 b 0 * 256 + rd 0 b 1 = 16) \/ b.length < 20 + Ui b \/ b.drop 20 ≠ T_ ((b.take (20 + Ui b)).drop 20)
open Classical in
noncomputable def TJ (b : List Int) : List Int × List Int × Int :=
 if b.length < 4 then ([], [], 11) else if VA b then ([], [], 10) else ((b.take 20).drop 4, (b.take (20 + Ui b)).drop 20, 0)
end Go.AM
end
section
namespace Go.AM
theorem aaG {b : List Int} (hb : Bs b) {k : Nat} (h : k < b.length) : B8 (rd 0 b (k : Int)) := hb _ (Oc (by omega) (by omega))
theorem X0 {α : Type} {d : α} {xs : List α} {n k : Nat} : rd d (xs.drop n) (k : Int) = rd d xs ((n + k : Nat) : Int) := by unfold rd; rw [ae7, ae7, afd, afd, List.getElem?_drop]
theorem Qv {α : Type} {s : List α} {b : Nat} {j : Int} (hj : j = (b : Int)) : cut s 0 j = s.take b := by subst hj; rfl
theorem ZR {b : List Int} (hb : Bs b) (hl : b.length < 1000000) : Qn.run .lim (b, ()) = some ((TJ b).1, (TJ b).2.1, (TJ b).2.2, ()) := by
 simp only [Qn.run, MX (show b.length < 9223372036854775808 by omega), cond_true];have hc0 : cut b 2 (b.length : Int) = b.drop 2 := QC (a := 2) rfl;have hc1 : cut b 0 2 = b.take 2 := Qv (b := 2) rfl;simp only [hc0, hc1];unfold TJ;by_cases h2 : b.length < 2
 ·rw [MQ (show (b.length : Int) < 2 by omega), if_pos (by omega)]; rfl
 rw [MR (show ¬ (b.length : Int) < 2 by omega)];have l2 : (b.drop 2).length = b.length - 2 := aeL;have lt2 : (b.take 2).length = 2 := by rw [aeK]; omega
 simp only [cond_false, Nc (show (0 : Int) <= 0 by omega) (show (0 : Int) <= 2 by omega) (show (2 : Int) <= (b.length : Int) by omega), Nc (show (0 : Int) <= 2 by omega) (show (2 : Int) <= (b.length : Int) by omega) (ae6 _), cond_true, lt2,
  MW (show (0 : Int) <= 0 by omega) (show (0 : Int) < ((2 : Nat) : Int) by omega), MW (show (0 : Int) <= 1 by omega) (show (1 : Int) < ((2 : Nat) : Int) by omega), MX (show (b.drop 2).length < 9223372036854775808 by omega)]
 by_cases h4 : b.length < 4
 ·rw [MQ (show ((b.drop 2).length : Int) < 2 by omega), if_pos h4]; rfl
 rw [MR (show ¬ ((b.drop 2).length : Int) < 2 by omega), if_neg h4];have hc2 : cut (b.drop 2) 0 2 = (b.drop 2).take 2 := Qv (b := 2) rfl;have hc3 : cut (b.drop 2) 2 ((b.drop 2).length : Int) = b.drop 4 := (show cut (b.drop 2) 2 ((b.drop 2).length : Int) = (b.drop 2).drop 2 from QC (a := 2) rfl).trans (by rw [afo]);have lt3 : ((b.drop 2).take 2).length = 2 := by rw [aeK]; omega
 have l4 : (b.drop 4).length = b.length - 4 := aeL;have r0 : rd 0 (b.take 2) 0 = rd 0 b 0 := Qe (k := 0) (n := 2) (by decide);have r1 : rd 0 (b.take 2) 1 = rd 0 b 1 := Qe (k := 1) (n := 2) (by decide);have r2 : rd 0 ((b.drop 2).take 2) 0 = rd 0 b 2 := (Qe (k := 0) (n := 2) (by decide)).trans (X0 (n := 2) (k := 0));have r3 : rd 0 ((b.drop 2).take 2) 1 = rd 0 b 3 := (Qe (k := 1) (n := 2) (by decide)).trans (X0 (n := 2) (k := 1));have b0 : B8 (rd 0 b 0) := aaG hb (k := 0) (by omega);have b1 : B8 (rd 0 b 1) := aaG hb (k := 1) (by omega);have b2 : B8 (rd 0 b 2) := aaG hb (k := 2) (by omega);have b3 : B8 (rd 0 b 3) := aaG hb (k := 3) (by omega);have hm : rd 0 b 2 * 256 + rd 0 b 3 = (Ui b : Int) := by unfold Ui; omega
 have hm2 : Ui b < 65536 := by unfold Ui; omega
 simp only [cond_false, hc2, hc3, lt3, r0, r1, r2, r3, abE b0 b1, abE b2 b3, hm, Nc (show (0 : Int) <= 0 by omega) (show (0 : Int) <= 2 by omega) (show (2 : Int) <= ((b.drop 2).length : Int) by omega), Nc (show (0 : Int) <= 2 by omega) (show (2 : Int) <= ((b.drop 2).length : Int) by omega) (ae6 _), cond_true,
  MW (show (0 : Int) <= 0 by omega) (show (0 : Int) < ((2 : Nat) : Int) by omega), MW (show (0 : Int) <= 1 by omega) (show (1 : Int) < ((2 : Nat) : Int) by omega)]
 by_cases hn : rd 0 b 0 * 256 + rd 0 b 1 = 16
 ·simp only [hn, decide_true, aeJ, cond_false, MX (show (b.drop 4).length < 9223372036854775808 by omega), cond_true];by_cases h20 : b.length < 20
  ·rw [MQ (show ((b.drop 4).length : Int) < 16 by omega), if_pos (show VA b from .inr (.inl (by omega)))]; rfl
  rw [MR (show ¬ ((b.drop 4).length : Int) < 16 by omega)];have hc4 : cut (b.drop 4) 0 16 = (b.take 20).drop 4 := (show cut (b.drop 4) 0 16 = (b.drop 4).take 16 from Qv (b := 16) rfl).trans (by rw [afp]);have hc5 : cut (b.drop 4) 16 ((b.drop 4).length : Int) = b.drop 20 := (show cut (b.drop 4) 16 ((b.drop 4).length : Int) = (b.drop 4).drop 16 from QC (a := 16) rfl).trans (by rw [afo]);have l20 : (b.drop 20).length = b.length - 20 := aeL;simp only [cond_false, hc4, hc5, Nc (show (0 : Int) <= 0 by omega) (show (0 : Int) <= 16 by omega) (show (16 : Int) <= ((b.drop 4).length : Int) by omega), Nc (show (0 : Int) <= 16 by omega) (show (16 : Int) <= ((b.drop 4).length : Int) by omega) (ae6 _), cond_true, MX (show (b.drop 20).length < 9223372036854775808 by omega)];by_cases hmm : b.length < 20 + Ui b
  ·rw [MQ (show ((b.drop 20).length : Int) < (Ui b : Int) by omega), if_pos (show VA b from .inr (.inl hmm))]; rfl
  rw [MR (show ¬ ((b.drop 20).length : Int) < (Ui b : Int) by omega)];have hc6 : cut (b.drop 20) 0 (Ui b : Int) = (b.drop 20).take (Ui b) := Qv rfl;have hc7 : cut (b.drop 20) (Ui b : Int) ((b.drop 20).length : Int) = (b.drop 20).drop (Ui b) := QC rfl;have ls : ((b.drop 20).take (Ui b)).length = Ui b := by rw [aeK]; omega
  have hst : (b.take (20 + Ui b)).drop 20 = (b.drop 20).take (Ui b) := by rw [afp]; congr 1; omega
  have acY : ((b.drop 20).take (Ui b)).length + ((b.drop 20).drop (Ui b)).length <= maxStr := by rw [ls, aeL]; unfold maxStr; omega
  simp only [cond_false, hc6, hc7, Nc (show (0 : Int) <= 0 by omega) (show (0 : Int) <= (Ui b : Int) by omega) (show (Ui b : Int) <= ((b.drop 20).length : Int) by omega), Nc (show (0 : Int) <= (Ui b : Int) by omega) (show (Ui b : Int) <= ((b.drop 20).length : Int) by omega) (ae6 _), cond_true];rw [cond_pos (MQ acY), Ve (show ((b.drop 20).take (Ui b)).length < 4611686018427387904 by omega)];simp only [aeE, aeY];by_cases hf : b.drop 20 = T_ ((b.drop 20).take (Ui b))
  ·rw [MQ hf, if_neg (show ¬ VA b from fun q => by
    rcases q with q | q | q
    ·exact q hn
    ·exact hmm q
    ·exact q (by rw [hst]; exact hf)), hst]; rfl
  ·rw [MR hf, if_pos (show VA b from .inr (.inr (by rw [hst]; exact hf)))]; rfl
 ·rw [MR hn, if_pos (show VA b from .inl hn)]; rfl
theorem acK {b : List Int} (hb : Bs b) : Bs (TJ b).1 /\ Bs (TJ b).2.1 /\ (TJ b).1.length <= b.length /\ (TJ b).2.1.length <= b.length := by
 unfold TJ;split
 ·exact ⟨fun x h => (by cases h), fun x h => (by cases h), by simp, by simp⟩
 ·split
  ·exact ⟨fun x h => (by cases h), fun x h => (by cases h), by simp, by simp⟩
  ·exact ⟨(hb.take _).drop _, (hb.take _).drop _, by rw [aeL, aeK]; omega, by rw [aeL, aeK]; omega⟩
abbrev NT := PK × List FF × List FF
abbrev n0 : NT := (p0, ([], []))
end Go.AM
end
section
namespace Go.AM
noncomputable def Xw (v : VV) (s key : List Int) : NT × Int :=
 if Ur s = 0 then
  match SE (Ou s).fs 1028 with
  | none => (n0, 19)
  | some k =>
   if (TJ (rd f0 (Ou s).fs (k : Int)).2).2.2 = 0 then
    if (OI v key [s.take (48 + (Nk ((Ou s).fs.take k)).length), (TJ (rd f0 (Ou s).fs (k : Int)).2).1] (TJ (rd f0 (Ou s).fs (k : Int)).2).2.1).2 = 0 then
     if (Sr (OI v key [s.take (48 + (Nk ((Ou s).fs.take k)).length), (TJ (rd f0 (Ou s).fs (k : Int)).2).1] (TJ (rd f0 (Ou s).fs (k : Int)).2).2.1).1.length (OI v key [s.take (48 + (Nk ((Ou s).fs.take k)).length), (TJ (rd f0 (Ou s).fs (k : Int)).2).1] (TJ (rd f0 (Ou s).fs (k : Int)).2).2.1).1 []).2 = 0 then
      ((PK.cut (Ou s) [], ((Ou s).fs.take k, (Sr (OI v key [s.take (48 + (Nk ((Ou s).fs.take k)).length), (TJ (rd f0 (Ou s).fs (k : Int)).2).1] (TJ (rd f0 (Ou s).fs (k : Int)).2).2.1).1.length (OI v key [s.take (48 + (Nk ((Ou s).fs.take k)).length), (TJ (rd f0 (Ou s).fs (k : Int)).2).1] (TJ (rd f0 (Ou s).fs (k : Int)).2).2.1).1 []).1)), 0)
     else (n0, (Sr (OI v key [s.take (48 + (Nk ((Ou s).fs.take k)).length), (TJ (rd f0 (Ou s).fs (k : Int)).2).1] (TJ (rd f0 (Ou s).fs (k : Int)).2).2.1).1.length (OI v key [s.take (48 + (Nk ((Ou s).fs.take k)).length), (TJ (rd f0 (Ou s).fs (k : Int)).2).1] (TJ (rd f0 (Ou s).fs (k : Int)).2).2.1).1 []).2)
    else (n0, (OI v key [s.take (48 + (Nk ((Ou s).fs.take k)).length), (TJ (rd f0 (Ou s).fs (k : Int)).2).1] (TJ (rd f0 (Ou s).fs (k : Int)).2).2.1).2)
   else (n0, (TJ (rd f0 (Ou s).fs (k : Int)).2).2.2)
 else (n0, Ur s)
theorem abA {v : VV} {key : List Int} {r : PK} (h : r.fs.length <= 16) :
  O6.l0 .lim (r.2.2.2.2.2.2.2.2.2.2.2.2.2, (r.2.2.2.2.2.2.2.2.2.2.2.2.2.length : Int), 0, key, v.1, v.2, 0, 0, 0, 0, 0, 0, 0, 0, 0, 0, 0, 0, 0, r.1, r.2.1, r.2.2.1, r.2.2.2.1, r.2.2.2.2.1, r.2.2.2.2.2.1, r.2.2.2.2.2.2.1, r.2.2.2.2.2.2.2.1, r.2.2.2.2.2.2.2.2.1, r.2.2.2.2.2.2.2.2.2.1, r.2.2.2.2.2.2.2.2.2.2.1, r.2.2.2.2.2.2.2.2.2.2.2.1, r.2.2.2.2.2.2.2.2.2.2.2.2.1, r.2.2.2.2.2.2.2.2.2.2.2.2.2, ()) = match SE r.fs 1028 with
   | some k => some (.inl ((k : Int), key, v.1, v.2, 0, 0, 0, 0, 0, 0, 0, 0, 0, 0, 0, 0, 0, r.1, r.2.1, r.2.2.1, r.2.2.2.1, r.2.2.2.2.1, r.2.2.2.2.2.1, r.2.2.2.2.2.2.1, r.2.2.2.2.2.2.2.1, r.2.2.2.2.2.2.2.2.1, r.2.2.2.2.2.2.2.2.2.1, r.2.2.2.2.2.2.2.2.2.2.1, r.2.2.2.2.2.2.2.2.2.2.2.1, r.2.2.2.2.2.2.2.2.2.2.2.2.1, r.2.2.2.2.2.2.2.2.2.2.2.2.2, ()))
   | none => some (.inr (key, v.1, v.2, 0, 0, 0, 0, 0, 0, 0, 0, 0, 0, 0, 0, 0, r.1, r.2.1, r.2.2.1, r.2.2.2.1, r.2.2.2.2.1, r.2.2.2.2.2.1, r.2.2.2.2.2.2.1, r.2.2.2.2.2.2.2.1, r.2.2.2.2.2.2.2.2.1, r.2.2.2.2.2.2.2.2.2.1, r.2.2.2.2.2.2.2.2.2.2.1, r.2.2.2.2.2.2.2.2.2.2.2.1, r.2.2.2.2.2.2.2.2.2.2.2.2.1, r.2.2.2.2.2.2.2.2.2.2.2.2.2, ())) := by
 have h : r.2.2.2.2.2.2.2.2.2.2.2.2.2.length <= 16 := h;have e := PE (f := O6.l0 .lim) (fun j => (r.2.2.2.2.2.2.2.2.2.2.2.2.2, (r.2.2.2.2.2.2.2.2.2.2.2.2.2.length : Int), (j : Int), key, v.1, v.2, 0, 0, 0, 0, 0, 0, 0, 0, 0, 0, 0, 0, 0, r.1, r.2.1, r.2.2.1, r.2.2.2.1, r.2.2.2.2.1, r.2.2.2.2.2.1, r.2.2.2.2.2.2.1, r.2.2.2.2.2.2.2.1, r.2.2.2.2.2.2.2.2.1, r.2.2.2.2.2.2.2.2.2.1, r.2.2.2.2.2.2.2.2.2.2.1, r.2.2.2.2.2.2.2.2.2.2.2.1, r.2.2.2.2.2.2.2.2.2.2.2.2.1, r.2.2.2.2.2.2.2.2.2.2.2.2.2, ())) r.2.2.2.2.2.2.2.2.2.2.2.2.2.length (fun j : Nat => decide ((rd f0 r.2.2.2.2.2.2.2.2.2.2.2.2.2 (j : Int)).1 = 1028)) (fun j => some (.inl ((j : Int), key, v.1, v.2, 0, 0, 0, 0, 0, 0, 0, 0, 0, 0, 0, 0, 0, r.1, r.2.1, r.2.2.1, r.2.2.2.1, r.2.2.2.2.1, r.2.2.2.2.2.1, r.2.2.2.2.2.2.1, r.2.2.2.2.2.2.2.1, r.2.2.2.2.2.2.2.2.1, r.2.2.2.2.2.2.2.2.2.1, r.2.2.2.2.2.2.2.2.2.2.1, r.2.2.2.2.2.2.2.2.2.2.2.1, r.2.2.2.2.2.2.2.2.2.2.2.2.1, r.2.2.2.2.2.2.2.2.2.2.2.2.2, ()))) (fun k hk => by
  rw [O6.q0];have hr : Q5.run .lim (rd ((0 : Int), ([] : List Int)) r.2.2.2.2.2.2.2.2.2.2.2.2.2 (k : Int), ()) = some (decide ((rd f0 r.2.2.2.2.2.2.2.2.2.2.2.2.2 (k : Int)).1 = 1028)) := rfl;simp only [O6.b0, MQ (show (k : Int) < (r.2.2.2.2.2.2.2.2.2.2.2.2.2.length : Int) by omega), MW (show (0 : Int) <= (k : Int) by omega) (show (k : Int) < (r.2.2.2.2.2.2.2.2.2.2.2.2.2.length : Int) by omega), cond_true, hr, aeE, Qp k (by omega)])
 have e0 : O6.l0 .lim (r.2.2.2.2.2.2.2.2.2.2.2.2.2, (r.2.2.2.2.2.2.2.2.2.2.2.2.2.length : Int), 0, key, v.1, v.2, 0, 0, 0, 0, 0, 0, 0, 0, 0, 0, 0, 0, 0, r.1, r.2.1, r.2.2.1, r.2.2.2.1, r.2.2.2.2.1, r.2.2.2.2.2.1, r.2.2.2.2.2.2.1, r.2.2.2.2.2.2.2.1, r.2.2.2.2.2.2.2.2.1, r.2.2.2.2.2.2.2.2.2.1, r.2.2.2.2.2.2.2.2.2.2.1, r.2.2.2.2.2.2.2.2.2.2.2.1, r.2.2.2.2.2.2.2.2.2.2.2.2.1, r.2.2.2.2.2.2.2.2.2.2.2.2.2, ()) = _ := e;rw [e0];unfold SE;cases hq : (aeR r.fs.length).find? (fun k : Nat => decide ((rd f0 r.fs (k : Int)).1 = 1028)) with
 | some k =>
  have hq : (aeR r.2.2.2.2.2.2.2.2.2.2.2.2.2.length).find? (fun k : Nat => decide ((rd f0 r.2.2.2.2.2.2.2.2.2.2.2.2.2 (k : Int)).1 = 1028)) = some k := hq;simp only [hq]
 | none =>
  have hq : (aeR r.2.2.2.2.2.2.2.2.2.2.2.2.2.length).find? (fun k : Nat => decide ((rd f0 r.2.2.2.2.2.2.2.2.2.2.2.2.2 (k : Int)).1 = 1028)) = none := hq;simp only [hq];rw [O6.q0];simp only [O6.b0, MR (show ¬ (r.2.2.2.2.2.2.2.2.2.2.2.2.2.length : Int) < (r.2.2.2.2.2.2.2.2.2.2.2.2.2.length : Int) by omega), cond_false]
theorem acG : Bs [] := fun x h => by cases h
end Go.AM
end
section
namespace Go.AM
theorem Xi {f : FF} (h : Yj f) (x : List Int) : N9 (PV f ++ x) = 4 + f.2.length /\ ¬ SC (PV f ++ x) /\ YN (PV f ++ x) = f /\ (PV f ++ x).drop (N9 (PV f ++ x)) = x := by
 have h1 := h.k0; have h2 := h.k1; have h3 := h.l0; have h4 := h.l4; have h5 := h.l1;have hl := PW f;have e4 : (PV f ++ x).take 4 = twoS f.1 ++ twoS ((f.2.length : Int) + 4) := by
  unfold PV;rw [aeQ, ae9 (by simp [twoS]), aeV (by simp [twoS])]
 have eL : N9 (PV f ++ x) = 4 + f.2.length := by
  unfold N9;rw [e4, ae8 (by simp [twoS]), ae5 (by simp [twoS]), afl, val_two (by omega) (by omega)];omega
 have e2 : (PV f ++ x).take 2 = twoS f.1 := by
  have : (PV f ++ x).take 2 = ((PV f ++ x).take 4).take 2 := by rw [afH]; rfl
  rw [this, e4, ae9 (by simp [twoS]), aeV (by simp [twoS])]
 have eT : (PV f ++ x).take (4 + f.2.length) = PV f := by rw [<- hl, afG]
 refine ⟨eL, ?_, ?_, ?_⟩
 ·unfold SC;rw [eL, aeG, hl];omega
 ·unfold YN;rw [eL, e2, eT, val_two h1 h2];unfold PV;rw [ae8 (by simp [twoS]), ae5 (by simp [twoS]), afl]
 ·rw [eL, <- hl, afD]
theorem aaQ : ∀ (l : List FF) (n : Nat) (acc : List FF), (∀ f ∈ l, Yj f) -> (Nk l).length <= n -> acc.length + l.length <= 16 -> Sr n (Nk l) acc = (acc ++ l, 0) := by
 intro l
 induction l with
 | nil =>
  intro n acc _ _ _;have e : Nk [] = [] := rfl;rw [e];cases n with
  | zero => simp [Sr]
  | succ n => simp [Sr]
 | cons f l ih =>
  intro n acc hf hn hl;have hfo := hf f (.head _);have he : Nk (f :: l) = PV f ++ Nk l := by simp [Nk]
  rw [he] at hn ⊢
  obtain ⟨p1, p2, p3, p4⟩ := Xi hfo (Nk l);have hlen := PW f;cases n with
  | zero => rw [aeG] at hn; omega
  | succ n =>
   have hne : ¬ (PV f ++ Nk l = []) := fun q => by
    have := congrArg afi q;rw [aeG, hlen] at this;simp at this
   rw [aeT] at hl;rw [Sr, if_neg hne, if_neg p2, if_neg (by omega), p3, p4];have := ih n (acc ++ [f]) (fun g hg => hf g (.tail _ hg)) (by rw [aeG] at hn; omega) (by simp; omega);rw [this, aeQ]; rfl
theorem V5 {n : Int} (h0 : 0 <= n) (h1 : n < 4294967296) : N7 (WX (aeI.wrap n)) = n := by
 rw [show aeI.wrap n = n by rw [Qj]; omega];have s1 := Oj n 0 24 .u64 (by decide);have s2 := Oj n 0 16 .u64 (by decide);have s3 := Oj n 0 8 .u64 (by decide);have s4 := Oj n 0 0 .u64 (by decide);unfold WX QK N7;simp only [s1, s2, s3, s4, Pg, afz, afE];omega
theorem Ut {n : Int} (h0 : 0 <= n) (h1 : n < 18446744073709551616) : N7 (by8 n) = n := by
 have s1 := Oj n 0 56 .u64 (by decide);have s2 := Oj n 0 48 .u64 (by decide);have s3 := Oj n 0 40 .u64 (by decide);have s4 := Oj n 0 32 .u64 (by decide);have s5 := Oj n 0 24 .u64 (by decide);have s6 := Oj n 0 16 .u64 (by decide);have s7 := Oj n 0 8 .u64 (by decide);have s8 := Oj n 0 0 .u64 (by decide);unfold by8 QK N7;simp only [s1, s2, s3, s4, s5, s6, s7, s8, Pg, afz, afE];omega
structure POk (p : PK) : Prop where
 hd : UD p = true
 a : 0 <= p.2.2.2.2.2.2.1 /\ p.2.2.2.2.2.2.1 < 4294967296
 b : 0 <= p.2.2.2.2.2.2.2.1 /\ p.2.2.2.2.2.2.2.1 < 4294967296
 c : 0 <= p.2.2.2.2.2.2.2.2.1 /\ p.2.2.2.2.2.2.2.2.1 < 4294967296
 d : 0 <= p.2.2.2.2.2.2.2.2.2.1 /\ p.2.2.2.2.2.2.2.2.2.1 < 18446744073709551616
 e : 0 <= p.2.2.2.2.2.2.2.2.2.2.1 /\ p.2.2.2.2.2.2.2.2.2.2.1 < 18446744073709551616
 f : 0 <= p.2.2.2.2.2.2.2.2.2.2.2.1 /\ p.2.2.2.2.2.2.2.2.2.2.2.1 < 18446744073709551616
 g : 0 <= p.2.2.2.2.2.2.2.2.2.2.2.2.1 /\ p.2.2.2.2.2.2.2.2.2.2.2.2.1 < 18446744073709551616
theorem aat : ∀ a : Nat, a < 4 -> ∀ b : Nat, b < 8 -> ∀ c : Nat, c < 8 -> YM a b c / 64 = a /\ YM a b c / 8 % 8 = b /\ YM a b c % 8 = c := by decide +kernel
theorem Yb : ∀ n : Nat, n < 256 -> sg (aeF.wrap ((n : Int) - 128)) = (n : Int) - 128 := by decide +kernel
theorem ZF {p : PK} (h : POk p) (x : List Int) (fs : List FF) : rdP (UE p ++ x) fs = PK.cut p fs := by
 obtain ⟨a, b, c, d, e, g, r1, r2, r3, q1, q2, q3, q4, l⟩ := p;obtain ⟨h0, h1, h2, h3, h4, h5, h6, h7⟩ := h;unfold UD V6 at h0;simp only [aeO, decide_eq_true_eq] at h0 h1 h2 h3 h4 h5 h6 h7;obtain ⟨⟨⟨⟨⟨ha, hb⟩, hc⟩, hd⟩, he⟩, hg⟩ := h0;have hB := aat a.toNat (by omega) b.toNat (by omega) c.toNat (by omega);rw [aeS ha.1, aeS hb.1, aeS hc.1] at hB;have he' := Yb (e + 128).toNat (by omega);rw [aeS (by omega), show e + 128 - 128 = e by omega] at he';have hg' := Yb (g + 128).toNat (by omega);rw [aeS (by omega), show g + 128 - 128 = g by omega] at hg';have hd' : aeF.wrap d = d := by rw [Pg]; omega
 have v1 := V5 h1.1 h1.2; have v2 := V5 h2.1 h2.2; have v3 := V5 h3.1 h3.2;have v4 := Ut h4.1 h4.2; have v5 := Ut h5.1 h5.2; have v6 := Ut h6.1 h6.2; have v7 := Ut h7.1 h7.2;show (YM a b c / 64, YM a b c / 8 % 8, YM a b c % 8, aeF.wrap d, sg (aeF.wrap e), sg (aeF.wrap g), N7 (WX (aeI.wrap r1)), N7 (WX (aeI.wrap r2)), N7 (WX (aeI.wrap r3)), N7 (by8 q1), N7 (by8 q2), N7 (by8 q3), N7 (by8 q4), fs) = (a, b, c, d, e, g, r1, r2, r3, q1, q2, q3, q4, fs);rw [hB.1, hB.2.1, hB.2.2, hd', he', hg', v1, v2, v3, v4, v5, v6, v7]
theorem Vu {p : PK} (h : POk p) (hf : ∀ f ∈ p.fs, Yj f) (h16 : p.fs.length <= 16) (hl : (Nk p.fs).length <= 1232) : Ur (UE p ++ Nk p.fs) = 0 /\ Ou (UE p ++ Nk p.fs) = p := by
 have hd : (UE p ++ Nk p.fs).drop 48 = Nk p.fs := afD (l₁ := UE p);have hlen : (UE p ++ Nk p.fs).length = 48 + (Nk p.fs).length := by rw [aeG, S9]
 have ht := aaQ p.fs (Nk p.fs).length [] hf (afb _) (by simpa using h16);have he : Ur (UE p ++ Nk p.fs) = 0 := by
  unfold Ur;rw [if_neg (by omega), if_neg (by omega), hd, ht]
 refine ⟨he, ?_⟩;unfold Ou;rw [if_pos he, hd, ht, ZF h];rfl
theorem aa1 (p : PK) : Bs (UE p) := fun x hx => by
 unfold UE WX by8 QK YM at hx;simp only [ae2, ae3, aeU, or_false] at hx;rcases hx with (h | h | h | h) | (h | h | h | h) | (h | h | h | h) | (h | h | h | h) | (h | h | h | h | h | h | h | h) | (h | h | h | h | h | h | h | h) | (h | h | h | h | h | h | h | h) | h | h | h | h | h | h | h | h <;> (rw [h]; exact RP _)
theorem XM {l : List FF} (h : ∀ f ∈ l, Bs f.2) : Bs (Nk l) := fun x hx => by
 unfold Nk at hx;obtain ⟨t, ht, hx⟩ := List.mem_flatten.1 hx;obtain ⟨f, hf, rfl⟩ := afv.1 ht;unfold PV at hx;rcases ae2.1 hx with hx | hx
 ·rcases ae2.1 hx with hx | hx
  ·exact ZX _ x hx
  ·exact ZX _ x hx
 ·exact h f hf x hx
end Go.AM
end
section
namespace Go.AM
def XI (Nq sealed : List Int) : List Int := ((twoS 16 ++ twoS (sealed.length : Int)) ++ Nq) ++ T_ sealed
theorem Yk {Nq sealed : List Int} (hn : Nq.length = 16) : (XI Nq sealed).length = 20 + sealed.length + Sj sealed.length := by
 unfold XI T_;simp only [aeG, OL, aeX];omega
noncomputable def QJ (v : VV) (key Nq ahead : List Int) (inner : List FF) : VV × FF × Int :=
 if Nq.length = 16 then
  if ahead.length > 1280 then (v, f0, 12) else
  if P8 inner = 0 then
   if (Om v key [ahead, Nq] (Qc inner)).2.2 = 0 then ((Om v key [ahead, Nq] (Qc inner)).1, (1028, XI Nq (Om v key [ahead, Nq] (Qc inner)).2.1), 0)
   else (v, f0, (Om v key [ahead, Nq] (Qc inner)).2.2)
  else (v, f0, P8 inner)
 else (v, f0, 10)
theorem Vz {v : VV} {key : List Int} {ad : List (List Int)} {s : List Int} (hf : Po v = true) (hs : s.length <= 65536) : (Om v key ad s).2.1.length <= s.length + 16 := by
 by_cases he : (Om v key ad s).2.2 = 0
 ·rw [(WQ hf he).2.2.1]; exact afb _
 ·rw [(Ya he).2]; simp
theorem aaq {v : VV} (hv : okV v) (hf : Po v = true) {key Nq ahead : List Int} {inner : List FF} (hk : key.length < NM) (hkb : Bs key) (hn : Nq.length < NM) (ha : ahead.length < NM) (hi : FL inner) :
  RF.run .lim (v, key, Nq, ahead, inner, ()) = some ((QJ v key Nq ahead inner).1, (QJ v key Nq ahead inner).2.1, (QJ v key Nq ahead inner).2.2, ()) := by
 have hn' : Nq.length < 9223372036854775808 := hn;have ha' : ahead.length < 9223372036854775808 := ha;simp only [RF.run, MX hn', MX ha', cond_true];unfold QJ;by_cases h1 : Nq.length = 16
 case neg => rw [MR (show ¬ (Nq.length : Int) = 16 by omega), if_neg h1]; rfl
 rw [MQ (show (Nq.length : Int) = 16 by omega), if_pos h1];by_cases h2 : ahead.length > 1280
 ·rw [MQ (show (ahead.length : Int) > 1280 by omega), if_pos h2]; rfl
 rw [MR (show ¬ (ahead.length : Int) > 1280 by omega), if_neg h2];simp only [aeJ, cond_false, Vd hi, aeE];by_cases h3 : P8 inner = 0
 case neg => rw [MR h3, if_neg h3]; rfl
 rw [MQ h3, if_pos h3];have hfl := RD (l := inner);have T : V9 key [ahead, Nq] (Qc inner) := ⟨hk, hkb, by simp [NM], fun t ht => by
  simp only [ae3, aeU, or_false] at ht;rcases ht with rfl | rfl
  ·exact ha
  ·exact hn, Ot (by omega)⟩
 simp only [aeJ, cond_false, X_ hv hf T, aeE];have hsl := Vz (key := key) (ad := [ahead, Nq]) hf (show (Qc inner).length <= 65536 by omega);generalize Om v key [ahead, Nq] (Qc inner) = w at hsl;obtain ⟨w1, w2, w3⟩ := w;simp only at hsl ⊢
 by_cases h4 : w3 = 0
 case neg => rw [MR h4, if_neg h4]; rfl
 rw [MQ h4, if_pos h4];have hp : Sj w2.length < 4 := by unfold Sj; omega
 have hfs : (T_ w2).length <= w2.length + 4 := by unfold T_; rw [aeG, aeX]; omega
 have t1 : ∀ n, Td.run .lim (n, ()) = some (twoS n) := fun n => rfl
 simp only [aeJ, cond_false, t1, aeE, MX (show w2.length < 9223372036854775808 by omega), cond_true];rw [cond_pos (MQ (show (twoS 16).length + (twoS (w2.length : Int)).length <= maxStr by rw [OL, OL]; decide)), cond_pos (MQ (show (twoS 16 ++ twoS (w2.length : Int)).length + Nq.length <= maxStr by rw [aeG, OL, OL, h1]; decide)),
  Ve (show w2.length < 4611686018427387904 by omega)]
 simp only [aeE];rw [cond_pos (MQ (show ((twoS 16 ++ twoS (w2.length : Int)) ++ Nq).length + (T_ w2).length <= maxStr by rw [aeG, aeG, OL, OL, h1]; unfold maxStr; omega))];rfl
noncomputable def Vm (v : VV) (p : PK) (key Nq : List Int) (inner : List FF) : VV × List Int × Int :=
 if (findF p.fs 1028).length > 0 then (v, [], 23) else
 if U9 p = 0 then
  if (QJ v key Nq (U_ p) inner).2.2 = 0 then
   if U9 (PK.cut p (p.fs ++ [(QJ v key Nq (U_ p) inner).2.1])) = 0 then ((QJ v key Nq (U_ p) inner).1, U_ (PK.cut p (p.fs ++ [(QJ v key Nq (U_ p) inner).2.1])), 0)
   else (v, [], U9 (PK.cut p (p.fs ++ [(QJ v key Nq (U_ p) inner).2.1])))
  else (v, [], (QJ v key Nq (U_ p) inner).2.2)
 else (v, [], U9 p)
theorem aaW (p : PK) : (U_ p).length <= 1280 := by
 unfold U_;split
 ·rename_i h;rw [aeG, S9];have hf : P8 p.fs = 0 := by
   unfold U9 at h;split at h
   ·exact h
   ·exact absurd h (by decide)
  have := RD (l := p.fs);unfold Qc at this;rw [if_pos hf] at this;omega
 ·simp
theorem Yl {v : VV} (hf : Po v = true) {key Nq ahead : List Int} {inner : List FF} : (QJ v key Nq ahead inner).2.1.2.length <= 100000 := by
 unfold QJ;split
 ·rename_i hn;split
  ·simp
  ·split
   ·split
    ·rename_i h;have hfl := RD (l := inner);have hsl := Vz (v := v) (key := key) (ad := [ahead, Nq]) (s := Qc inner) hf (by omega);show (XI Nq _).length <= _;rw [Yk hn];have : Sj (Om v key [ahead, Nq] (Qc inner)).2.1.length < 4 := by unfold Sj; omega
     omega
    ·simp
   ·simp
 ·simp
theorem Zv {v : VV} (hv : okV v) (hf : Po v = true) {p : PK} {key Nq : List Int} {inner : List FF} (hp : FL p.fs) (hpl : p.fs.length <= 1000000000) (hk : key.length < NM) (hkb : Bs key) (hn : Nq.length < NM) (hi : FL inner) :
  P_.run .lim (v, p, key, Nq, inner, ()) = some ((Vm v p key Nq inner).1, (Vm v p key Nq inner).2.1, (Vm v p key Nq inner).2.2, ()) := by
 have hff := Qm p.fs 1028;have hfe := TF (l := p.fs) 1028 (by omega) (by omega);have hfe : Oa.run .lim (p.2.2.2.2.2.2.2.2.2.2.2.2.2, 1028, ()) = _ := hfe;simp only [P_.run, hfe, aeE, MX (show (findF p.fs 1028).length < 9223372036854775808 by omega), cond_true];unfold Vm;by_cases h1 : (findF p.fs 1028).length > 0
 ·rw [MQ (show ((findF p.fs 1028).length : Int) > 0 by omega), if_pos h1]; rfl
 rw [MR (show ¬ ((findF p.fs 1028).length : Int) > 0 by omega), if_neg h1];simp only [cond_false, TG hp, aeE];by_cases h2 : U9 p = 0
 case neg => rw [MR h2, if_neg h2]; rfl
 rw [MQ h2, if_pos h2];have hwl := aaW p;simp only [aeJ, cond_false, aaq hv hf hk hkb hn (Ot (show (U_ p).length < 9223372036854775808 by omega)) hi, aeE];have hal := Yl (v := v) hf (key := key) (Nq := Nq) (ahead := U_ p) (inner := inner);generalize QJ v key Nq (U_ p) inner = a at hal;obtain ⟨a1, a2, a3⟩ := a;simp only at hal ⊢
 by_cases h3 : a3 = 0
 case neg => rw [MR h3, if_neg h3]; rfl
 rw [MQ h3, if_pos h3];have hcl : Nz.run .lim (p.2.2.2.2.2.2.2.2.2.2.2.2.2, ()) = some p.fs := by
  simp only [Nz.run];rw [cond_pos (MQ (show ([] : List FF).length + p.fs.length < 2932031007402 by simp; omega))];rfl
 have hq : FL (PK.fs (PK.cut p (p.fs ++ [a2]))) := by
  refine ⟨?_, fun f hf => ?_⟩
  ·show (p.fs ++ [a2]).length < _;rw [aeG]; simp; omega
  ·rcases ae2.1 hf with hf | hf
   ·exact hp.2 f hf
   ·rw [aeN.1 hf]; omega
 have hw := TG hq;have hw : Nb.run .lim ((p.1, p.2.1, p.2.2.1, p.2.2.2.1, p.2.2.2.2.1, p.2.2.2.2.2.1, p.2.2.2.2.2.2.1, p.2.2.2.2.2.2.2.1, p.2.2.2.2.2.2.2.2.1, p.2.2.2.2.2.2.2.2.2.1, p.2.2.2.2.2.2.2.2.2.2.1, p.2.2.2.2.2.2.2.2.2.2.2.1, p.2.2.2.2.2.2.2.2.2.2.2.2.1, p.fs ++ [a2]), ()) = _ := hw;simp only [aeJ, cond_false, hcl, aeE];rw [cond_pos (MQ (show p.fs.length + [a2].length < 2932031007402 by simp; omega)), hw];simp only [aeE];by_cases h4 : U9 (PK.cut p (p.fs ++ [a2])) = 0
 ·rw [MQ h4, if_pos h4]; rfl
 ·rw [MR h4, if_neg h4]; rfl
end Go.AM
end
section
namespace Go.AM
def Ug (r : RR) (k : Nat) : Int := if k = 0 then (rd r0 r.1 0).2.2 else (rd r0 r.1 ((k - 1 : Nat) : Int)).2.2
theorem Zf {c : Nat -> Bool} {n : Nat} : (aeR n).any c = ((aeR n).find? c).isSome := by rw [afk, List.any_eq_true, List.find?_isSome]
theorem XE {r : RR} (hl : r.1.length < NM) (hk : ∀ k ∈ r.1, k.2.1.length < NM) : O9.run .lim (r, ()) = some (VN r) := by
 have hl63 : r.1.length < 9223372036854775808 := hl;simp only [O9.run, MX hl63, ae0, cond_true];unfold VN;by_cases h : 1 <= r.1.length /\ r.1.length <= 8
 ·have hn : (decide ((r.1.length : Int) < 1) || decide ((r.1.length : Int) > 8)) = false := by rw [MR (show ¬ (r.1.length : Int) < 1 by omega), MR (show ¬ (r.1.length : Int) > 8 by omega)]; rfl
  rw [cond_neg hn, MW (by decide) (by omega), cond_true, MQ h, afs];have e := PE (f := O9.l0 .lim) (fun j => ((r.2 - ((r.1.length - j : Nat) : Int)) % 4294967296, r.1, (r.1.length : Int), (j : Int), false, Ug r j, ())) r.1.length (badR r) (fun j => some (.inl (false, Ug r j, ()))) (fun k hk' => by
   have hkl := hk _ (Oc (d := r0) (xs := r.1) (i := (k : Int)) (by omega) (by omega));have Zh : (rd r0 r.1 (k : Int)).2.1.length < 9223372036854775808 := hkl;rw [O9.q0];simp only [O9.b0];rw [cond_pos (MQ (show (k : Int) < (r.1.length : Int) by omega)), MW (by omega) (show (k : Int) < (r.1.length : Int) by omega), cond_true, MX Zh, cond_true];have e1 : decide (((rd r0 r.1 (k : Int)).2.1.length : Int) = 32) = decide ((rd r0 r.1 (k : Int)).2.1.length = 32) := by
    by_cases q : (rd r0 r.1 (k : Int)).2.1.length = 32
    ·rw [MQ q, MQ (by omega)]
    ·rw [MR q, MR (by omega)]
   have e2 : decide ((rd r0 r.1 (k : Int)).2.2 < Ug r k) = (decide (0 < k) && decide ((rd r0 r.1 (k : Int)).2.2 < (rd r0 r.1 ((k - 1 : Nat) : Int)).2.2)) := by
    unfold Ug;by_cases q : k = 0
    ·subst q; rw [if_pos rfl, MR (show ¬ 0 < 0 by omega), afn]; exact MR (Int.lt_irrefl _)
    ·rw [if_neg q, MQ (show 0 < k by omega), afs]
   have e3 : ((!(decide (((rd r0 r.1 (k : Int)).2.1.length : Int) = 32))) || (!(decide ((rd r0 r.1 (k : Int)).1 = (r.2 - ((r.1.length - k : Nat) : Int)) % 4294967296))) || (decide ((rd r0 r.1 (k : Int)).2.2 < Ug r k))) = badR r k := by rw [e1, e2]; rfl
   have e4 : afa.wrap ((r.2 - ((r.1.length - k : Nat) : Int)) % 4294967296 + 1) = (r.2 - ((r.1.length - (k + 1) : Nat) : Int)) % 4294967296 := by rw [Qi]; omega
   have e5 : (rd r0 r.1 (k : Int)).2.2 = Ug r (k + 1) := by unfold Ug; rw [if_neg (by omega)]; rfl
   have e3' : (((!(decide (((((rd ((0 : Int), (([] : List Int), (0 : Int))) r.1 (k : Int)).2).1).length : Int) = 32))) || (!(decide (((rd ((0 : Int), (([] : List Int), (0 : Int))) r.1 (k : Int)).1) = (r.2 - ((r.1.length - k : Nat) : Int)) % 4294967296)))) || (decide ((((rd ((0 : Int), (([] : List Int), (0 : Int))) r.1 (k : Int)).2).2) < Ug r k))) = badR r k := e3;rw [e3', e4, Qp k (by omega)]
   first | rfl | (congr 1; rw [<- e5]))
  have hw : afa.wrap (r.2 - afa.wrap (r.1.length : Int)) = (r.2 - ((r.1.length - 0 : Nat) : Int)) % 4294967296 := by rw [Qi, Qi]; omega
  have e0 : O9.l0 .lim ((r.2 - ((r.1.length - 0 : Nat) : Int)) % 4294967296, r.1, (r.1.length : Int), 0, false, ((rd ((0 : Int), (([] : List Int), (0 : Int))) r.1 0).2).2, ()) = _ := e;rw [hw, e0, Zf];cases hq : (aeR r.1.length).find? (badR r) with
  | some k => rfl
  | none =>
   simp only;rw [O9.q0];simp only [O9.b0];rw [cond_neg (MR (by omega))]; rfl
 ·rw [cond_pos (by
   rw [ae_, decide_eq_true_eq, decide_eq_true_eq]; omega), MR h, afn]
theorem ZH (x y : RK) : (decide (x.1 = y.1) && (decide (x.2.1 = y.2.1) && decide (x.2.2 = y.2.2))) = decide (x = y) := by
 obtain ⟨a, b, c⟩ := x;obtain ⟨a', b', c'⟩ := y;rw [afk];simp only [aeO, decide_eq_true_eq, Prod.mk.injEq]
def Vx (a b : RR) : Bool := decide (a.2 = b.2) && decide (a.1 = b.1)
theorem abq {a b : List RK} (ha' : a.length < 4611686018427387904) (hb' : b.length < 4611686018427387904) : Nh.run .lim (a, b, ()) = some (decide (a = b)) := by
 have ha : a.length < 9223372036854775808 := by omega
 have hb : b.length < 9223372036854775808 := by omega
 simp only [Nh.run, MX ha, MX hb, cond_true];by_cases hl : a.length = b.length
 ·rw [cond_neg (by rw [MQ (show (a.length : Int) = (b.length : Int) by omega)]; rfl)];have e := Qx (f := Nh.l0 .lim) (fun k => (a, b, (a.length : Int), (k : Int), ())) a.length (fun k => !decide (rd r0 a (k : Int) = rd r0 b (k : Int))) (some (.inl (false, ()))) (fun k hk => by
   rw [Nh.q0];simp only [Nh.b0];rw [cond_pos (MQ (show (k : Int) < (a.length : Int) by omega)), MW (by omega) (show (k : Int) < (a.length : Int) by omega), cond_true, MW (by omega) (show (k : Int) < (b.length : Int) by omega), cond_true, ZH, Qp k (by omega)])
  have e0 : Nh.l0 .lim (a, b, (a.length : Int), 0, ()) = _ := e;rw [e0, Uw hl];by_cases h : a = b
  ·rw [MQ h, aeJ, cond_false, Nh.q0];simp only [Nh.b0];rw [cond_neg (MR (by omega))]; rfl
  ·rw [MR h]; rfl
 ·rw [cond_pos (by rw [MR (show ¬ (a.length : Int) = (b.length : Int) by omega)]; rfl), MR (fun h => hl (by rw [h]))]
theorem WL {a b : RR} (ha : a.1.length < 4611686018427387904) (hb : b.1.length < 4611686018427387904) : QS.run .lim (a, b, ()) = some (Vx a b) := by
 simp only [QS.run];unfold Vx;by_cases h : a.2 = b.2
 ·rw [MQ h, cond_true, abq ha hb]; rfl
 ·rw [MR h, cond_false]; rfl
theorem VX {a b : RR} (ha' : a.1.length < 4611686018427387904) (hb' : b.1.length < 4611686018427387904) : NH.run .lim (a, b, ()) = some (Vx a b) := by
 have ha : a.1.length < 9223372036854775808 := by omega
 have hb : b.1.length < 9223372036854775808 := by omega
 simp only [NH.run, MX ha, MX hb, ae0, cond_true];unfold Vx;by_cases h : a.2 = b.2
 ·rw [MQ h, aeJ, Bool.false_or, afs];by_cases hl : a.1.length = b.1.length
  ·rw [cond_neg (by rw [MQ (show (a.1.length : Int) = (b.1.length : Int) by omega)]; rfl)];have e := Qx (f := NH.l0 .lim) (fun k => ((k : Int), a.1, a.2, b.1, b.2, ())) a.1.length (fun k => !decide (rd r0 a.1 (k : Int) = rd r0 b.1 (k : Int))) (some (.inl (false, ()))) (fun k hk => by
    rw [NH.q0];simp only [NH.b0, MX ha, cond_true];rw [cond_pos (MQ (show (k : Int) < (a.1.length : Int) by omega)), MW (by omega) (show (k : Int) < (a.1.length : Int) by omega), cond_true, MW (by omega) (show (k : Int) < (b.1.length : Int) by omega), cond_true, ZH, Qp k (by omega)])
   have e0 : NH.l0 .lim (0, a.1, a.2, b.1, b.2, ()) = _ := e;rw [e0, Uw hl];by_cases h : a.1 = b.1
   ·rw [MQ h, aeJ, cond_false, NH.q0];simp only [NH.b0, MX ha, cond_true];rw [cond_neg (MR (by omega))]; rfl
   ·rw [MR h]; rfl
  ·rw [cond_pos (by rw [MR (show ¬ (a.1.length : Int) = (b.1.length : Int) by omega)]; rfl), MR (fun h => hl (by rw [h]))]
 ·rw [cond_pos (by rw [MR h]; rfl), MR h, afn]
abbrev SV := RR × (Int × (Int × (Int × (Int × (Int × (Int × (Int × Int)))))))
def SOk (x : SV) : Prop := x.1.1.length < NM /\ ∀ k ∈ x.1.1, k.2.1.length < NM
def UC (x : SV) : Bool := ((((VN x.1 && (decide (x.2.1 > 0))) && (decide (x.2.1 < 16))) && (decide (x.2.2.1 >= (-128)))) && (decide (x.2.2.1 < 128)))
theorem Yq {x : SV} (h : SOk x) : TS.run .lim (x, ()) = some (UC x) /\ OX.run .lim (x, ()) = some (UC x) := by
 refine ⟨?_, ?_⟩
 ·simp only [TS.run, XE h.1 h.2, aeE];rfl
 ·simp only [OX.run, aaw h.1 h.2, aeE];congr 1;unfold UC;rw [afk];simp only [aeO, decide_eq_true_eq];constructor <;> rintro ⟨⟨⟨⟨a, b⟩, c⟩, d⟩, e⟩ <;> exact ⟨⟨⟨⟨a, by omega⟩, by omega⟩, by omega⟩, by omega⟩
def UR (a b : SV) : Bool := ((((Vx a.1 b.1 && (((((decide (a.2.1 = b.2.1)) && (decide (a.2.2.1 = b.2.2.1))) && (decide (a.2.2.2.1 = b.2.2.2.1))) && (decide (a.2.2.2.2.1 = b.2.2.2.2.1))) && (decide (a.2.2.2.2.2.1 = b.2.2.2.2.2.1)))) && (decide (a.2.2.2.2.2.2.1 = b.2.2.2.2.2.2.1))) && (decide (a.2.2.2.2.2.2.2.1 = b.2.2.2.2.2.2.2.1))) && (decide (a.2.2.2.2.2.2.2.2 = b.2.2.2.2.2.2.2.2)))
theorem SN {x y : SV} (h : x.1.1.length < 4611686018427387904) (k : y.1.1.length < 4611686018427387904) : SS.run .lim (x, y, ()) = some (UR x y) /\ ND.run .lim (x, y, ()) = some (UR x y) := by
 refine ⟨?_, ?_⟩
 ·simp only [SS.run, WL h k, aeE];rfl
 ·simp only [ND.run, VX h k, aeE];congr 1;unfold UR;simp only [Bool.and_assoc]
theorem RG (x : SV) : UR x x = true := by
 unfold UR Vx;simp
end Go.AM
end
section
namespace Go.AM
theorem OG {n : Int} (h0 : 0 <= n) (h1 : n < 18446744073709551616) {k : Nat} {m : List Int} (hk : k < m.length) (hm : m.length <= 8) :
  MS.l0 .lim (n, (k : Int), m, ()) = MS.l0 .lim (n / 256, (k : Int) - 1, m.set k (aeF.wrap n), ()) := by
 have e1 : aeI.wrap (n.tdiv 256) = n / 256 := by rw [Int.tdiv_eq_ediv_of_nonneg h0, Qj]; omega
 have e2 : aeF.wrap (n.tmod 256) = aeF.wrap n := by rw [afc h0, Pg, Pg]; omega
 rw [MS.q0];simp only [MS.b0, e1, e2];rw [cond_pos (MQ (show (k : Int) >= 0 by omega)), MW (by omega) (by omega), cond_true, wrap64 (by omega) (by omega), ae7]
theorem UO (n : Int) (m : List Int) : MS.l0 .lim (n, -1, m, ()) = some (m, ()) := by rw [MS.q0]; rfl
theorem aa6 {n : Int} (h0 : 0 <= n) (h1 : n < 65536) : MS.run .lim (n, 2, ()) = some (twoS n) := by
 show (MS.l0 .lim (n, ((1 : Nat) : Int), [0, 0], ())).bind _ = _;rw [OG h0 (by omega) (by simp) (by simp)];show (MS.l0 .lim (n / 256, ((0 : Nat) : Int), [0, aeF.wrap n], ())).bind _ = _;rw [OG (by omega) (by omega) (by simp) (by simp)];show (MS.l0 .lim (n / 256 / 256, -1, [aeF.wrap (n / 256), aeF.wrap n], ())).bind _ = _;rw [UO];unfold twoS;rw [abN]; rfl
theorem Qb (n : Int) (k : Nat) (hk : k <= 64) : QK n k = aeF.wrap (n / 2 ^ k) := by unfold QK; rw [Oj n 0 k .u64 hk]
theorem aa7 {n : Int} (h0 : 0 <= n) (h1 : n < 18446744073709551616) : MS.run .lim (n, 4, ()) = some (WX n) := by
 show (MS.l0 .lim (n, ((3 : Nat) : Int), [0, 0, 0, 0], ())).bind _ = _;rw [OG h0 h1 (by simp) (by simp)];show (MS.l0 .lim (n / 256, ((2 : Nat) : Int), [0, 0, 0, aeF.wrap n], ())).bind _ = _;rw [OG (by omega) (by omega) (by simp) (by simp)];show (MS.l0 .lim (n / 256 / 256, ((1 : Nat) : Int), [0, 0, aeF.wrap (n / 256), aeF.wrap n], ())).bind _ = _;rw [OG (by omega) (by omega) (by simp) (by simp)];show (MS.l0 .lim (n / 256 / 256 / 256, ((0 : Nat) : Int), [0, aeF.wrap (n / 256 / 256), aeF.wrap (n / 256), aeF.wrap n], ())).bind _ = _;rw [OG (by omega) (by omega) (by simp) (by simp)];show (MS.l0 .lim (n / 256 / 256 / 256 / 256, -1, [aeF.wrap (n / 256 / 256 / 256), aeF.wrap (n / 256 / 256), aeF.wrap (n / 256), aeF.wrap n], ())).bind _ = _;rw [UO];unfold WX;rw [Qb n 24 (by decide), Qb n 16 (by decide), Qb n 8 (by decide), Qb n 0 (by decide)];have e1 : n / 256 / 256 / 256 = n / 2 ^ 24 := by show _ = n / 16777216; omega
 have e2 : n / 256 / 256 = n / 2 ^ 16 := by show _ = n / 65536; omega
 have e3 : n / 2 ^ 0 = n := by show n / 1 = n; omega
 rw [e1, e2, e3]; rfl
theorem X7 {n : Int} (h0 : 0 <= n) (h1 : n < 18446744073709551616) : MS.run .lim (n, 8, ()) = some (by8 n) := by
 show (MS.l0 .lim (n, ((7 : Nat) : Int), [0, 0, 0, 0, 0, 0, 0, 0], ())).bind _ = _;rw [OG h0 h1 (by simp) (by simp)];have d1 : 0 <= n / 256 /\ n / 256 < 18446744073709551616 := by omega
 have e1 : n / 256 = n / 2 ^ 8 := rfl;generalize hb1 : n / 256 = b1 at *;show (MS.l0 .lim (b1, ((6 : Nat) : Int), [0, 0, 0, 0, 0, 0, 0, aeF.wrap n], ())).bind _ = _;rw [OG d1.1 d1.2 (by simp) (by simp)];have d2 : 0 <= b1 / 256 /\ b1 / 256 < 18446744073709551616 := by omega
 have e2 : b1 / 256 = n / 2 ^ 16 := by show _ = n / 65536; omega
 generalize hb2 : b1 / 256 = b2 at *;show (MS.l0 .lim (b2, ((5 : Nat) : Int), [0, 0, 0, 0, 0, 0, aeF.wrap b1, aeF.wrap n], ())).bind _ = _;rw [OG d2.1 d2.2 (by simp) (by simp)];have d3 : 0 <= b2 / 256 /\ b2 / 256 < 18446744073709551616 := by omega
 have e3 : b2 / 256 = n / 2 ^ 24 := by show _ = n / 16777216; omega
 generalize hb3 : b2 / 256 = b3 at *;show (MS.l0 .lim (b3, ((4 : Nat) : Int), [0, 0, 0, 0, 0, aeF.wrap b2, aeF.wrap b1, aeF.wrap n], ())).bind _ = _;rw [OG d3.1 d3.2 (by simp) (by simp)];have d4 : 0 <= b3 / 256 /\ b3 / 256 < 18446744073709551616 := by omega
 have e4 : b3 / 256 = n / 2 ^ 32 := by show _ = n / 4294967296; omega
 generalize hb4 : b3 / 256 = b4 at *;show (MS.l0 .lim (b4, ((3 : Nat) : Int), [0, 0, 0, 0, aeF.wrap b3, aeF.wrap b2, aeF.wrap b1, aeF.wrap n], ())).bind _ = _;rw [OG d4.1 d4.2 (by simp) (by simp)];have d5 : 0 <= b4 / 256 /\ b4 / 256 < 18446744073709551616 := by omega
 have e5 : b4 / 256 = n / 2 ^ 40 := by show _ = n / 1099511627776; omega
 generalize hb5 : b4 / 256 = b5 at *;show (MS.l0 .lim (b5, ((2 : Nat) : Int), [0, 0, 0, aeF.wrap b4, aeF.wrap b3, aeF.wrap b2, aeF.wrap b1, aeF.wrap n], ())).bind _ = _;rw [OG d5.1 d5.2 (by simp) (by simp)];have d6 : 0 <= b5 / 256 /\ b5 / 256 < 18446744073709551616 := by omega
 have e6 : b5 / 256 = n / 2 ^ 48 := by show _ = n / 281474976710656; omega
 generalize hb6 : b5 / 256 = b6 at *;show (MS.l0 .lim (b6, ((1 : Nat) : Int), [0, 0, aeF.wrap b5, aeF.wrap b4, aeF.wrap b3, aeF.wrap b2, aeF.wrap b1, aeF.wrap n], ())).bind _ = _;rw [OG d6.1 d6.2 (by simp) (by simp)];have d7 : 0 <= b6 / 256 /\ b6 / 256 < 18446744073709551616 := by omega
 have e7 : b6 / 256 = n / 2 ^ 56 := by show _ = n / 72057594037927936; omega
 generalize hb7 : b6 / 256 = b7 at *;show (MS.l0 .lim (b7, ((0 : Nat) : Int), [0, aeF.wrap b6, aeF.wrap b5, aeF.wrap b4, aeF.wrap b3, aeF.wrap b2, aeF.wrap b1, aeF.wrap n], ())).bind _ = _;rw [OG d7.1 d7.2 (by simp) (by simp)];show (MS.l0 .lim (b7 / 256, -1, [aeF.wrap b7, aeF.wrap b6, aeF.wrap b5, aeF.wrap b4, aeF.wrap b3, aeF.wrap b2, aeF.wrap b1, aeF.wrap n], ())).bind _ = _;rw [UO];unfold by8;rw [Qb n 56 (by decide), Qb n 48 (by decide), Qb n 40 (by decide), Qb n 32 (by decide), Qb n 24 (by decide), Qb n 16 (by decide), Qb n 8 (by decide), Qb n 0 (by decide), <- e1, <- e2, <- e3, <- e4, <- e5, <- e6, <- e7];have e0 : n / 2 ^ 0 = n := by show n / 1 = n; omega
 rw [e0]; rfl
theorem XD {l : List FF} (hl : FL l) : Nw.run .lim (l, ()) = some (Qc l, P8 l, ()) := by
 obtain ⟨h1, h2⟩ := hl;simp only [Nw.run, MX h1, cond_true];by_cases h16 : l.length > 16
 ·rw [MQ (show (l.length : Int) > 16 by omega)];have : P8 l = 18 := by unfold P8; rw [if_pos h16]
  unfold Qc;rw [this]; rfl
 rw [MR (show ¬ (l.length : Int) > 16 by omega)];have e := PE (f := Nw.l0 .lim) (fun k => (l, Qd l k, ((min (Nk (l.take k)).length 1233 : Nat) : Int), (k : Int), ())) l.length (fun k : Nat => !decide (fE (rd f0 l (k : Int)) = 0))
  (fun k => if fE (rd f0 l (k : Int)) = 13 then some (.inl (([] : List Int), 13, ())) else some (.inr (.inl (([] : List Int), 10, ())))) (fun k hk => by
  have hm := Oc (d := f0) (xs := l) (i := (k : Int)) (by omega) (by omega);have hb := h2 _ hm;rw [Nw.q0];generalize hg : rd f0 l (k : Int) = f at hm hb;simp only [Nw.b0, MX h1, MQ (show (k : Int) < (l.length : Int) by omega), MW (show (0 : Int) <= (k : Int) by omega) (show (k : Int) < (l.length : Int) by omega), cond_true, hg, MX (show f.2.length < 9223372036854775808 by omega), ae0];unfold fE;by_cases hk1 : f.1 < 0 \/ f.1 >= 65536
  ·rw [if_pos hk1];have : ((decide (f.1 < 0)) || (decide (f.1 > 65535))) = true := by rw [ae_, decide_eq_true_eq, decide_eq_true_eq]; omega
   simp only [this, cond_true];rfl
  ·rw [if_neg hk1];have : ((decide (f.1 < 0)) || (decide (f.1 > 65535))) = false := by rw [MR (show ¬ f.1 < 0 by omega), MR (show ¬ f.1 > 65535 by omega)]; rfl
   simp only [this, cond_false];have h3 : (f.2.length : Int).tmod 4 = ((f.2.length % 4 : Nat) : Int) := by rw [afc (by omega)]; omega
   by_cases hk2 : f.2.length < 12 \/ f.2.length % 4 ≠ 0
   ·rw [if_pos hk2];have : ((decide ((f.2.length : Int) < 12)) || (!(decide ((f.2.length : Int).tmod 4 = 0)))) = true := by
     rw [h3];rcases hk2 with q | q
     ·rw [MQ (show (f.2.length : Int) < 12 by omega)]; rfl
     ·rw [MR (show ¬ ((f.2.length % 4 : Nat) : Int) = 0 by omega)]; simp
    simp only [this, cond_true];rfl
   ·rw [if_neg hk2];have : ((decide ((f.2.length : Int) < 12)) || (!(decide ((f.2.length : Int).tmod 4 = 0)))) = false := by rw [h3, MR (show ¬ (f.2.length : Int) < 12 by omega), MQ (show ((f.2.length % 4 : Nat) : Int) = 0 by omega)]; rfl
    simp only [this, cond_false, decide_true, aeJ, cond_false];have es := SB hk;have el : (Nk (l.take (k + 1))).length = (Nk (l.take k)).length + (4 + f.2.length) := by rw [es, aeG, PW, hg]
    have ew : mn (aeH.wrap ((aeH.wrap (((min (Nk (l.take k)).length 1233 : Nat) : Int) + 4)) + (f.2.length : Int))) 1233 = ((min (Nk (l.take (k + 1))).length 1233 : Nat) : Int) := by rw [Og, wrap64 (n := ((min (Nk (l.take k)).length 1233 : Nat) : Int) + 4) (by omega) (by omega), wrap64 (by omega) (by omega)]; omega
    simp only [ew];by_cases hl2 : (Nk (l.take (k + 1))).length > 1232
    ·have e3 : Qd l (k + 1) = Qd l k := by rw [Qd, if_pos hl2]
     rw [cond_neg (MR (by omega)), e3, Qp k (by omega)]
    ·have e3 : Qd l (k + 1) = Qd l k ++ PV f := by rw [Qd, if_neg hl2, hg]
     have eo := Uo (l := l) k (by omega) (by omega);have ol : (Qd l k).length <= 1232 := by rw [eo]; omega
     have e4 : aeI.wrap (aeH.wrap ((f.2.length : Int) + 4)) = (f.2.length : Int) + 4 := by rw [wrap64 (by omega) (by omega), Qj]; omega
     have e5 : aeI.wrap f.1 = f.1 := by rw [Qj]; omega
     rw [cond_pos (MQ (by omega)), e4, e5, aa6 (by omega) (by omega), aeE, cond_pos (MQ (by rw [OL]; unfold maxStr; omega)), aa6 (by omega) (by omega), aeE,
      cond_pos (MQ (by rw [aeG, OL, OL]; unfold maxStr; omega)), cond_pos (MQ (by rw [aeG, aeG, OL, OL]; unfold maxStr; omega)), Qp k (by omega), e3]
     unfold PV;simp only [aeQ])
 have e0 : Nw.l0 .lim (l, ([] : List Int), 0, 0, ()) = _ := e;rw [cond_false, e0];unfold Qc P8;rw [if_neg h16];cases hq : (aeR l.length).find? (fun k : Nat => !decide (fE (rd f0 l (k : Int)) = 0)) with
 | some k =>
  have hk := afy hq;simp only [aff, decide_eq_false_iff_not] at hk;simp only;have : fE (rd f0 l (k : Int)) = 13 \/ fE (rd f0 l (k : Int)) = 10 := by
   unfold fE at hk ⊢
   split
   ·exact .inl rfl
   ·split
    ·exact .inr rfl
    ·rename_i q1 q2; rw [if_neg q1, if_neg q2] at hk; exact absurd rfl hk
  rw [if_neg hk];rcases this with q | q
  ·rw [if_pos q, q]; rfl
  ·rw [if_neg (by omega), q]; rfl
 | none =>
  simp only [afj];rw [Nw.q0];simp only [Nw.b0, MX h1, cond_true, MR (show ¬ (l.length : Int) < (l.length : Int) by omega), cond_false, aeE];by_cases hl : (Nk l).length > 1232
  ·rw [cond_pos (MQ (by omega)), if_pos hl]; rfl
  ·rw [cond_neg (MR (by omega)), if_neg hl, Uo l.length (afb _) (by rw [afj]; omega), afj]; rfl
theorem aaV {α : Type} (r0 r1 r2 r3 r4 r5 : Bool) (E K : Option α) : ((some r0).bind fun r => ((bif !!r then some r1 else some false)).bind fun r1 => ((bif !(!r || !r1) then some r2 else some false)).bind fun r2 => ((bif !((!r || !r1) || !r2) then some r3 else some false)).bind fun r3 =>
  ((bif !(((!r || !r1) || !r2) || !r3) then some r4 else some false)).bind fun r4 => ((bif !((((!r || !r1) || !r2) || !r3) || !r4) then some r5 else some false)).bind fun r5 =>
  bif (((((!r || !r1) || !r2) || !r3) || !r4) || !r5) then E else K) = bif (((((r0 && r1) && r2) && r3) && r4) && r5) then K else E := by
 cases r0 <;> cases r1 <;> cases r2 <;> cases r3 <;> cases r4 <;> cases r5 <;> rfl
theorem rb0 : ∀ a : Nat, a < 4 -> ∀ b : Nat, b < 8 -> ∀ c : Nat, c < 8 -> aeF.wrap (aeH.wrap (aeH.wrap (aeH.wrap ((a : Int) * 64) + aeH.wrap ((b : Int) * 8)) + (c : Int))) = YM a b c := by decide +kernel
theorem aaA {n a b : Int} : V6 n a b = true ↔ a <= n /\ n <= b := by unfold V6; rw [aeO, decide_eq_true_eq, decide_eq_true_eq]
structure HU (p : PK) : Prop where
 a : 0 <= p.2.2.2.2.2.2.2.2.2.1 /\ p.2.2.2.2.2.2.2.2.2.1 < 18446744073709551616
 b : 0 <= p.2.2.2.2.2.2.2.2.2.2.1 /\ p.2.2.2.2.2.2.2.2.2.2.1 < 18446744073709551616
 c : 0 <= p.2.2.2.2.2.2.2.2.2.2.2.1 /\ p.2.2.2.2.2.2.2.2.2.2.2.1 < 18446744073709551616
 d : 0 <= p.2.2.2.2.2.2.2.2.2.2.2.2.1 /\ p.2.2.2.2.2.2.2.2.2.2.2.2.1 < 18446744073709551616
theorem uB (n : Int) : 0 <= aeI.wrap n /\ aeI.wrap n < 18446744073709551616 := by rw [Qj]; omega
theorem YD {p : PK} (hl : FL p.fs) (hu : HU p) : OA.run .lim (p, ()) = some (U_ p, U9 p, ()) := by
 have hw : ∀ n a b, NU.run .lim (n, a, b, ()) = some (V6 n a b) := fun _ _ _ => rfl
 have hf : Nw.run .lim (p.2.2.2.2.2.2.2.2.2.2.2.2.2, ()) = some (Qc p.fs, P8 p.fs, ()) := XD hl;simp only [OA.run, hw];refine (aaV _ _ _ _ _ _ _ _).trans ?_;show (bif UD p then _ else _) = _;cases hok : UD p with
 | false =>
  have : U9 p = 13 := by unfold U9; rw [hok]; rfl
  unfold U_;rw [this]; rfl
 | true =>
  rw [cond_true, hf, aeE];have hE : U9 p = P8 p.fs := by unfold U9; rw [if_pos hok]
  simp only;unfold U_;rw [hE];by_cases h0 : P8 p.fs = 0
  ·rw [cond_neg (by rw [MQ h0]; rfl), if_pos h0, h0];have hS : Qc p.fs = Nk p.fs := by unfold Qc; rw [if_pos h0]
   have hlen := RD (l := p.fs);rw [hS] at hlen;have hh := hok;unfold UD at hh;simp only [aeO, aaA] at hh;obtain ⟨⟨⟨⟨⟨a1, a2⟩, a3⟩, a4⟩, a5⟩, a6⟩ := hh;obtain ⟨x, hx⟩ := ae1 a1.1;obtain ⟨y, hy⟩ := ae1 a2.1;obtain ⟨z, hz⟩ := ae1 a3.1;have hb := rb0 x (by omega) y (by omega) z (by omega);have hb : aeF.wrap (aeH.wrap (aeH.wrap (aeH.wrap (p.1 * 64) + aeH.wrap (p.2.1 * 8)) + p.2.2.1)) = YM p.1 p.2.1 p.2.2.1 := by rw [hx, hy, hz]; exact hb
   have l4 : ∀ n, (WX n).length = 4 := fun n => rfl
   have l8 : ∀ n, (by8 n).length = 8 := fun n => rfl
   simp only [hb, aa7 (uB _).1 (uB _).2, X7 hu.a.1 hu.a.2, X7 hu.b.1 hu.b.2, X7 hu.c.1 hu.c.2, X7 hu.d.1 hu.d.2, aeE, hS];have hL : ∀ a : List Int, a.length <= 2000 -> a.length <= maxStr := fun a h => by unfold maxStr; omega
   iterate 7 rw [cond_pos (MQ (by simp only [aeG, aeT, aeW, l4, l8]; decide))]
   rw [cond_pos (MQ (by simp only [aeG, aeT, aeW, l4, l8]; unfold maxStr; omega))];unfold UE;simp only [aeQ]
  ·rw [cond_pos (by rw [MR h0]; rfl), if_neg h0]
end Go.AM
end
section
set_option maxRecDepth 100000
namespace Go.AM
abbrev RQ := PK × List Int × List Int × Int
abbrev q0 : RQ := (p0, ([], ([], 0)))
def Pz (l : List FF) : List FF := match SE l 1028 with | some k => l.take k | none => l
def srF (l : List FF) : Int :=
 if (OW l 260).2 ≠ 0 then (OW l 260).2 else if (OW l 516).2 ≠ 0 then (OW l 516).2 else
 if (OW l 260).1.length < 32 \/ (OW l 260).1.length > 64 \/ (OW l 516).1.length > 256 then 12 else 0
def Yd (s : List Int) : Int :=
 if Ur s ≠ 0 then Ur s else if (Ou s).2.1 ≠ 4 \/ (Ou s).2.2.1 ≠ 3 then 23 else srF (Pz (Ou s).fs)
theorem Ze {l : List FF} {kind : Int} {j : Nat} (h : j < (findF l kind).length) : 0 <= rd 0 (findF l kind) (j : Int) /\ rd 0 (findF l kind) (j : Int) < (l.length : Int) := by
 have hm := Oc (d := 0) (xs := findF l kind) (i := (j : Int)) (by omega) (by omega);unfold findF at hm ⊢
 obtain ⟨k, hk, he⟩ := afv.1 hm;have := afF.1 (afC.1 hk).1;rw [<- he]; omega
def QN (l : List FF) (c : List Int) (j : Nat) : Int := min 8 (1 + ((((findF l 772).take j).filter fun i => decide (((rd f0 l i).2.length : Int) = (c.length : Int))).length : Int))
def Wx (l : List FF) (c : List Int) : Int := QN l c (findF l 772).length
theorem Wv (l : List FF) (c : List Int) (j : Nat) : 1 <= QN l c j /\ QN l c j <= 8 := by unfold QN; omega
theorem Xl {l : List FF} {c : List Int} {j : Nat} (h : j < (findF l 772).length) : QN l c (j + 1) = bif decide (((rd f0 l (rd 0 (findF l 772) (j : Int))).2.length : Int) = (c.length : Int)) then mn (QN l c j + 1) 8 else QN l c j := by
 unfold QN;rw [TA (d := 0) h, aft, aeG, Og];cases e : decide (((rd f0 l (rd 0 (findF l 772) (j : Int))).2.length : Int) = (c.length : Int)) with
 | true => simp only [afx, e, if_true, cond_true]; simp; omega
 | false => simp only [afx, e, cond_false]; simp
theorem ZT {l : List FF} (p : PK) (u c : List Int) (hl : ∀ f ∈ l, f.2.length < 65536) (hc : c.length < 65536) : ∀ (d j : Nat), (findF l 772).length - j = d -> j <= (findF l 772).length -> (findF l 772).length < 100 ->
  Oy.l0 .lim (l, ((findF l 772).length : Int), (j : Int), 0, 0, 0, 0, 0, 0, 0, 0, 0, 0, 0, 0, 0, [], [], 0, p.1, p.2.1, p.2.2.1, p.2.2.2.1, p.2.2.2.2.1, p.2.2.2.2.2.1, p.2.2.2.2.2.2.1, p.2.2.2.2.2.2.2.1, p.2.2.2.2.2.2.2.2.1, p.2.2.2.2.2.2.2.2.2.1, p.2.2.2.2.2.2.2.2.2.2.1, p.2.2.2.2.2.2.2.2.2.2.2.1, p.2.2.2.2.2.2.2.2.2.2.2.2.1, p.2.2.2.2.2.2.2.2.2.2.2.2.2, u, c, QN l c j, findF l 772, ()) =
  some (0, 0, 0, 0, 0, 0, 0, 0, 0, 0, 0, 0, 0, [], [], 0, p.1, p.2.1, p.2.2.1, p.2.2.2.1, p.2.2.2.2.1, p.2.2.2.2.2.1, p.2.2.2.2.2.2.1, p.2.2.2.2.2.2.2.1, p.2.2.2.2.2.2.2.2.1, p.2.2.2.2.2.2.2.2.2.1, p.2.2.2.2.2.2.2.2.2.2.1, p.2.2.2.2.2.2.2.2.2.2.2.1, p.2.2.2.2.2.2.2.2.2.2.2.2.1, p.2.2.2.2.2.2.2.2.2.2.2.2.2, u, c, Wx l c, ()) := by
 intro d
 induction d with
 | zero =>
  intro j h1 h2 h3;have hj : j = (findF l 772).length := by omega
  rw [Oy.q0];simp only [Oy.b0];rw [cond_neg (MR (show ¬ (j : Int) < ((findF l 772).length : Int) by omega)), hj]; rfl
 | succ d ih =>
  intro j h1 h2 h3;obtain ⟨i1, i2⟩ := Ze (l := l) (kind := 772) (j := j) (by omega);have hm := hl _ (Oc (d := f0) i1 i2);have hc63 : c.length < 9223372036854775808 := by omega
  have hm63 : (rd f0 l (rd 0 (findF l 772) (j : Int))).2.length < 9223372036854775808 := by omega
  have hb := Wv l c j;have hw : aeH.wrap (QN l c j + 1) = QN l c j + 1 := wrap64 (by omega) (by omega);have a := ih (j + 1) (by omega) (by omega) h3;rw [Oy.q0];simp only [Oy.b0, hw, Qp j (show j < 4611686018427387904 by omega)];rw [cond_pos (MQ (show (j : Int) < ((findF l 772).length : Int) by omega)), MW (show (0 : Int) <= (j : Int) by omega) (show (j : Int) < ((findF l 772).length : Int) by omega), cond_true, MW i1 i2, cond_true, MX hm63, cond_true, MX hc63, cond_true];rw [Xl (by omega)] at a;rw [<- a];cases decide (((rd f0 l (rd 0 (findF l 772) (j : Int))).2.length : Int) = (c.length : Int)) with
  | true => rfl
  | false => rfl
noncomputable def aa8 (p : PK) (fs : List FF) : Option (RQ × Int × Unit) :=
  (P6.run .lim (fs, 260, ())).bind fun (r8, r9, ()) =>
  bif !(decide (r9 = 0)) then
   some (q0, r9, ())
  else
   (P6.run .lim (fs, 516, ())).bind fun (r10, r11, ()) =>
   bif !(decide (r11 = 0)) then
   some (q0, r11, ())
   else
   bif vT (r8.length : Int) then
   bif ((!(!(decide ((r8.length : Int) < 32)))) || (vT (r8.length : Int))) then
   bif ((!(!((decide ((r8.length : Int) < 32)) || (decide ((r8.length : Int) > 64))))) || (vT (r10.length : Int))) then
   bif (((decide ((r8.length : Int) < 32)) || (decide ((r8.length : Int) > 64))) || (decide ((r10.length : Int) > 256))) then
    some (q0, 12, ())
   else
    (Oa.run .lim (fs, 772, ())).bind fun r12 =>
    bif vT (r12.length : Int) then
    (Oy.l0 .lim (fs, (r12.length : Int), 0, 0, 0, 0, 0, 0, 0, 0, 0, 0, 0, 0, 0, 0, ([] : List Int), ([] : List Int), 0, p.1, p.2.1, p.2.2.1, p.2.2.2.1, p.2.2.2.2.1, p.2.2.2.2.2.1, p.2.2.2.2.2.2.1, p.2.2.2.2.2.2.2.1, p.2.2.2.2.2.2.2.2.1, p.2.2.2.2.2.2.2.2.2.1, p.2.2.2.2.2.2.2.2.2.2.1, p.2.2.2.2.2.2.2.2.2.2.2.1, p.2.2.2.2.2.2.2.2.2.2.2.2.1, p.2.2.2.2.2.2.2.2.2.2.2.2.2, r8, r10, 1, r12, ())).bind fun (SI, Vk, V7, Vl, V8, XR, WY, WZ, XT, Xq, Xr, Xt, W9, Xu, YO, YP, XU, XV, XW, Yy, W_, WC, Xv, Xa, Xb, Yz, YQ, YR, YS, YT, YU, m64, Z9, ()) =>
    some (((XU, (XV, (XW, (Yy, (W_, (WC, (Xv, (Xa, (Xb, (Yz, (YQ, (YR, (YS, YT))))))))))))), (YU, (m64, Z9))), 0, ()) else none else none else none else none
theorem WR (p : PK) {l : List FF} (hf : l.length <= 16) (hl : ∀ f ∈ l, f.2.length < 65536) : ∃ r, aa8 p l = some (r, srF l, ()) /\ (srF l = 0 -> r = (p, ((OW l 260).1, ((OW l 516).1, Wx l (OW l 516).1)))) := by
 have o1 := Zx (l := l) 260 (by omega);have o2 := Zx (l := l) 516 (by omega);have hlen : ∀ k : Int, (OW l k).1.length < 65536 := fun k => by
  unfold OW;split
  ·simp
  ·rename_i h;split
   ·obtain ⟨i1, i2⟩ := Zy h;simp only [inB, aeO, decide_eq_true_eq] at i2;exact hl _ (Oc i2.1 i2.2)
   ·simp
 unfold aa8 srF;rw [o1, aeE];simp only;by_cases h0 : (OW l 260).2 = 0
 case neg => rw [cond_pos (by rw [MR h0]; rfl), if_pos h0]; exact ⟨_, rfl, fun h => absurd h h0⟩
 rw [cond_neg (by rw [MQ h0]; rfl), if_neg (fun h => h h0), o2, aeE];simp only;by_cases h1 : (OW l 516).2 = 0
 case neg => rw [cond_pos (by rw [MR h1]; rfl), if_pos h1]; exact ⟨_, rfl, fun h => absurd h h1⟩
 rw [cond_neg (by rw [MQ h1]; rfl), if_neg (fun h => h h1)];have l1 := hlen 260;have l2 := hlen 516;generalize (OW l 260).1 = u at l1 ⊢
 generalize (OW l 516).1 = c at l2 ⊢
 simp only [MX (show u.length < 9223372036854775808 by omega), MX (show c.length < 9223372036854775808 by omega), ae0, cond_true];by_cases h2 : u.length < 32 \/ u.length > 64 \/ c.length > 256
 ·rw [cond_pos (by simp only [ae_, decide_eq_true_eq]; omega), if_pos h2];exact ⟨_, rfl, fun h => by cases h⟩
 ·rw [cond_neg (by simp only [afm, decide_eq_false_iff_not]; omega), if_neg h2, TF 772 (by omega) (by omega), aeE, MX (show (findF l 772).length < 9223372036854775808 by have := Qm l 772; omega), cond_true];have a3 := ZT (l := l) p u c hl (by omega) _ 0 rfl (by omega) (by have := Qm l 772; omega);have a0 : QN l c 0 = 1 := by unfold QN; rw [List.take_zero]; rfl
  rw [a0] at a3;have a3 : Oy.l0 .lim (l, ((findF l 772).length : Int), 0, _) = _ := a3;rw [a3];exact ⟨_, rfl, fun _ => rfl⟩
theorem UY {s : List Int} (hs : Bs s) (hl : s.length < 9223372036854775808) : ∃ r, Oy.run .lim (s, ()) = some (r, Yd s, ()) /\ (Yd s = 0 -> r = (Ou s, ((OW (Pz (Ou s).fs) 260).1, ((OW (Pz (Ou s).fs) 516).1, Wx (Pz (Ou s).fs) (OW (Pz (Ou s).fs) 516).1)))) := by
 simp only [Oy.run, X6 hs hl, aeE];unfold Yd;by_cases h0 : Ur s = 0
 case neg => rw [cond_pos (by rw [MR h0]; rfl), if_pos h0]; exact ⟨_, rfl, fun h => absurd h h0⟩
 rw [cond_neg (by rw [MQ h0]; rfl), if_neg (fun h => h h0)];have w := was hs h0;have hfew := w.few;have hok := w.ok;generalize Ou s = p at hfew hok ⊢
 by_cases h1 : p.2.1 ≠ 4 \/ p.2.2.1 ≠ 3
 ·rw [cond_pos (by simp only [ae_, aff, decide_eq_false_iff_not]; omega), if_pos h1];exact ⟨_, rfl, fun h => by cases h⟩
 rw [cond_neg (by simp only [afm, Bool.not_eq_false', decide_eq_true_eq]; omega), if_neg h1];have hfs : p.2.2.2.2.2.2.2.2.2.2.2.2.2.length <= 16 := hfew;have acn := Qm p.fs 1028;have hl' : ∀ f ∈ p.fs, f.2.length < 65536 := fun f hf => by have := (hok f hf).l1; omega
 have e : Oa.run .lim (p.2.2.2.2.2.2.2.2.2.2.2.2.2, 1028, ()) = some (findF p.fs 1028) := TF 1028 (by omega) (by omega);rw [e, aeE, MX (show (findF p.fs 1028).length < 9223372036854775808 by omega), cond_true];unfold Pz;rcases QD p.fs 1028 with ⟨q1, q2⟩ | ⟨k, r, q1, q2, hkl, hkd⟩
 ·rw [q1, q2];rw [cond_neg (show decide ((([] : List Int).length : Int) > 0) = false from rfl)];exact WR p hfew hl'
 ·rw [q1, q2];have hkl' : k < p.2.2.2.2.2.2.2.2.2.2.2.2.2.length := hkl;rw [cond_pos (MQ (show (((k : Int) :: r).length : Int) > 0 by simp only [aeT]; omega)), MW (show (0 : Int) <= 0 by omega) (show (0 : Int) < (((k : Int) :: r).length : Int) by simp only [aeT]; omega), cond_true,
   show rd 0 ((k : Int) :: r) 0 = (k : Int) from rfl, Nc (show (0 : Int) <= 0 by omega) (show (0 : Int) <= (k : Int) by omega) (show (k : Int) <= (p.2.2.2.2.2.2.2.2.2.2.2.2.2.length : Int) by omega), cond_true]
  have hc : cut p.2.2.2.2.2.2.2.2.2.2.2.2.2 0 (k : Int) = p.fs.take k := Qv rfl;rw [hc];exact WR p (by rw [aeK]; omega) (fun f hf => hl' f (aeZ hf))
end Go.AM
end
section
set_option maxRecDepth 100000
namespace Go.AM
abbrev OT := Int × List Int × List Int × List Int × Int × Int
def Rx (x : SV) : SV := (x.1, (x.2.1, (x.2.2.1, (x.2.2.2.1, (x.2.2.2.2.1, (x.2.2.2.2.2.1, (x.2.2.2.2.2.2.1, (x.2.2.2.2.2.2.2.1, (aeI.wrap (x.2.2.2.2.2.2.2.2 + 1))))))))))
def VQ (x : SV) : SV := (x.1, (x.2.1, (x.2.2.1, (x.2.2.2.1, (x.2.2.2.2.1, (x.2.2.2.2.2.1, (x.2.2.2.2.2.2.1, ((aeI.wrap (x.2.2.2.2.2.2.2.1 + 1)), x.2.2.2.2.2.2.2.2))))))))
def UU (x : SV) : SV := (x.1, (x.2.1, (x.2.2.1, (x.2.2.2.1, (x.2.2.2.2.1, (x.2.2.2.2.2.1, ((aeI.wrap (x.2.2.2.2.2.2.1 + 1)), x.2.2.2.2.2.2.2)))))))
abbrev Rw : OT := (0, ([], ([], ([], (0, 0)))))
theorem aa4 : Qo.run .lim ([78, 84, 83, 78], ()) = some 1314149198 := by
 have ht : Qg.run .lim ([78, 84, 83, 78], [65, 66, 67, 68, 69, 70, 71, 72, 73, 74, 75, 76, 77, 78, 79, 80, 81, 82, 83, 84, 85, 86, 87, 88, 89, 90], ()) = some [] := by decide
 have hv := TD (s := [78, 84, 83, 78]) (fun x hx => by simp only [ae3, aeU, or_false] at hx; rcases hx with rfl | rfl | rfl | rfl <;> decide) (by decide);simp only [Qo.run, ht, hv, aeE];rfl
abbrev Si (t : Int) (u : List Int) : PK := (0, (4, (4, (0, (0, (0, (0, (0, (1314149198, (0, (t, (0, (0, [(260, u)])))))))))))))
theorem Vq {t : Int} {u : List Int} (hu : Yj (260, u)) (hl : u.length <= 64) : Nb.run .lim (Si t u, ()) = some (UE (Si t u) ++ Nk [(260, u)], 0, ()) := by
 have e : U9 (Si t u) = 0 := by
  unfold U9;rw [if_pos (show UD (Si t u) = true from rfl)];refine VO (l := [(260, u)]) (fun f hf => ?_) (by simp) ?_
  ·rw [aeN.1 hf]; exact hu
  ·rw [QM, PW]; show 4 + u.length <= 1232; omega
 have h := TG (p := Si t u) ⟨by show (1 : Nat) < _; decide, fun f hf => by rw [aeN.1 hf]; show u.length <= _; omega⟩;rw [h, e];unfold U_;rw [if_pos e]
theorem Wu {v : VV} {x : SV} {s : List Int} {recv OE : Int} {draws : List (List Int)} (hs : Bs s) (hl : s.length < 9223372036854775808) (h : Yd s ≠ 0) :
  NG.run .lim (v, x, s, recv, OE, draws, ()) = some (v, Rx x, Rw, ()) := by
 obtain ⟨r, hr, _⟩ := UY hs hl;simp only [NG.run, hr, aeE];rw [cond_pos (by rw [MR h]; rfl)];rfl
theorem XY {l : List FF} {kind : Int} (h : (OW l kind).2 = 0) : (kind, (OW l kind).1) ∈ l := by
 unfold OW at h ⊢
 by_cases h0 : (findF l kind).length = 0
 ·rw [if_pos h0] at h; cases h
 rw [if_neg h0] at h ⊢
 by_cases h1 : (findF l kind).length = 1
 ·rw [if_pos h1];rcases QD l kind with ⟨_, q⟩ | ⟨k, r, _, q, hk, he⟩
  ·rw [q] at h0; exact absurd rfl h0
  ·have e : rd 0 (findF l kind) 0 = (k : Int) := by rw [q]; rfl
   have hm : rd f0 l (k : Int) ∈ l := Oc (by omega) (by omega);rw [e];have : (kind, (rd f0 l (k : Int)).2) = rd f0 l (k : Int) := by rw [<- he]
   rw [this]; exact hm
 ·rw [if_neg h1] at h; cases h
theorem Wi {l : List FF} {f : FF} (h : f ∈ Pz l) : f ∈ l := by
 unfold Pz at h;split at h
 ·exact aeZ h
 ·exact h
structure SR (s : List Int) : Prop where
 e0 : Ur s = 0
 md : (Ou s).2.1 = 4 /\ (Ou s).2.2.1 = 3
 u : Yj (260, (OW (Pz (Ou s).fs) 260).1)
 ul : 32 <= (OW (Pz (Ou s).fs) 260).1.length /\ (OW (Pz (Ou s).fs) 260).1.length <= 64
 c : Yj (516, (OW (Pz (Ou s).fs) 516).1)
 cl : (OW (Pz (Ou s).fs) 516).1.length <= 256
theorem Ye {s : List Int} (hs : Bs s) (h : Yd s = 0) : SR s := by
 unfold Yd at h;by_cases h0 : Ur s = 0
 case neg => rw [if_pos h0] at h; exact absurd h h0
 rw [if_neg (fun k => k h0)] at h;split at h
 ·cases h
 rename_i h1;unfold srF at h;split at h
 ·rename_i k; exact absurd h k
 rename_i h2;split at h
 ·rename_i k; exact absurd h k
 rename_i h3;split at h
 ·cases h
 rename_i h4;have w := (was hs h0).ok;exact ⟨h0, by omega, w _ (Wi (XY (by omega))), by omega, w _ (Wi (XY (by omega))), by omega⟩
theorem XQ {v : VV} {x : SV} {s : List Int} {recv OE : Int} {draws : List (List Int)} (hs : Bs s) (hl : s.length < 9223372036854775808) (h : Yd s = 0)
  (ho : Ql.run .lim (v, x.1, (OW (Pz (Ou s).fs) 516).1, ()) = some ((PO v x.1 (OW (Pz (Ou s).fs) 516).1).1, (PO v x.1 (OW (Pz (Ou s).fs) 516).1).2, ()))
  (hn : (PO v x.1 (OW (Pz (Ou s).fs) 516).1).2 ≠ 0) :
  NG.run .lim (v, x, s, recv, OE, draws, ()) = some (v, VQ x, (2, ((OW (Pz (Ou s).fs) 260).1, (s, (UE (Si (Ou s).2.2.2.2.2.2.2.2.2.2.2.2.1 (OW (Pz (Ou s).fs) 260).1) ++ Nk [(260, (OW (Pz (Ou s).fs) 260).1)], (recv, OE))))), ()) := by
 obtain ⟨r, hr, hr2⟩ := UY hs hl;have he := hr2 h;subst he;have q := Ye hs h;have hw := Vq (t := (Ou s).2.2.2.2.2.2.2.2.2.2.2.2.1) q.u q.ul.2;simp only [NG.run, hr, h, aeE, ho];rw [cond_neg (by decide), cond_neg (MR hn), cond_pos (by rw [MR hn]; rfl)];simp only [aa4, aeE, hw];rfl
theorem awB {n : Nat} {x : Int} (h : B8 x) : Bs (aeM n x) := fun y hy => by rw [(List.mem_replicate.1 hy).2]; exact h
abbrev awK : List Int := aeM 32 107
abbrev awZ : List Int := aeM 104 0
theorem abR : MZ.l0 .lim ([], 0, ()) = some (awK, ()) := by
 have e := Oi (f := MZ.l0 .lim) (fun j => (aeM j (107 : Int), (j : Int), ())) (n := 32) (fun k hk => by
  rw [MZ.q0];have hl : ∀ x : Int, decide ((aeM k x).length + [x].length <= maxStr) = true := fun x => MQ (by unfold maxStr; simp; omega)
  simp only [MZ.b0, MQ (show (k : Int) < 32 by omega), cond_true, hl, Qp k (by omega)];rw [List.replicate_succ'])
 refine (show MZ.l0 .lim ([], 0, ()) = MZ.l0 .lim (aeM 32 (107 : Int), ((32 : Nat) : Int), ()) from e).trans ?_;rw [MZ.q0];rfl
abbrev awX : SV := (([(1, (awK, 0))], 2), (1, (0, (0, (0, (0, (0, (0, 0))))))))
abbrev awV : VV := (false, [])
abbrev YL : PK := (0, (4, (3, (0, (0, (0, (0, (0, (0, (0, (0, (0, (0, [(260, awK), (516, awZ)])))))))))))))
abbrev awT : List Int := UE YL ++ Nk YL.fs
theorem ab5 : Ph.run .lim (awK, 0, ()) = some (awX.1, 0, ()) := rfl
theorem VI : ∀ f ∈ YL.fs, Yj f := fun f hf => by
 have hf : f ∈ [((260 : Int), awK), (516, awZ)] := hf;simp only [ae3, aeU, or_false] at hf;rcases hf with rfl | rfl
 ·exact ⟨by decide, by decide, by decide, by decide, by decide, awB (by decide)⟩
 ·exact ⟨by decide, by decide, by decide, by decide, by decide, awB (by decide)⟩
theorem VH : (Nk YL.fs).length = 144 := by decide +kernel
theorem aar : OA.run .lim (YL, ()) = some (awT, 0, ()) := by
 have e : U9 YL = 0 := by
  unfold U9;rw [if_pos (show UD YL = true from rfl)];exact VO VI (by decide) (by rw [VH]; decide)
 have h := YD (p := YL) ⟨by show (2 : Nat) < _; decide, fun f hf => by have := (VI f hf).l1; omega⟩ ⟨by decide, by decide, by decide, by decide⟩;rw [h, e];unfold U_;rw [if_pos e]
theorem Uy : Ur awT = 0 /\ Ou awT = YL := Vu ⟨rfl, by decide, by decide, by decide, by decide, by decide, by decide, by decide⟩ VI (by decide) (by rw [VH]; decide)
theorem ab6 : Bs awT := (aa1 _).app (XM fun f hf => (VI f hf).b)
theorem ab7 : awT.length = 192 := by rw [aeG, S9, VH]
theorem Ux : OW (Pz YL.fs) 260 = (awK, 0) /\ OW (Pz YL.fs) 516 = (awZ, 0) := by decide +kernel
theorem acS : Yd awT = 0 := by
 unfold Yd;rw [Uy.1, Uy.2];unfold srF;rw [Ux.1, Ux.2];rfl
theorem QY : MZ.run .lim () = some true := by
 have h1 := Wu (v := awV) (x := awX) (s := []) (recv := 1) (OE := 2) (draws := []) acG (by decide) (by decide);have hc : PO awV awX.1 awZ = ((0, ([], [])), 19) := by
  unfold PO;rw [if_neg (by decide), if_pos (by decide)]
 have h2 := XQ (v := awV) (x := awX) (s := awT) (recv := 1) (OE := 2) (draws := []) ab6 (by rw [ab7]; decide) acS
  (by
   rw [Uy.2, Ux.2];exact Wh ⟨by decide, fun k hk => nomatch hk⟩ rfl (fun k hk => nomatch hk) ⟨by decide, fun k hk => by rw [aeN.1 hk]; rfl, fun k hk => by rw [aeN.1 hk]; exact awB (by decide)⟩ (Ot (by decide)) (awB (by decide)))
  (by rw [Uy.2, Ux.2, hc]; decide)
 rw [Uy.2, Ux.1] at h2;have hlen : (UE (Si YL.2.2.2.2.2.2.2.2.2.2.2.2.1 awK) ++ Nk [(260, awK)]).length = 84 := by rw [aeG, S9, QM, PW]; rfl
 simp only [MZ.run, abR, ab5, aeE];have h1 : NG.run .lim (Zd, awX, ([] : List Int), 1, 2, ([] : List (List Int)), ()) = _ := h1;have h2 : NG.run .lim (Zd, awX, awT, 1, 2, ([] : List (List Int)), ()) = _ := h2;rw [h1];simp only [aeE, aar];rw [h2];simp only [aeE, hlen];rfl
theorem acM {x : SV} (h : Ty.ok (.lst (.pair (.int .u32) (.pair .str (.int .i64)))) x.1.1) : SOk x := ⟨Ot (by have : x.1.1.length <= 140737488351232 := h.1; omega), fun k hk => Ot (by have : k.2.1.length <= 140737488351232 := (h.2 k hk).2.1.1; omega)⟩
end Go.AM
end
section
namespace Go.AM
theorem WE {v : VV} {m : RK} {k : CK} {Nq : List Int} (h : (mkS v m k Nq).2.2 = 0) :
  R_ k = true /\ Nq.length = 16 /\ (Om v m.2.1 [S_ m.1, Nq] (OV k)).2.2 = 0 /\ mkS v m k Nq = ((Om v m.2.1 [S_ m.1, Nq] (OV k)).1, (S_ m.1 ++ Nq) ++ (Om v m.2.1 [S_ m.1, Nq] (OV k)).2.1, 0) := by
 unfold mkS at h ⊢
 by_cases h1 : R_ k = true
 ·rw [if_pos h1] at h ⊢
  by_cases h2 : Nq.length = 16
  ·rw [if_pos h2] at h ⊢
   by_cases h3 : (Om v m.2.1 [S_ m.1, Nq] (OV k)).2.2 = 0
   ·rw [if_pos h3]; exact ⟨h1, h2, h3, rfl⟩
   ·rw [if_neg h3] at h; exact absurd h h3
  ·rw [if_neg h2] at h; exact absurd h (show (10 : Int) ≠ 0 by decide)
 ·rw [if_neg h1] at h; exact absurd h (show (13 : Int) ≠ 0 by decide)
theorem Zq {v : VV} {m : RK} {k : CK} {Nq : List Int} (h : (mkS v m k Nq).2.2 ≠ 0) : (mkS v m k Nq).1 = v /\ (mkS v m k Nq).2.1 = [] := by
 unfold mkS at h ⊢
 by_cases h1 : R_ k = true
 ·rw [if_pos h1] at h ⊢
  by_cases h2 : Nq.length = 16
  ·rw [if_pos h2] at h ⊢
   by_cases h3 : (Om v m.2.1 [S_ m.1, Nq] (OV k)).2.2 = 0
   ·rw [if_pos h3] at h; exact absurd rfl h
   ·rw [if_neg h3]; exact ⟨rfl, rfl⟩
  ·rw [if_neg h2]; exact ⟨rfl, rfl⟩
 ·rw [if_neg h1]; exact ⟨rfl, rfl⟩
end Go.AM
end
section
set_option maxRecDepth 100000
namespace Go.AM
theorem Zr {v : VV} (hf : Po v = true) (m : RK) (k : CK) (Nq : List Int) : Po (mkS v m k Nq).1 = true := by
 by_cases h : (mkS v m k Nq).2.2 = 0
 ·rw [(WE h).2.2.2]; exact Wq hf _ _ _
 ·rw [(Zq h).1]; exact hf
theorem aa3 {v : VV} (hv : okV v) {m : RK} (hk : m.2.1.length = 32) (hkb : Bs m.2.1) (k : CK) (Nq : List Int) : okV (mkS v m k Nq).1 := by
 by_cases h : (mkS v m k Nq).2.2 = 0
 ·obtain ⟨h1, h2, _, e⟩ := WE h;rw [e]; exact Zw hv (aa0 hk hkb h1 h2)
 ·rw [(Zq h).1]; exact hv
noncomputable def PN (m : RK) (k : CK) : VV -> List (List Int) -> List (List Int) -> VV × List (List Int) × Int
 | v, out, [] => (v, out, 0)
 | v, out, n :: l => if (mkS v m k n).2.2 = 0 then PN m k (mkS v m k n).1 (out ++ [(mkS v m k n).2.1]) l else (v, out, (mkS v m k n).2.2)
theorem drop_cons {α : Type} {z : α} {xs l : List α} {n : α} {j : Nat} (h : xs.drop j = n :: l) : j < xs.length /\ rd z xs (j : Int) = n /\ xs.drop (j + 1) = l := by
 have hj : j < xs.length := by
  rcases Nat.lt_or_ge j xs.length with q | q
  ·exact q
  ·rw [ae5 q] at h; exact absurd h (by simp)
 rw [List.drop_eq_getElem_cons hj] at h;have := List.cons.inj h;exact ⟨hj, by rw [PY hj]; exact this.1, this.2⟩
theorem Yw {m : RK} (hk : m.2.1.length = 32) (hkb : Bs m.2.1) {k : CK} (ko : KOk k) (v0 : VV) (NK : List (List Int)) (hn : ∀ n ∈ NK, n.length < NM) (h8 : NK.length <= 8) :
  ∀ (l : List (List Int)) (j : Nat) (v : VV) (out : List (List Int)), NK.drop j = l -> okV v -> Po v = true -> out.length <= j ->
   ((PN m k v out l).2.2 = 0 -> O1.l0 .lim (NK, (NK.length : Int), (j : Int), v0.1, v0.2, false, v.1, v.2, m.1, m.2.1, m.2.2, k.1, k.2.1, k.2.2, 0, out, ()) =
    some (.inr (v0.1, v0.2, false, (PN m k v out l).1.1, (PN m k v out l).1.2, m.1, m.2.1, m.2.2, k.1, k.2.1, k.2.2, 0, (PN m k v out l).2.1, ()))) /\
   ((PN m k v out l).2.2 ≠ 0 -> ∃ a b o, O1.l0 .lim (NK, (NK.length : Int), (j : Int), v0.1, v0.2, false, v.1, v.2, m.1, m.2.1, m.2.2, k.1, k.2.1, k.2.2, 0, out, ()) =
    some (.inl (v0.1, v0.2, false, a, b, m.1, m.2.1, m.2.2, k.1, k.2.1, k.2.2, (PN m k v out l).2.2, o, ()))) := by
 intro l
 induction l with
 | nil =>
  intro j v out hl hv hf ho;have hj : NK.length <= j := by
   have := congrArg afi hl;rw [aeL] at this;simp only [aeW] at this;omega
  refine ⟨fun _ => ?_, fun h => absurd rfl h⟩;rw [O1.q0];simp only [O1.b0, MR (show ¬ (j : Int) < (NK.length : Int) by omega), cond_false];rfl
 | cons n l ih =>
  intro j v out hl hv hf ho;obtain ⟨hj, hr, hl'⟩ := drop_cons (z := []) hl;have hn63 : n.length < 9223372036854775808 := hn n (by rw [<- hr]; exact Oc (by omega) (by omega));have hm := XL ko;rw [O1.q0];simp only [O1.b0, MQ (show (j : Int) < (NK.length : Int) by omega), MW (show (0 : Int) <= (j : Int) by omega) (show (j : Int) < (NK.length : Int) by omega), cond_true, hm, hr, MX hn63, aeE, wk j (by omega)];rw [PN];by_cases h1 : R_ k = true
  ·by_cases h2 : n.length = 16
   ·have T := aa0 (m := m) hk hkb h1 h2;have hs := X_ hv hf T;have hsl := WO hf m.2.1 [S_ m.1, n] (OV k);obtain ⟨j1, j2⟩ := aaD (id := m.1) (s := (Om v m.2.1 [S_ m.1, n] (OV k)).2.1) h2 (by omega);have hcap : decide (out.length + ([((S_ m.1 ++ n) ++ (Om v m.2.1 [S_ m.1, n] (OV k)).2.1)] : List (List Int)).length < 4398046511104) = true := MQ (by simp only [aeP]; omega);have hv2 := aa3 hv hk hkb k n;have hf2 := Zr hf m k n;unfold S_ at hs j1 j2 hcap;rw [h1, MQ (show (n.length : Int) = 16 by omega)];simp only [aeJ, cond_false, Vb h1, aeE, hs, j1, j2, cond_true];by_cases h3 : (Om v m.2.1 [S_ m.1, n] (OV k)).2.2 = 0
    ·have he : mkS v m k n = ((Om v m.2.1 [S_ m.1, n] (OV k)).1, (S_ m.1 ++ n) ++ (Om v m.2.1 [S_ m.1, n] (OV k)).2.1, 0) := by unfold mkS; rw [if_pos h1, if_pos h2, if_pos h3]
     have := ih (j + 1) (mkS v m k n).1 (out ++ [(mkS v m k n).2.1]) hl' hv2 hf2 (by simp only [aeG, aeP]; omega);rw [if_pos (show (mkS v m k n).2.2 = 0 by rw [he])];rw [he] at this ⊢
     unfold S_ at h3 this ⊢
     rw [MQ h3];simp only [aeJ, afe, cond_true, hcap, afI, cond_false, h3];exact this
    ·have he : mkS v m k n = (v, [], (Om v m.2.1 [S_ m.1, n] (OV k)).2.2) := by unfold mkS; rw [if_pos h1, if_pos h2, if_neg h3]
     rw [he];simp only;rw [if_neg h3];unfold S_ at h3 ⊢
     rw [MR h3];simp only [aeJ, afe, cond_true, ae0, cond_false];exact ⟨fun q => absurd q h3, fun _ => ⟨_, _, _, rfl⟩⟩
   ·have he : mkS v m k n = (v, [], 10) := by unfold mkS; rw [if_pos h1, if_neg h2]
    rw [h1, MR (show ¬ (n.length : Int) = 16 by omega), he];exact ⟨fun q => absurd q (show (10 : Int) ≠ 0 by decide), fun _ => ⟨_, _, _, rfl⟩⟩
  ·have h1' : R_ k = false := by simpa using h1
   have he : mkS v m k n = (v, [], 13) := by unfold mkS; rw [if_neg h1]
   rw [h1', he];exact ⟨fun q => absurd q (show (13 : Int) ≠ 0 by decide), fun _ => ⟨_, _, _, rfl⟩⟩
noncomputable def Uk (v : VV) (m : RK) (k : CK) (NK : List (List Int)) : VV × List (List Int) × Int :=
 if NK.length > 8 then (v, [], 18) else if (PN m k v [] NK).2.2 = 0 then PN m k v [] NK else (v, [], (PN m k v [] NK).2.2)
theorem aaB {v : VV} {r : RR} {k : CK} {NK : List (List Int)} (hv : okV v) (hf : Po v = true) (ro : ROk r) (ko : KOk k) (hl : NK.length < NM) (hn : ∀ n ∈ NK, n.length < NM) :
  O1.run .lim (v, r, k, NK, ()) = some ((Uk v (Tc r) k NK).1, (Uk v (Tc r) k NK).2.1, (Uk v (Tc r) k NK).2.2, ()) := by
 have hl63 : NK.length < 9223372036854775808 := hl;have hr := ro.len;have hm := TN ro;have hw := aby ro;unfold Uk;simp only [O1.run, MX hl63, cond_true];by_cases h8 : NK.length > 8
 ·rw [MQ (show (NK.length : Int) > 8 by omega), if_pos h8]; rfl
 ·rw [MR (show ¬ (NK.length : Int) > 8 by omega), if_neg h8];have J := Yw (ro.key _ hm) (ro.kb _ hm) ko v NK hn (by omega) NK 0 v [] rfl hv hf (afb _);rw [show ((0 : Nat) : Int) = 0 from rfl] at J;have el : rd r0 r.1 ((r.1.length - 1 : Nat) : Int) = Tc r := rfl;simp only [cond_false, MX (show r.1.length < 9223372036854775808 by omega), hw, el, MW (show (0 : Int) <= ((r.1.length - 1 : Nat) : Int) by omega) (show ((r.1.length - 1 : Nat) : Int) < (r.1.length : Int) by omega), cond_true];by_cases h0 : (PN (Tc r) k v [] NK).2.2 = 0
  ·rw [J.1 h0, if_pos h0, h0]; rfl
  ·obtain ⟨a, b, o, e⟩ := J.2 h0;rw [e, if_neg h0];simp only [aeE, MR h0, afe, cond_true]
theorem WA {m : RK} (hk : m.2.1.length = 32) (hkb : Bs m.2.1) {k : CK} : ∀ (l : List (List Int)) (v : VV) (out : List (List Int)), okV v -> okV (PN m k v out l).1 /\ (PN m k v out l).2.1.length <= out.length + l.length
 | [], v, out, h => ⟨h, by rw [PN]; simp⟩
 | n :: l, v, out, h => by
  rw [PN];by_cases h0 : (mkS v m k n).2.2 = 0
  ·rw [if_pos h0];have := WA hk hkb (k := k) l (mkS v m k n).1 (out ++ [(mkS v m k n).2.1]) (aa3 h hk hkb k n);refine ⟨this.1, afw this.2 ?_⟩;simp only [aeG, aeP, aeT, aeW]; omega
  ·rw [if_neg h0]; exact ⟨h, Nat.le_add_right _ _⟩
theorem aaC {v : VV} (hv : okV v) {m : RK} (hk : m.2.1.length = 32) (hkb : Bs m.2.1) {k : CK} {NK : List (List Int)} : okV (Uk v m k NK).1 /\ (Uk v m k NK).2.1.length <= 8 := by
 unfold Uk;by_cases h8 : NK.length > 8
 ·rw [if_pos h8]; exact ⟨hv, Nat.zero_le _⟩
 ·rw [if_neg h8];have := WA hk hkb (k := k) NK v [] hv;by_cases h0 : (PN m k v [] NK).2.2 = 0
  ·rw [if_pos h0]; exact ⟨this.1, afw this.2 (by simp only [aeW]; omega)⟩
  ·rw [if_neg h0]; exact ⟨hv, Nat.zero_le _⟩
theorem Zp {v : VV} (hf : Po v = true) (m : RK) (k : CK) (Nq : List Int) : (mkS v m k Nq).2.1.length <= 65600 := by
 unfold mkS;split
 ·split
  ·rename_i h;split
   ·have := WO hf m.2.1 [S_ m.1, Nq] (OV k);simp only [aeG];have : (S_ m.1).length = 4 := rfl;omega
   ·simp
  ·simp
 ·simp
theorem Vg {m : RK} {k : CK} : ∀ (l : List (List Int)) (v : VV) (out : List (List Int)), Po v = true -> (∀ c ∈ out, c.length <= 65600) -> Po (PN m k v out l).1 = true /\ ∀ c ∈ (PN m k v out l).2.1, c.length <= 65600
 | [], v, out, h, ho => ⟨h, ho⟩
 | n :: l, v, out, h, ho => by
  rw [PN];by_cases h0 : (mkS v m k n).2.2 = 0
  ·rw [if_pos h0];refine Vg l _ _ (Zr h m k n) fun c hc => ?_
   rcases ae2.1 hc with hc | hc
   ·exact ho c hc
   ·rw [aeN.1 hc]; exact Zp h m k n
  ·rw [if_neg h0]; exact ⟨h, ho⟩
theorem Zj {v : VV} (hf : Po v = true) {m : RK} {k : CK} {NK : List (List Int)} : Po (Uk v m k NK).1 = true /\ ∀ c ∈ (Uk v m k NK).2.1, c.length <= 65600 := by
 unfold Uk;split
 ·exact ⟨hf, fun c hc => nomatch hc⟩
 ·split
  ·exact Vg NK v [] hf fun c hc => nomatch hc
  ·exact ⟨hf, fun c hc => nomatch hc⟩
end Go.AM
end
section
set_option maxRecDepth 100000
namespace Go.AM
end Go.AM
end
section
set_option maxRecDepth 100000
namespace Go.AM
theorem YC {v : VV} (hv : okV v) (hf : Po v = true) (hvb : vB v) {s key : List Int} (hs : Bs s) (hl : s.length < 9223372036854775808) (hk : key.length < NM) (hkb : Bs key) :
  O6.run .lim (v, s, key, ()) = some ((Xw v s key).1, (Xw v s key).2, ()) := by
 simp only [O6.run, X6 hs hl, aeE];unfold Xw;by_cases h0 : Ur s = 0
 case neg => rw [MR h0, if_neg h0]; rfl
 rw [MQ h0, if_pos h0];have w := was hs h0;have hfew := w.few;have hok := w.ok;have hwb := XG hs h0;have hsl : s.length = 48 + (Nk (Ou s).fs).length := by
  have := congrArg afi w.st;rw [aeG, aeK, ae4 w.l0] at this;exact this
 have adF := w.l1;generalize Ou s = r at hfew hok hwb hsl;have hfs : r.2.2.2.2.2.2.2.2.2.2.2.2.2.length <= 16 := hfew;have acn := Qm r.fs 1028;simp only [aeJ, cond_false, MX (show r.2.2.2.2.2.2.2.2.2.2.2.2.2.length < 9223372036854775808 by omega), cond_true, aeE, MX (show (findF r.fs 1028).length < 9223372036854775808 by omega)];rw [abA hfew];rcases QD r.fs 1028 with ⟨q1, q2⟩ | ⟨k, l, q1, q2, hkl, hkd⟩
 ·simp only [q1, q2]; rfl
 have hmem : rd f0 r.fs (k : Int) ∈ r.fs := Oc (by omega) (by omega);have hfo := hok _ hmem;have hal : 0 < (findF r.fs 1028).length := by rw [q2]; simp
 have hat : rd 0 (findF r.fs 1028) 0 = (k : Int) := by rw [q2]; rfl
 have hkl' : k < r.2.2.2.2.2.2.2.2.2.2.2.2.2.length := hkl;simp only [q1, aeE, MR (show ¬ ((findF r.fs 1028).length : Int) = 0 by omega), cond_false, MR (show ¬ (k : Int) < 0 by omega), Nc (show (0 : Int) <= 0 by omega) (show (0 : Int) <= (k : Int) by omega) (ae6 _), MQ (show (k : Int) <= (r.2.2.2.2.2.2.2.2.2.2.2.2.2.length : Int) by omega), afr, cond_true,
  MW (show (0 : Int) <= (k : Int) by omega) (show (k : Int) < (r.2.2.2.2.2.2.2.2.2.2.2.2.2.length : Int) by omega), MW (show (0 : Int) <= 0 by omega) (show (0 : Int) < ((findF r.fs 1028).length : Int) by omega), hat]
 have hbb : Bs (rd f0 r.fs (k : Int)).2 := hfo.b;have hbl : (rd f0 r.fs (k : Int)).2.length < 65532 := hfo.l1;have sp := ZR hbb (by omega);have sp : Qn.run .lim ((rd ((0 : Int), ([] : List Int)) r.2.2.2.2.2.2.2.2.2.2.2.2.2 (k : Int)).2, ()) = _ := sp;obtain ⟨sB1, sB2, sL1, sL2⟩ := acK hbb;simp only [sp, aeE];generalize TJ (rd f0 r.fs (k : Int)).2 = g at sB1 sB2 sL1 sL2;obtain ⟨Nq, sealed, e⟩ := g;simp only at sB1 sB2 sL1 sL2 ⊢
 by_cases he : e = 0
 case neg => rw [MR he, if_neg he]; rfl
 rw [MQ he, if_pos he];have hcz : cut r.2.2.2.2.2.2.2.2.2.2.2.2.2 0 (k : Int) = r.2.2.2.2.2.2.2.2.2.2.2.2.2.take k := Qv rfl;have hw := hwb k;have hw : Nb.run .lim ((r.1, r.2.1, r.2.2.1, r.2.2.2.1, r.2.2.2.2.1, r.2.2.2.2.2.1, r.2.2.2.2.2.2.1, r.2.2.2.2.2.2.2.1, r.2.2.2.2.2.2.2.2.1, r.2.2.2.2.2.2.2.2.2.1, r.2.2.2.2.2.2.2.2.2.2.1, r.2.2.2.2.2.2.2.2.2.2.2.1, r.2.2.2.2.2.2.2.2.2.2.2.2.1, r.2.2.2.2.2.2.2.2.2.2.2.2.2.take k), ()) = some (s.take (48 + (Nk (r.fs.take k)).length), 0, ()) := hw;have hle := Wn r.fs k;generalize hN : 48 + (Nk (r.fs.take k)).length = N at hw;have hNs : N <= s.length := by omega
 have hcn : cut s 0 (N : Int) = s.take N := Qv rfl;have T : V9 key [s.take N, Nq] sealed := ⟨hk, hkb, by simp [NM], fun t ht => by
  simp only [ae3, aeU, or_false] at ht;rcases ht with rfl | rfl
  ·rw [aeK]; exact Ot (by omega)
  ·exact Ot (by omega), Ot (by omega)⟩
 have op := WH hv T sB2;have op : Oh.run .lim ((v.1, v.2), key, [s.take N, Nq], sealed, ()) = _ := op;simp only [aeJ, cond_false, hcz, hw, aeE, op, hcn, Nc (show (0 : Int) <= 0 by omega) (show (0 : Int) <= (N : Int) by omega) (show (N : Int) <= (s.length : Int) by omega), cond_true];by_cases ho : (OI v key [s.take N, Nq] sealed).2 = 0
 case neg => rw [MR ho, if_neg ho]; rfl
 rw [MQ ho, if_pos ho];obtain ⟨_, ol, _, oB⟩ := UG hf hvb ho;generalize (OI v key [s.take N, Nq] sealed).1 = p at ol oB;simp only [aeJ, cond_false, aa9 oB (show p.length < 9223372036854775808 by omega), aeE];by_cases ht : (Sr p.length p []).2 = 0
 case neg => rw [MR ht, if_neg ht]; rfl
 rw [MQ ht, if_pos ht];simp only [aeJ, cond_false, Nc (show (0 : Int) <= 0 by omega) (show (0 : Int) <= (k : Int) by omega) (show (k : Int) <= (r.2.2.2.2.2.2.2.2.2.2.2.2.2.length : Int) by omega), cond_true]
end Go.AM
end
section
set_option maxRecDepth 100000
namespace Go.AM
theorem abt {m m1 m2 m3 m4 m5 m6 m7 m8 m9 m10 m11 m12 m13 m14 m15 m16 m17 m18 m19 m20 m21 m22 m23 m24 RU Ro SX SH Ue TP TI m32 SI Vk V7 Vl V8 XR WY WZ XT Xq Xr Xt W9 Xu YO YP XU XV XW Yy W_ WC Xv Xa Xb YQ YR YS YT YU m64 Z9 m66 m67 m68 m69 m70 m71 m72 m73 m74 m75 m76 m77 m78 m79 m80 m81 m82 m83 m84 m85 m86 m87 m88 m89} (J : List (List Int)) (hJ : J.length <= 8) : ∀ (l : List (List Int)) (j : Nat) (i : Int) (acc : List FF), i = (j : Int) -> J.drop j = l -> acc.length <= j ->
  NG.l0 .lim ((J.length : Int), i, m, m1, m2, m3, m4, m5, m6, m7, m8, m9, m10, m11, m12, m13, m14, m15, m16, m17, m18, m19, m20, m21, m22, m23, m24, RU, Ro, SX, SH, Ue, TP, TI, m32, SI, Vk, V7, Vl, V8, XR, WY, WZ, XT, Xq, Xr, Xt, W9, Xu, YO, YP, XU, XV, XW, Yy, W_, WC, Xv, Xa, Xb, J, YQ, YR, YS, YT, YU, m64, Z9, m66, m67, m68, m69, m70, m71, m72, m73, m74, m75, m76, m77, m78, m79, m80, m81, m82, m83, m84, m85, m86, m87, m88, m89, acc, ()) = some (m, m1, m2, m3, m4, m5, m6, m7, m8, m9, m10, m11, m12, m13, m14, m15, m16, m17, m18, m19, m20, m21, m22, m23, m24, RU, Ro, SX, SH, Ue, TP, TI, m32, SI, Vk, V7, Vl, V8, XR, WY, WZ, XT, Xq, Xr, Xt, W9, Xu, YO, YP, XU, XV, XW, Yy, W_, WC, Xv, Xa, Xb, YQ, YR, YS, YT, YU, m64, Z9, m66, m67, m68, m69, m70, m71, m72, m73, m74, m75, m76, m77, m78, m79, m80, m81, m82, m83, m84, m85, m86, m87, m88, m89, acc ++ l.map (fun c => ((516 : Int), c)), ()) := by
 intro l
 induction l with
 | nil =>
  intro j i acc hi hl ha;subst hi;have hj : J.length <= j := by
   have := congrArg afi hl;rw [aeL] at this;simp only [aeW] at this;omega
  rw [NG.q0];simp only [NG.b0, MR (show ¬ (j : Int) < (J.length : Int) by omega), cond_false, List.map_nil, List.append_nil]
 | cons n l ih =>
  intro j i acc hi hl ha;subst hi;obtain ⟨hj, hr, hl'⟩ := drop_cons (z := []) hl;have hcap : decide (acc.length + ([(516, n)] : List FF).length < 2932031007402) = true := MQ (by simp only [aeP]; omega);rw [NG.q0];simp only [NG.b0, MQ (show (j : Int) < (J.length : Int) by omega), MW (show (0 : Int) <= (j : Int) by omega) (show (j : Int) < (J.length : Int) by omega), cond_true, hr, hcap, wk j (by omega)];rw [ih (j + 1) _ (acc ++ [(516, n)]) rfl hl' (by simp only [aeG, aeP]; omega), aeQ];rfl
theorem Zk {p : List Int} (h : (Vj p).2 = 0) : R_ (Vj p).1 = true /\ (Vj p).1 = Z8 p := by
 unfold Vj at h ⊢
 split at h
 ·rename_i q; rw [if_pos q]; exact ⟨q.2.1, rfl⟩
 ·cases h
theorem Zz {v : VV} {r : RR} {s : List Int} (hf : Po v = true) (hb : vB v) (h : (PO v r s).2 = 0) : R_ (PO v r s).1 = true /\ Bs (PO v r s).1.2.1 /\ Bs (PO v r s).1.2.2 := by
 unfold PO at h ⊢
 by_cases h1 : s.length < 20
 ·rw [if_pos h1] at h; cases h
 rw [if_neg h1] at h ⊢
 by_cases h2 : Rz r.1 (VT s) < 0
 ·rw [if_pos h2] at h; cases h
 rw [if_neg h2] at h ⊢
 by_cases h3 : (OI v (rd r0 r.1 (Rz r.1 (VT s))).2.1 [cut s 0 4, cut s 4 20] (cut s 20 (s.length : Int))).2 = 0
 ·rw [if_pos h3] at h ⊢
  obtain ⟨_, _, _, y⟩ := UG hf hb h3;obtain ⟨a, b⟩ := Zk h;exact ⟨a, by rw [b]; exact Xh y _ _, by rw [b]; exact Xh y _ _⟩
 ·rw [if_neg h3] at h; exact absurd h h3
def hU (s : List Int) : List Int := (OW (Pz (Ou s).fs) 260).1
def hC (s : List Int) : List Int := (OW (Pz (Ou s).fs) 516).1
def hN (s : List Int) : Int := Wx (Pz (Ou s).fs) (hC s)
abbrev hP (x : SV) (recv OE : Int) (q : PK) (u : List Int) : PK := (0, (4, (4, (x.2.1, (q.2.2.2.2.1, (x.2.2.1, (x.2.2.2.2.1, (x.2.2.2.2.2.1, (x.2.2.2.1, (recv, (q.2.2.2.2.2.2.2.2.2.2.2.2.1, (recv, (OE, [(260, u)])))))))))))))
noncomputable def aay (v : VV) (x : SV) (s : List Int) (draws : List (List Int)) : VV × List (List Int) × Int :=
 Uk v (Tc x.1) (PO v x.1 (hC s)).1 (cut draws 1 (1 + mn (hN s) ((draws.length : Int) - 1)))
noncomputable def XP (v : VV) (x : SV) (s : List Int) (recv OE : Int) (draws : List (List Int)) : VV × List Int × Int :=
 Vm (aay v x s draws).1 (hP x recv OE (Xw v s (PO v x.1 (hC s)).1.2.1).1.1 (hU s)) (PO v x.1 (hC s)).1.2.2 (rd [] draws 0) ((aay v x s draws).2.1.map fun c => ((516 : Int), c))
def abB (s : List Int) (recv OE : Int) : OT := (2, (hU s, (s, (UE (Si (Ou s).2.2.2.2.2.2.2.2.2.2.2.2.1 (hU s)) ++ Nk [(260, hU s)], (recv, OE)))))
noncomputable def Ud (v : VV) (x : SV) (s : List Int) (recv OE : Int) (draws : List (List Int)) : VV × SV × OT :=
 if Yd s ≠ 0 then (v, Rx x, Rw) else
 if (PO v x.1 (hC s)).2 ≠ 0 then (v, VQ x, abB s recv OE) else
 if (Xw v s (PO v x.1 (hC s)).1.2.1).2 ≠ 0 then (v, VQ x, abB s recv OE) else
 if draws.length = 0 then (v, Rx x, Rw) else
 if (aay v x s draws).2.2 ≠ 0 then (v, Rx x, Rw) else
 if (XP v x s recv OE draws).2.2 ≠ 0 then (v, Rx x, Rw) else
 ((XP v x s recv OE draws).1, UU x, (1, (hU s, (s, ((XP v x s recv OE draws).2.1, (recv, OE))))))
theorem aau {α : Type} {l : List α} {a b : Int} {q : α} (h : q ∈ cut l a b) : q ∈ l := aeZ (List.mem_of_mem_drop h)
theorem Yr {v : VV} {x : SV} {s : List Int} {recv OE : Int} {draws : List (List Int)} (hv : okV v) (hf : Po v = true) (hb : vB v) (hx : ROk x.1) (hs : Bs s) (hl : s.length < 9223372036854775808) (hd : draws.length < 1000) (hdn : ∀ d ∈ draws, d.length < NM) :
  NG.run .lim (v, x, s, recv, OE, draws, ()) = some ((Ud v x s recv OE draws).1, (Ud v x s recv OE draws).2.1, (Ud v x s recv OE draws).2.2, ()) := by
 unfold Ud;by_cases h : Yd s = 0
 case neg => rw [if_pos h]; exact Wu hs hl h
 rw [if_neg (fun k => k h)];have q := Ye hs h;have ho := Wh (v := v) (r := x.1) (s := hC s) hv hf hb hx (Ot (by have := q.cl; show (OW (Pz (Ou s).fs) 516).1.length < _; omega)) q.c.b;by_cases h1 : (PO v x.1 (hC s)).2 = 0
 case neg => rw [if_pos h1]; exact XQ hs hl h ho h1
 rw [if_neg (fun k => k h1)];obtain ⟨k1, k2, k3⟩ := Zz hf hb h1;obtain ⟨r, hr, hr2⟩ := UY hs hl;have he := hr2 h;subst he;have hw := Vq (t := (Ou s).2.2.2.2.2.2.2.2.2.2.2.2.1) q.u q.ul.2;have hnb := Wv (Pz (Ou s).fs) (hC s) (findF (Pz (Ou s).fs) 772).length;have hnb : 1 <= hN s /\ hN s <= 8 := hnb;have hu : (OW (Pz (Ou s).fs) 260).1 = hU s := rfl;have hc : (OW (Pz (Ou s).fs) 516).1 = hC s := rfl;have hn' : Wx (Pz (Ou s).fs) (hC s) = hN s := rfl;have hUl : (hU s).length <= 64 := q.ul.2;rw [hu] at hw;unfold XP aay;simp only [NG.run, hr, h, aeE, ho, hu, hc, hn', h1, decide_true, cond_true, aeJ, cond_false];generalize (PO v x.1 (hC s)).1 = K at k1 k2 k3 ⊢
 have ks := TM k1;have kl : K.2.1.length < NM /\ K.2.2.length < NM := ⟨Ot (by omega), Ot (by omega)⟩;rw [YC hv hf hb hs hl kl.1 k2, aeE];simp only;by_cases h2 : (Xw v s K.2.1).2 = 0
 case neg =>
  rw [if_pos h2, cond_pos (by rw [MR h2]; rfl)];simp only [aa4, aeE, hw];rfl
 rw [if_neg (fun k => k h2), cond_neg (by rw [MQ h2]; rfl), MX (show draws.length < 9223372036854775808 by omega), cond_true];generalize (Xw v s K.2.1).1 = a;by_cases h3 : draws.length = 0
 ·rw [if_pos h3, cond_pos (MQ (by omega))]; rfl
 rw [if_neg h3, cond_neg (MR (by omega)), cond_true];have hmb : 0 <= mn (hN s) ((draws.length : Int) - 1) /\ mn (hN s) ((draws.length : Int) - 1) <= 8 /\ mn (hN s) ((draws.length : Int) - 1) <= (draws.length : Int) - 1 := by rw [Og]; omega
 have w1 : aeH.wrap ((draws.length : Int) - 1) = (draws.length : Int) - 1 := wrap64 (by omega) (by omega);have w2 : aeH.wrap (1 + mn (hN s) ((draws.length : Int) - 1)) = 1 + mn (hN s) ((draws.length : Int) - 1) := wrap64 (by omega) (by omega);rw [w1, w2, Nc (show (0 : Int) <= 1 by omega) (show (1 : Int) <= 1 + mn (hN s) ((draws.length : Int) - 1) by omega) (show 1 + mn (hN s) ((draws.length : Int) - 1) <= (draws.length : Int) by omega), cond_true];have ko : KOk K := ⟨kl.1, kl.2⟩;have hcl : (cut draws 1 (1 + mn (hN s) ((draws.length : Int) - 1))).length <= draws.length := by unfold cut; rw [aeL, aeK]; omega
 have hj := aaB (NK := cut draws 1 (1 + mn (hN s) ((draws.length : Int) - 1))) hv hf hx ko (Ot (by omega)) (fun d hd' => hdn d (aau hd'));have hj1 := aaC hv (hx.key _ (TN hx)) (hx.kb _ (TN hx)) (k := K) (NK := cut draws 1 (1 + mn (hN s) ((draws.length : Int) - 1)));have hj2 := Zj hf (m := Tc x.1) (k := K) (NK := cut draws 1 (1 + mn (hN s) ((draws.length : Int) - 1)));rw [hj, aeE];generalize Uk v (Tc x.1) K (cut draws 1 (1 + mn (hN s) ((draws.length : Int) - 1))) = J at hj1 hj2 ⊢
 obtain ⟨⟨V1, V2⟩, J, e⟩ := J;simp only at hj1 hj2 ⊢
 by_cases h4 : e = 0
 case neg =>
  rw [if_pos h4, cond_pos (by rw [MR h4]; rfl), cond_pos (by rw [MR h4]; rfl)]; rfl
 rw [if_neg (fun k => k h4), cond_neg (by rw [MQ h4]; rfl), MX (show J.length < 9223372036854775808 by omega), cond_true];have hM := Zv (v := (V1, V2)) (p := hP x recv OE a.1 (hU s)) (key := K.2.2) (Nq := rd [] draws 0) (inner := J.map fun c => ((516 : Int), c)) hj1.1 hj2.1
  ⟨by show (1 : Nat) < _; decide, fun f hf => by rw [aeN.1 hf]; show (hU s).length <= _; omega⟩ (by show (1 : Nat) <= _; decide) kl.2 k3 (hdn _ (Oc (by omega) (by omega)))
  ⟨by rw [afA]; omega, fun f hf => by obtain ⟨c, hc, e⟩ := afv.1 hf; rw [<- e]; have := hj2.2 c hc; show c.length <= _; omega⟩
 rw [abt J hj1.2 J 0 0 [] rfl rfl (afb _)];simp only [aeE, afl];rw [MW (show (0 : Int) <= 0 by omega) (show (0 : Int) < (draws.length : Int) by omega), cond_true, hM, aeE];simp only;generalize Vm (V1, V2) (hP x recv OE a.1 (hU s)) K.2.2 (rd [] draws 0) (J.map fun c => ((516 : Int), c)) = M;by_cases h5 : M.2.2 = 0
 ·rw [cond_neg (by rw [MQ h5]; rfl), if_neg (fun k => k h5)]; rfl
 ·rw [cond_pos (by rw [MR h5]; rfl), if_pos h5]; rfl
end Go.AM
end
section
set_option maxRecDepth 100000
namespace Go.AM
theorem abr {v : VV} {x : SV} {s : List Int} {draws : List (List Int)} (hv : okV v) (hx : SOk x) (hs : s.length < 9223372036854775808) (hd : draws.length < 9223372036854775808) :
  ∃ l, Na.run .lim (v, ()) = some l /\ OU.run .lim (v, x, s, draws, ()) = some ((((l && Po v) && UC x) && decide ((s.length : Int) <= 4000)) && decide ((draws.length : Int) <= 40)) := by
 obtain ⟨l, hl⟩ := Xp v hv;refine ⟨l, hl, ?_⟩;simp only [OU.run, hl, aaH v hv, (Yq hx).2, aeE, MX hs, MX hd, ae0, cond_true];cases l <;> cases Po v <;> cases UC x <;> rfl
theorem Ws (v : VV) (x : SV) (s : List Int) (recv OE : Int) (draws : List (List Int)) :
  Ud v x s recv OE draws = (v, Rx x, Rw) \/ (Yd s = 0 /\ Ud v x s recv OE draws = (v, VQ x, abB s recv OE)) \/ ∃ w o, Ud v x s recv OE draws = (w, UU x, (1, o)) := by
 unfold Ud;by_cases h : Yd s = 0
 case neg => rw [if_pos h]; exact .inl rfl
 rw [if_neg (fun k => k h)];split
 ·exact .inr (.inl ⟨h, rfl⟩)
 split
 ·exact .inr (.inl ⟨h, rfl⟩)
 split
 ·exact .inl rfl
 split
 ·exact .inl rfl
 split
 ·exact .inl rfl
 ·exact .inr (.inr ⟨_, _, rfl⟩)
theorem abD : Bs [78, 84, 83, 78] := fun x hx => by
 simp only [ae3, aeU, or_false] at hx;rcases hx with rfl | rfl | rfl | rfl <;> decide
theorem acJ : Nu.run .lim ([78, 84, 83, 78], ()) = some 1314149198 := by
 have e0 : Nu.l0 .lim ([78, 84, 83, 78], 0, ()) = some (.inr ([78, 84, 83, 78], ())) := by
  rw [Nu.q0];show Nu.l0 .lim ([78, 84, 83, 78], 1, ()) = _;rw [Nu.q0];show Nu.l0 .lim ([78, 84, 83, 78], 2, ()) = _;rw [Nu.q0];show Nu.l0 .lim ([78, 84, 83, 78], 3, ()) = _;rw [Nu.q0];show Nu.l0 .lim ([78, 84, 83, 78], 4, ()) = _;rw [Nu.q0];rfl
 have hv := RV abD (by decide);simp only [Nu.run, e0, hv, aeE];rfl
theorem aaK (t : Int) (u : List Int) : NP.run .lim (Si t u, ()) = some [78, 84, 83, 78] := by
 have h := aa7 (n := 1314149198) (by decide) (by decide);have e : WX 1314149198 = [78, 84, 83, 78] := by decide
 have w : aeI.wrap 1314149198 = 1314149198 := by decide
 rw [e] at h;simp only [NP.run, w, h, aeE];rw [cond_pos (by decide), acJ];rfl
theorem acR {t : List Int} (h : Bs t) (hl : t.length = 8) : 0 <= N7 t /\ N7 t < 18446744073709551616 := by
 have := TB h 8 (by omega);rw [aeV (by omega)] at this;have e : (256 : Int) ^ 8 = 18446744073709551616 := by decide
 rwa [e] at this
theorem ZG {s : List Int} (hs : Bs s) (h : Ur s = 0) : 0 <= (Ou s).2.2.2.2.2.2.2.2.2.2.2.2.1 /\ (Ou s).2.2.2.2.2.2.2.2.2.2.2.2.1 < 18446744073709551616 := by
 have w := was hs h;rw [w.eq];exact acR ((hs.take 48).drop 40) (Q7 w.l0)
theorem Zt {s : List Int} (hs : Bs s) (h : Yd s = 0) : Ur (UE (Si (Ou s).2.2.2.2.2.2.2.2.2.2.2.2.1 (hU s)) ++ Nk [(260, hU s)]) = 0 /\ Ou (UE (Si (Ou s).2.2.2.2.2.2.2.2.2.2.2.2.1 (hU s)) ++ Nk [(260, hU s)]) = Si (Ou s).2.2.2.2.2.2.2.2.2.2.2.2.1 (hU s) := by
 have q := Ye hs h;have b := ZG hs q.e0;refine Vu (p := Si (Ou s).2.2.2.2.2.2.2.2.2.2.2.2.1 (hU s)) ⟨rfl, by show (0 : Int) <= 0 /\ (0 : Int) < 4294967296; decide, by show (0 : Int) <= 0 /\ (0 : Int) < 4294967296; decide, by show (0 : Int) <= 1314149198 /\ (1314149198 : Int) < 4294967296; decide,
  by show (0 : Int) <= 0 /\ (0 : Int) < 18446744073709551616; decide, b, by show (0 : Int) <= 0 /\ (0 : Int) < 18446744073709551616; decide, by show (0 : Int) <= 0 /\ (0 : Int) < 18446744073709551616; decide⟩ (fun f hf => ?_) (by show (1 : Nat) <= 16; decide) ?_
 ·rw [aeN.1 hf]; exact q.u
 ·have := q.ul;show (Nk [(260, hU s)]).length <= 1232;rw [QM, PW]; show 4 + (OW (Pz (Ou s).fs) 260).1.length <= 1232; omega
noncomputable def TQ (v : VV) (x : SV) (r2 : VV) (r3 : SV) (r4 : OT) : Option Bool :=
 bif decide (r4.1 = 1) then
  (ND.run .lim (r3, (x.1, (x.2.1, (x.2.2.1, (x.2.2.2.1, (x.2.2.2.2.1, (x.2.2.2.2.2.1, ((aeI.wrap (x.2.2.2.2.2.2.1 + 1)), x.2.2.2.2.2.2.2))))))), ())).bind fun r5 =>
  ((bif (!!r5 && (!(decide (r4.1 = 1)))) then Nr.run .lim (v, r2, ()) else some false)).bind fun r6 =>
  bif ((!r5 || ((!(decide (r4.1 = 1))) && !r6)) || ((decide (r4.1 = 0)) && (!((decide (r4.1 = 0)) && ((decide (r4.2.1 = ([] : List Int))) && ((decide (r4.2.2.1 = ([] : List Int))) && ((decide (r4.2.2.2.1 = ([] : List Int))) && ((decide (r4.2.2.2.2.1 = 0)) && (decide (r4.2.2.2.2.2 = 0)))))))))) then
  some false
  else
  bif !(decide (r4.1 = 2)) then
   (MZ.run .lim (())).bind fun r7 =>
   some r7
  else
   (NQ.run .lim (r4.2.2.2.1, ())).bind fun (r8, r9, ()) =>
   ((bif decide (r9 = 0) then NP.run .lim (r8, ()) else some ([] : List Int))).bind fun r10 =>
   bif ((!(((((decide (r9 = 0)) && (decide (r10 = ([78, 84, 83, 78] : List Int)))) && (decide (r8.2.2.2.2.2.2.2.2.2.2.2.1 = 0))) && (decide (r8.2.2.2.2.2.2.2.2.2.2.2.2.1 = 0))) && (decide (r8.2.2.2.2.2.2.2.2.2.1 = 0)))) || (vT (r8.2.2.2.2.2.2.2.2.2.2.2.2.2.length : Int))) then
   bif ((!((((((decide (r9 = 0)) && (decide (r10 = ([78, 84, 83, 78] : List Int)))) && (decide (r8.2.2.2.2.2.2.2.2.2.2.2.1 = 0))) && (decide (r8.2.2.2.2.2.2.2.2.2.2.2.2.1 = 0))) && (decide (r8.2.2.2.2.2.2.2.2.2.1 = 0))) && (decide ((r8.2.2.2.2.2.2.2.2.2.2.2.2.2.length : Int) = 1)))) || (inB 0 (r8.2.2.2.2.2.2.2.2.2.2.2.2.2.length : Int))) then
   ((bif (((((((decide (r9 = 0)) && (decide (r10 = ([78, 84, 83, 78] : List Int)))) && (decide (r8.2.2.2.2.2.2.2.2.2.2.2.1 = 0))) && (decide (r8.2.2.2.2.2.2.2.2.2.2.2.2.1 = 0))) && (decide (r8.2.2.2.2.2.2.2.2.2.1 = 0))) && (decide ((r8.2.2.2.2.2.2.2.2.2.2.2.2.2.length : Int) = 1))) && ((decide (((rd ((0 : Int), ([] : List Int)) r8.2.2.2.2.2.2.2.2.2.2.2.2.2 0).1) = 260)) && (decide (((rd ((0 : Int), ([] : List Int)) r8.2.2.2.2.2.2.2.2.2.2.2.2.2 0).2) = r4.2.1)))) then MZ.run .lim (()) else some false)).bind fun r11 =>
   some ((((((((decide (r9 = 0)) && (decide (r10 = ([78, 84, 83, 78] : List Int)))) && (decide (r8.2.2.2.2.2.2.2.2.2.2.2.1 = 0))) && (decide (r8.2.2.2.2.2.2.2.2.2.2.2.2.1 = 0))) && (decide (r8.2.2.2.2.2.2.2.2.2.1 = 0))) && (decide ((r8.2.2.2.2.2.2.2.2.2.2.2.2.2.length : Int) = 1))) && ((decide (((rd ((0 : Int), ([] : List Int)) r8.2.2.2.2.2.2.2.2.2.2.2.2.2 0).1) = 260)) && (decide (((rd ((0 : Int), ([] : List Int)) r8.2.2.2.2.2.2.2.2.2.2.2.2.2 0).2) = r4.2.1)))) && r11) else none else none
 else
  bif decide (r4.1 = 2) then
  (ND.run .lim (r3, (x.1, (x.2.1, (x.2.2.1, (x.2.2.2.1, (x.2.2.2.2.1, (x.2.2.2.2.2.1, (x.2.2.2.2.2.2.1, ((aeI.wrap (x.2.2.2.2.2.2.2.1 + 1)), x.2.2.2.2.2.2.2.2)))))))), ())).bind fun r12 =>
  ((bif (!!r12 && (!(decide (r4.1 = 1)))) then Nr.run .lim (v, r2, ()) else some false)).bind fun r13 =>
  bif ((!r12 || ((!(decide (r4.1 = 1))) && !r13)) || ((decide (r4.1 = 0)) && (!((decide (r4.1 = 0)) && ((decide (r4.2.1 = ([] : List Int))) && ((decide (r4.2.2.1 = ([] : List Int))) && ((decide (r4.2.2.2.1 = ([] : List Int))) && ((decide (r4.2.2.2.2.1 = 0)) && (decide (r4.2.2.2.2.2 = 0)))))))))) then
   some false
  else
   bif !(decide (r4.1 = 2)) then
   (MZ.run .lim (())).bind fun r14 =>
   some r14
   else
   (NQ.run .lim (r4.2.2.2.1, ())).bind fun (Qz, r16, ()) =>
   ((bif decide (r16 = 0) then NP.run .lim (Qz, ()) else some ([] : List Int))).bind fun ZC =>
   bif ((!(((((decide (r16 = 0)) && (decide (ZC = ([78, 84, 83, 78] : List Int)))) && (decide (Qz.2.2.2.2.2.2.2.2.2.2.2.1 = 0))) && (decide (Qz.2.2.2.2.2.2.2.2.2.2.2.2.1 = 0))) && (decide (Qz.2.2.2.2.2.2.2.2.2.1 = 0)))) || (vT (Qz.2.2.2.2.2.2.2.2.2.2.2.2.2.length : Int))) then
   bif ((!((((((decide (r16 = 0)) && (decide (ZC = ([78, 84, 83, 78] : List Int)))) && (decide (Qz.2.2.2.2.2.2.2.2.2.2.2.1 = 0))) && (decide (Qz.2.2.2.2.2.2.2.2.2.2.2.2.1 = 0))) && (decide (Qz.2.2.2.2.2.2.2.2.2.1 = 0))) && (decide ((Qz.2.2.2.2.2.2.2.2.2.2.2.2.2.length : Int) = 1)))) || (inB 0 (Qz.2.2.2.2.2.2.2.2.2.2.2.2.2.length : Int))) then
   ((bif (((((((decide (r16 = 0)) && (decide (ZC = ([78, 84, 83, 78] : List Int)))) && (decide (Qz.2.2.2.2.2.2.2.2.2.2.2.1 = 0))) && (decide (Qz.2.2.2.2.2.2.2.2.2.2.2.2.1 = 0))) && (decide (Qz.2.2.2.2.2.2.2.2.2.1 = 0))) && (decide ((Qz.2.2.2.2.2.2.2.2.2.2.2.2.2.length : Int) = 1))) && ((decide (((rd ((0 : Int), ([] : List Int)) Qz.2.2.2.2.2.2.2.2.2.2.2.2.2 0).1) = 260)) && (decide (((rd ((0 : Int), ([] : List Int)) Qz.2.2.2.2.2.2.2.2.2.2.2.2.2 0).2) = r4.2.1)))) then MZ.run .lim (()) else some false)).bind fun r18 =>
   some ((((((((decide (r16 = 0)) && (decide (ZC = ([78, 84, 83, 78] : List Int)))) && (decide (Qz.2.2.2.2.2.2.2.2.2.2.2.1 = 0))) && (decide (Qz.2.2.2.2.2.2.2.2.2.2.2.2.1 = 0))) && (decide (Qz.2.2.2.2.2.2.2.2.2.1 = 0))) && (decide ((Qz.2.2.2.2.2.2.2.2.2.2.2.2.2.length : Int) = 1))) && ((decide (((rd ((0 : Int), ([] : List Int)) Qz.2.2.2.2.2.2.2.2.2.2.2.2.2 0).1) = 260)) && (decide (((rd ((0 : Int), ([] : List Int)) Qz.2.2.2.2.2.2.2.2.2.2.2.2.2 0).2) = r4.2.1)))) && r18) else none else none
  else
  bif decide (r4.1 = 0) then
   (ND.run .lim (r3, (x.1, (x.2.1, (x.2.2.1, (x.2.2.2.1, (x.2.2.2.2.1, (x.2.2.2.2.2.1, (x.2.2.2.2.2.2.1, (x.2.2.2.2.2.2.2.1, (aeI.wrap (x.2.2.2.2.2.2.2.2 + 1)))))))))), ())).bind fun r19 =>
   ((bif (!!r19 && (!(decide (r4.1 = 1)))) then Nr.run .lim (v, r2, ()) else some false)).bind fun r20 =>
   bif ((!r19 || ((!(decide (r4.1 = 1))) && !r20)) || ((decide (r4.1 = 0)) && (!((decide (r4.1 = 0)) && ((decide (r4.2.1 = ([] : List Int))) && ((decide (r4.2.2.1 = ([] : List Int))) && ((decide (r4.2.2.2.1 = ([] : List Int))) && ((decide (r4.2.2.2.2.1 = 0)) && (decide (r4.2.2.2.2.2 = 0)))))))))) then
   some false
   else
   bif !(decide (r4.1 = 2)) then
    (MZ.run .lim (())).bind fun r21 =>
    some r21
   else
    (NQ.run .lim (r4.2.2.2.1, ())).bind fun (r22, XZ, ()) =>
    ((bif decide (XZ = 0) then NP.run .lim (r22, ()) else some ([] : List Int))).bind fun ZE =>
    bif ((!(((((decide (XZ = 0)) && (decide (ZE = ([78, 84, 83, 78] : List Int)))) && (decide (r22.2.2.2.2.2.2.2.2.2.2.2.1 = 0))) && (decide (r22.2.2.2.2.2.2.2.2.2.2.2.2.1 = 0))) && (decide (r22.2.2.2.2.2.2.2.2.2.1 = 0)))) || (vT (r22.2.2.2.2.2.2.2.2.2.2.2.2.2.length : Int))) then
    bif ((!((((((decide (XZ = 0)) && (decide (ZE = ([78, 84, 83, 78] : List Int)))) && (decide (r22.2.2.2.2.2.2.2.2.2.2.2.1 = 0))) && (decide (r22.2.2.2.2.2.2.2.2.2.2.2.2.1 = 0))) && (decide (r22.2.2.2.2.2.2.2.2.2.1 = 0))) && (decide ((r22.2.2.2.2.2.2.2.2.2.2.2.2.2.length : Int) = 1)))) || (inB 0 (r22.2.2.2.2.2.2.2.2.2.2.2.2.2.length : Int))) then
    ((bif (((((((decide (XZ = 0)) && (decide (ZE = ([78, 84, 83, 78] : List Int)))) && (decide (r22.2.2.2.2.2.2.2.2.2.2.2.1 = 0))) && (decide (r22.2.2.2.2.2.2.2.2.2.2.2.2.1 = 0))) && (decide (r22.2.2.2.2.2.2.2.2.2.1 = 0))) && (decide ((r22.2.2.2.2.2.2.2.2.2.2.2.2.2.length : Int) = 1))) && ((decide (((rd ((0 : Int), ([] : List Int)) r22.2.2.2.2.2.2.2.2.2.2.2.2.2 0).1) = 260)) && (decide (((rd ((0 : Int), ([] : List Int)) r22.2.2.2.2.2.2.2.2.2.2.2.2.2 0).2) = r4.2.1)))) then MZ.run .lim (()) else some false)).bind fun r25 =>
    some ((((((((decide (XZ = 0)) && (decide (ZE = ([78, 84, 83, 78] : List Int)))) && (decide (r22.2.2.2.2.2.2.2.2.2.2.2.1 = 0))) && (decide (r22.2.2.2.2.2.2.2.2.2.2.2.2.1 = 0))) && (decide (r22.2.2.2.2.2.2.2.2.2.1 = 0))) && (decide ((r22.2.2.2.2.2.2.2.2.2.2.2.2.2.length : Int) = 1))) && ((decide (((rd ((0 : Int), ([] : List Int)) r22.2.2.2.2.2.2.2.2.2.2.2.2.2 0).1) = 260)) && (decide (((rd ((0 : Int), ([] : List Int)) r22.2.2.2.2.2.2.2.2.2.2.2.2.2 0).2) = r4.2.1)))) && r25) else none else none
  else
   some false
theorem aaE {v : VV} {x : SV} (hsx : ND.run .lim (Rx x, Rx x, ()) = some true) (hsv : Nr.run .lim (v, v, ()) = some true) : TQ v x v (Rx x) Rw = some true := by
 unfold TQ;rw [cond_neg (show decide (Rw.1 = 1) = false from rfl), cond_neg (show decide (Rw.1 = 2) = false from rfl), cond_pos (show decide (Rw.1 = 0) = true from rfl)];refine (congrArg (afq · _) hsx).trans ?_;rw [aeE, cond_pos (show (!!true && !decide (Rw.1 = 1)) = true from rfl), hsv, aeE];refine (cond_neg (by rfl)).trans ?_;refine (cond_pos (by rfl)).trans ?_;rw [QY];rfl
theorem Zu {v w : VV} {x : SV} {o : List Int × List Int × List Int × Int × Int} (hsx : ND.run .lim (UU x, UU x, ()) = some true) : TQ v x w (UU x) (1, o) = some true := by
 unfold TQ;rw [cond_pos (show decide ((((1 : Int), o) : OT).1 = 1) = true from rfl)];refine (congrArg (afq · _) hsx).trans ?_;rw [aeE, cond_neg (show (!!true && !decide ((((1 : Int), o) : OT).1 = 1)) = false from rfl), aeE];refine (cond_neg (by rfl)).trans ?_;refine (cond_pos (by rfl)).trans ?_;rw [QY];rfl
theorem abC {v : VV} {x : SV} {u s T : List Int} {recv OE t : Int} (hsx : ND.run .lim (VQ x, VQ x, ()) = some true) (hsv : Nr.run .lim (v, v, ()) = some true) (hrd : NQ.run .lim (T, ()) = some (Si t u, 0, ())) : TQ v x v (VQ x) (2, (u, (s, (T, (recv, OE))))) = some true := by
 unfold TQ;rw [cond_neg (show decide (((2, (u, (s, (T, (recv, OE))))) : OT).1 = 1) = false from rfl), cond_pos (show decide (((2, (u, (s, (T, (recv, OE))))) : OT).1 = 2) = true from rfl)];refine (congrArg (afq · _) hsx).trans ?_;rw [aeE, cond_pos (show (!!true && !decide (((2, (u, (s, (T, (recv, OE))))) : OT).1 = 1)) = true from rfl), hsv, aeE];refine (cond_neg (by rfl)).trans ?_;refine (cond_neg (by rfl)).trans ?_;refine (congrArg (afq · _) hrd).trans ?_;rw [aeE];have hk := aaK t u;have s1 : vT ((([(260, u)] : List FF).length : Nat) : Int) = true := rfl;have i1 : inB 0 ((([(260, u)] : List FF).length : Nat) : Int) = true := rfl;have r1 : rd ((0 : Int), ([] : List Int)) [(260, u)] 0 = (260, u) := rfl;simp only [decide_true, cond_true, hk, aeE, s1, i1, r1, ae0, QY, afr, aeP];rfl
theorem YA {v : VV} {x : SV} {s : List Int} {recv OE : Int} {draws : List (List Int)} (hv : okV v) (hb : vB v) (hx : SOk x) (hr : RB x.1) (hs : Bs s) (hl : s.length < 9223372036854775808) (hd : draws.length < 9223372036854775808) (hdn : ∀ d ∈ draws, d.length < NM) :
  Ov.run .lim (v, x, s, recv, OE, draws, ()) = some true := by
 obtain ⟨l, _, hg⟩ := abr hv hx hl hd;simp only [Ov.run, hg, aeE];cases hG : ((((l && Po v) && UC x) && decide ((s.length : Int) <= 4000)) && decide ((draws.length : Int) <= 40)) with
 | false => rw [cond_pos (show (!false) = true from rfl), QY]; rfl
 | true =>
  simp only [aeO, decide_eq_true_eq] at hG;obtain ⟨⟨⟨⟨_, hf⟩, hfx⟩, h4⟩, h40⟩ := hG;have hR : VN x.1 = true := by unfold UC at hfx; simp only [aeO] at hfx; exact hfx.1.1.1.1
  have ro := abJ hR hr;have h8 := ro.len.2;rw [cond_neg (show (!true) = false from rfl), Yr hv hf hb ro hs hl (by omega) hdn, aeE];have hsv := ZK v v hv hv;rw [MQ rfl] at hsv;have hlen : ∀ y : SV, y.1 = x.1 -> y.1.1.length < 4611686018427387904 := fun y hy => by rw [hy]; omega
  rcases Ws v x s recv OE draws with e | ⟨h0, e⟩ | ⟨w, o, e⟩
  ·have hsx := (SN (x := Rx x) (y := Rx x) (hlen _ rfl) (hlen _ rfl)).2;rw [RG] at hsx;rw [e];exact aaE hsx hsv
  ·have hsx := (SN (x := VQ x) (y := VQ x) (hlen _ rfl) (hlen _ rfl)).2;rw [RG] at hsx;obtain ⟨b1, b2⟩ := Zt hs h0;have hq := Ye hs h0;have hTl : (UE (Si (Ou s).2.2.2.2.2.2.2.2.2.2.2.2.1 (hU s)) ++ Nk [(260, hU s)]).length < 9223372036854775808 := by
    have := hq.ul;rw [aeG, S9, QM, PW]; show 48 + (4 + (OW (Pz (Ou s).fs) 260).1.length) < _; omega
   have hTB : Bs (UE (Si (Ou s).2.2.2.2.2.2.2.2.2.2.2.2.1 (hU s)) ++ Nk [(260, hU s)]) := (aa1 _).app (XM fun f hf => by rw [aeN.1 hf]; exact hq.u.b);have hrd := ZJ hTB hTl;rw [b1, b2] at hrd;rw [e];exact abC hsx hsv hrd
  ·have hsx := (SN (x := UU x) (y := UU x) (hlen _ rfl) (hlen _ rfl)).2;rw [RG] at hsx;rw [e];exact Zu hsx
theorem abI {r : RR} (h : Ty.ok (.pair (.lst (.pair (.int .u32) (.pair .str (.int .i64)))) (.int .u32)) r) : RB r := by
 obtain ⟨⟨h1, h2⟩, _⟩ := h;exact ⟨UF h1, fun k hk => ⟨UF (h2 k hk).2.1.1, (h2 k hk).2.1.2⟩⟩
theorem VZ : ∀ x, oks [.ag QV, .ag U1, .one .str, .one (.int .u64), .one (.int .u64), .one (.lst .str)] x -> Ov.run .lim x = some true := by
 intro x h
 match x with
 | (v, x, s, recv, OE, draws, ()) =>
  obtain ⟨h1, h2, h3, h4, h5, h6, _⟩ := h;exact YA (ac9 h1) (v_B h1) (acM h2.1.1) (abI h2.1) h3.2 (UF h3.1) (UF h6.1) (fun d hd => Ot (UF (h6.2 d hd).1))
end Go.AM
end
