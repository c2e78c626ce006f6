import Derived.Test.YtojkjnphgamoeaaGreatDoorPart1

/-! The functions that the laws of this seat reach, as plain functions, and what these answer; no condition. -/
set_option linter.unusedSimpArgs false
set_option linter.unusedVariables false
set_option linter.unusedSectionVars false

open BitVec renaming ofInt->acS,toNat_ofInt->adk
open Bool renaming not_true->acC,not_false->acK,or_true->acL,and_self->acQ,and_eq_true->acT,and_false->acV,false_and->acW,true_and->ac4,true_or->ac8,false_or->ade,not_eq_true'->adf,or_eq_false_iff->adg,or_eq_true->adl,or_false->adt,or_self->ady,and_true->adC,eq_iff_iff->adJ,not_not->adK,not_eq_false'->adX
open Go.IntKind renaming i64->acw,u8->acy,u64->acH,u32->acO,signed->ad7,bits->ad9,wrap->ad_,i32->aef,i8->aeh
open Int renaming toNat_natCast->acA,tmod_eq_emod_of_nonneg->acF,natCast_nonneg->acI,tdiv_eq_ediv_of_nonneg->acM,le_refl->acP,eq_ofNat_of_zero_le->ac1,toNat_of_nonneg->ac9,pow_succ->aea,sub_zero->aeb
open List renaming replicate->acz,length_append->acB,length_drop->acD,take_of_length_le->acE,length_take->acG,range->acJ,take_length->acN,append_assoc->acU,drop_zero->acX,mem_range->acY,mem_of_mem_take->ac0,getD_eq_getElem?_getD->ac2,not_mem_nil->ac3,mem_singleton->ac5,take_append_drop->ac6,drop_eq_getElem_cons->ac7,mem_cons->ac_,take_append_of_le_length->ada,mem_append->adb,mem_of_mem_drop->adh,length_cons->adi,length_eq_zero_iff->adn,map_append->ado,range_succ->adp,drop_append_of_le_length->adq,find?_some->adu,nil_append->adv,mem_of_find?_eq_some->adz,take_take->adA,getElem?_take_of_lt->adB,filter_cons_of_neg->adD,filter_cons_of_pos->adE,map_cons->adF,drop_of_length_le->adI,foldl_cons->adL,length_replicate->adM,length_set->adN,map_nil->adO,mem_map->adP,set_set->adQ,foldl_nil->adT,take_zero->adU,flatten_append->adV,replicate_zero->adW,filter_append->adY,find?_eq_none->adZ,getElem?_drop->ad1,mem_replicate->ad2,filter_cons->ad4,length_nil->ad5,mem_filter->ad6,drop_left->ad8,length->aeg
open Nat renaming le_refl->acR,lt_of_le_of_lt->acZ,pow_le_pow_right->ads,ble->adw,min_eq_left->adx,mul_div_cancel_left->adG,le_add_right->adH,le_add_left->adR,sub_zero->adS,lt_of_lt_of_le->ad3,add_zero->aec,le_of_eq->aed,sub_self->aee
open Option renaming bind_some->acv,bind_none->adr
section
namespace Go.AM
def Zt : Nat -> Int -> Int -> Int -> Int
 | 0, _, _, r => r
 | n + 1, a, b, r => Zt n (bif decide (I8 .u8 a 128 = 0) then I9 .u8 a 1 else Hy .u8 (I9 .u8 a 1) 27) (I_ .u8 b 1) (bif decide (I8 .u8 b 1 = 1) then Hy .u8 r a else r)
def tm (a b : Int) : Int := Zt 8 a b 0
theorem YT : ∀ n a b r, B8 r -> B8 (Zt n a b r)
 | 0, _, _, _, h => h
 | n + 1, a, b, r, h => YT n _ _ _ (by cases decide (I8 .u8 b 1 = 1) <;> first | exact h | exact RG _ _)
theorem YA (a b : Int) : B8 (tm a b) := YT 8 a b 0 ⟨by decide, by decide⟩
theorem Ux : ∀ n a r, Zt n a 0 r = r
 | 0, _, _ => rfl
 | n + 1, a, r => by
  rw [Zt, show I_ .u8 0 1 = 0 from by decide, Ux n];rfl
theorem step_a {a : Int} (h : B8 a) : Hy .u8 (I9 .u8 a 1) (acy.wrap (I_ .u8 a 7 * 27)) = bif decide (I8 .u8 a 128 = 0) then I9 .u8 a 1 else Hy .u8 (I9 .u8 a 1) 27 :=
 Ov (p := fun a => Hy .u8 (I9 .u8 a 1) (acy.wrap (I_ .u8 a 7 * 27)) = bif decide (I8 .u8 a 128 = 0) then I9 .u8 a 1 else Hy .u8 (I9 .u8 a 1) 27) (by decide +kernel) h
theorem ZY {b : Int} (h : B8 b) : I8 .u8 b 1 = 0 \/ I8 .u8 b 1 = 1 :=
 Ov (p := fun b => I8 .u8 b 1 = 0 \/ I8 .u8 b 1 = 1) (by decide +kernel) h
theorem Zq {a : Int} : B8 (bif decide (I8 .u8 a 128 = 0) then I9 .u8 a 1 else Hy .u8 (I9 .u8 a 1) 27) := by
 cases decide (I8 .u8 a 128 = 0)
 ·exact RG _ _
 ·exact Vr _ _
theorem Pn {a b : Int} (ha : B8 a) (hb : B8 b) : NH.run .lim (a, b, ()) = some (tm a b) := by
 have key : ∀ (n : Nat) (a b r : Int), B8 a -> B8 r -> 0 <= b -> b < 2 ^ n -> n <= 8 -> NH.l0 .lim (a, b, r, ()) = some (Zt n a b r, ()) := by
  intro n
  induction n with
  | zero =>
   intro a b r ha hr h0 h1 _;obtain rfl : b = 0 := by simp at h1; omega
   rw [NH.q0];simp (disch := omega) only [Nk, MZ, Nq, wrap64, MR, MS, dec_not, dec_and, OL, Oh, cond_true, cond_false, acv, adr, acL, ac8, adC, ac4, acV, acW, adt, ade, acC, acK, ady, acQ, adK, if_true, if_false, and_self, true_and, and_true, and_false, false_and, or_true, true_or, or_false, false_or, not_true_eq_false, not_false_eq_true, decide_true, decide_false, eq_self, if_pos, if_neg, P6, OU, NH.b0];rfl
  | succ n ih =>
   intro a b r ha hr h0 h1 hn;have hb : B8 b := by
    refine ⟨h0, Int.lt_of_lt_of_le h1 ?_⟩;have h2 : (2 : Int) ^ (n + 1) = ((2 ^ (n + 1) : Nat) : Int) := by simp
    have h3 : 2 ^ (n + 1) <= 2 ^ 8 := ads (by omega) hn;rw [h2]; omega
   rw [NH.q0];by_cases hz : b = 0
   ·subst hz;rw [Ux];simp (disch := omega) only [Nk, MZ, Nq, wrap64, MR, MS, dec_not, dec_and, OL, Oh, cond_true, cond_false, acv, adr, acL, ac8, adC, ac4, acV, acW, adt, ade, acC, acK, ady, acQ, adK, if_true, if_false, and_self, true_and, and_true, and_false, false_and, or_true, true_or, or_false, false_or, not_true_eq_false, not_false_eq_true, decide_true, decide_false, eq_self, if_pos, if_neg, P6, OU, NH.b0]
   ·have hs : I_ .u8 b 1 = b / 2 := by rw [Zo]; rfl
    have hm : acy.wrap (a * I8 .u8 b 1) = bif decide (I8 .u8 b 1 = 1) then a else 0 := by
     rcases ZY hb with e | e
     ·rw [e]; simp; decide
     ·rw [e, Int.mul_one, Qb ha]; rfl
    have hx : Hy .u8 r (bif decide (I8 .u8 b 1 = 1) then a else 0) = bif decide (I8 .u8 b 1 = 1) then Hy .u8 r a else r := by
     cases decide (I8 .u8 b 1 = 1)
     ·exact xor_zero hr
     ·rfl
    have hr' : B8 (bif decide (I8 .u8 b 1 = 1) then Hy .u8 r a else r) := by
     cases decide (I8 .u8 b 1 = 1)
     ·exact hr
     ·exact RG _ _
    have h2 := ih _ (I_ .u8 b 1) _ (@Zq a) hr' (by rw [hs]; omega) (by rw [hs, aea] at *; omega) (by omega);simp only [NH.b0, MR (show b > 0 by omega), cond_true, step_a ha, hm, hx];rw [h2, Zt]
 have := key 8 a b 0 ha ⟨by decide, by decide⟩ hb.1 hb.2 (by omega);simp only [NH.run, this, acv];rfl
def invS : Nat -> Int -> Int -> Int
 | 0, r, _ => r
 | n + 1, r, s => invS n (tm r (tm s s)) (tm s s)
def Yo (b n : Int) : Int := KO .u8 (I9 .u8 b n) (I_ .u8 b (8 - n))
def aax (b : Int) : Int := Hy .u8 (Hy .u8 (Hy .u8 (Hy .u8 (Hy .u8 (invS 7 1 b) (Yo (invS 7 1 b) 1)) (Yo (invS 7 1 b) 2)) (Yo (invS 7 1 b) 3)) (Yo (invS 7 1 b) 4)) 99
theorem UQ {b : Int} (hb : B8 b) : NZ.run .lim (b, ()) = some (invS 7 1 b) := by
 have key : ∀ (n i : Nat) (r s : Int), i + n = 7 -> B8 r -> B8 s -> NZ.l0 .lim (r, s, (i : Int), ()) = some (invS n r s, ()) := by
  intro n
  induction n with
  | zero =>
   intro i r s h _ _;rw [NZ.q0];simp (disch := omega) only [Nk, MZ, Nq, wrap64, MR, MS, dec_not, dec_and, OL, Oh, cond_true, cond_false, acv, adr, acL, ac8, adC, ac4, acV, acW, adt, ade, acC, acK, ady, acQ, adK, if_true, if_false, and_self, true_and, and_true, and_false, false_and, or_true, true_or, or_false, false_or, not_true_eq_false, not_false_eq_true, decide_true, decide_false, eq_self, if_pos, if_neg, P6, OU, NZ.b0];rfl
  | succ n ih =>
   intro i r s h hr hs;rw [NZ.q0];simp only [NZ.b0, PN i (by omega), MR (show (i : Int) < 7 by omega), cond_true, Pn hs hs, acv, Pn hr (YA s s), ih (i + 1) _ _ (by omega) (YA _ _) (YA _ _)];rfl
 have := key 7 0 1 b rfl ⟨by decide, by decide⟩ hb;rw [show ((0 : Nat) : Int) = 0 from rfl] at this;simp only [NZ.run, this, acv]
theorem Y4 {b : Int} (hb : B8 b) : PS.run .lim (b, ()) = some (aax b) := by
 simp only [PS.run, UQ hb, acv];have w : ∀ n : Int, Py.run .lim (invS 7 1 b, n, ()) = bif decide (0 <= n) then (bif decide (0 <= acw.wrap (8 - n)) then some (KO .u8 (I9 .u8 (invS 7 1 b) n) (I_ .u8 (invS 7 1 b) (acw.wrap (8 - n)))) else none) else none := fun n => rfl
 rw [w, w, w, w];rfl
def Td (b : Int) : Int := aax b
theorem U_ {b : Int} (hb : B8 b) : PS.run .lim (b, ()) = some (Td b) := Y4 hb
theorem Vp {b : Int} (hb : B8 b) : B8 (Td b) := RG _ _
end Go.AM
end
section
namespace Go.AM
abbrev z4 : List Int := acz 4 0
abbrev TL : List Int := acz 16 0
abbrev NC : List Int := acz 256 0
abbrev kL : List Int := [1, 2, 3, 9, 11, 13, 14]
theorem YJ : ∀ k : Nat, k < 7 -> 0 <= rd 0 kL (k : Int) /\ rd 0 kL (k : Int) < 16 := by decide
def Ns (k : Nat) : List (List Int) :=
 let t := fun j : Int => Rq 256 k fun i => tm (i : Int) j
 [NC, t 1, t 2, t 3, NC, NC, NC, NC, NC, t 9, NC, t 11, NC, t 13, t 14, NC]
def RF (i : Nat) (yb : List (List Int)) : Nat -> List (List Int)
 | 0 => yb
 | k + 1 => (RF i yb k).set (rd 0 kL (k : Int)).toNat ((rd NC (RF i yb k) (rd 0 kL (k : Int))).set i (tm (i : Int) (rd 0 kL (k : Int))))
theorem Vo (k : Nat) : RF k (Ns k) 7 = Ns (k + 1) := by
 have e : RF k (Ns k) 7 = (
  let t := fun j : Int => (Rq 256 k fun i => tm (i : Int) j).set k (tm (k : Int) j)
  [NC, t 1, t 2, t 3, NC, NC, NC, NC, NC, t 9, NC, t 11, NC, t 13, t 14, NC]) := rfl
 have h : ∀ j : Int, (Rq 256 k fun i => tm (i : Int) j).set k (tm (k : Int) j) = Rq 256 (k + 1) fun i => tm (i : Int) j := fun j => S_ rfl
 rw [e];simp only [h];rfl
theorem SN : Ns 0 = acz 16 NC := by
 unfold Ns;simp only [Rt];rfl
noncomputable def Rf : Nat -> List Int
 | 0 => NC
 | k + 1 => (Rf k).set (Td (k : Int)).toNat (k : Int)
noncomputable def OY (k : Nat) : List Int := Rq 256 k fun i => Td (i : Int)
theorem PX {x : Int} (h : B8 x) : rd 0 (OY 256) x = Td x := by
 unfold OY;rw [Uw, Vk h.1 (by exact h.2), show ((x.toNat : Nat) : Int) = x by have := h.1; omega]
theorem PU {x : Int} (h : B8 x) : rd 0 (rd NC (Ns 256) 1) x = tm x 1 /\ rd 0 (rd NC (Ns 256) 2) x = tm x 2 /\ rd 0 (rd NC (Ns 256) 3) x = tm x 3 := by
 have e : ∀ j : Int, rd 0 (Rq 256 256 fun i => tm (i : Int) j) x = tm x j := fun j => by rw [Uw, Vk h.1 (by exact h.2), show ((x.toNat : Nat) : Int) = x by have := h.1; omega]
 exact ⟨e 1, e 2, e 3⟩
def word (key : List Int) (j : Nat) : List Int := [rd 0 key ((4 * j : Nat) : Int), rd 0 key ((4 * j + 1 : Nat) : Int), rd 0 key ((4 * j + 2 : Nat) : Int), rd 0 key ((4 * j + 3 : Nat) : Int)]
theorem Z5 {m : List Int} {k : Nat} (h : k + 4 <= m.length) : (m.drop k).take 4 = [rd 0 m (k : Int), rd 0 m ((k + 1 : Nat) : Int), rd 0 m ((k + 2 : Nat) : Int), rd 0 m ((k + 3 : Nat) : Int)] := by
 rw [PI (show k < m.length by omega), PI (show k + 1 < m.length by omega), PI (show k + 2 < m.length by omega), PI (show k + 3 < m.length by omega)];rw [ac7 (show k < m.length by omega), ac7 (show k + 1 < m.length by omega), ac7 (show k + 2 < m.length by omega), ac7 (show k + 3 < m.length by omega)];rfl
theorem Qn {α : Type} (m : List α) (a b : Nat) : cut m (a : Int) (b : Int) = (m.drop a).take (b - a) := by unfold cut; rw [acA, acA, List.drop_take]
theorem Ub {key : List Int} {j : Nat} (h : 4 * j + 4 <= key.length) : (cut key ((4 * j : Nat) : Int) ((4 * j + 4 : Nat) : Int)).take 4 = word key j := by
 rw [Qn, show 4 * j + 4 - 4 * j = 4 by omega, adA, Nat.min_self, Z5 h];rfl
def Words (W : List (List Int)) : Prop := ∀ w ∈ W, w.length = 4 /\ ∀ x ∈ w, B8 x
theorem Words.at {W : List (List Int)} (h : Words W) {i : Nat} (hi : i < W.length) : (rd z4 W (i : Int)).length = 4 /\ ∀ x ∈ rd z4 W (i : Int), B8 x := h _ (NY (by omega) (by omega))
theorem Words.byte {W : List (List Int)} (h : Words W) {i : Nat} (hi : i < W.length) {j : Int} (h0 : 0 <= j) (hj : j < 4) : B8 (rd 0 (rd z4 W (i : Int)) j) := by
 have := h.at hi;exact this.2 _ (NY h0 (by omega))
noncomputable def Xw (nk : Nat) (i : Nat) (x : Int) (t : List Int) : List Int :=
 if i % nk = 0 then [Hy .u8 (Td (rd 0 t 1)) x, Td (rd 0 t 2), Td (rd 0 t 3), Td (rd 0 t 0)]
 else if nk = 8 /\ i % 8 = 4 then [Td (rd 0 t 0), Td (rd 0 t 1), Td (rd 0 t 2), Td (rd 0 t 3)]
 else [rd 0 t 0, rd 0 t 1, rd 0 t 2, rd 0 t 3]
def VZ (t w : List Int) : List Int := [Hy .u8 (rd 0 t 0) (rd 0 w 0), Hy .u8 (rd 0 t 1) (rd 0 w 1), Hy .u8 (rd 0 t 2) (rd 0 w 2), Hy .u8 (rd 0 t 3) (rd 0 w 3)]
noncomputable def stepW (nk : Nat) (s : List (List Int) × Int) : List (List Int) × Int :=
 (s.1 ++ [VZ (Xw nk s.1.length s.2 (rd z4 s.1 ((s.1.length - 1 : Nat) : Int))) (rd z4 s.1 ((s.1.length - nk : Nat) : Int))], if s.1.length % nk = 0 then tm s.2 2 else s.2)
noncomputable def sched (nk : Nat) (key : List Int) : Nat -> List (List Int) × Int
 | 0 => ((acJ nk).map (word key), 1)
 | k + 1 => stepW nk (sched nk key k)
theorem QC (nk : Nat) (key : List Int) : ∀ k, (sched nk key k).1.length = nk + k
 | 0 => by simp [sched]
 | k + 1 => by rw [sched, stepW, acB, QC nk key k]; rfl
theorem YF (t w : List Int) : (VZ t w).length = 4 /\ ∀ x ∈ VZ t w, B8 x := by
 refine ⟨rfl, fun x hx => ?_⟩;simp only [VZ, ac_, ac3, or_false] at hx;rcases hx with rfl | rfl | rfl | rfl <;> exact RG _ _
theorem QX (nk : Nat) (key : List Int) (hk : 4 * nk <= key.length) (hb : ∀ x ∈ key, B8 x) : ∀ k, Words (sched nk key k).1 /\ B8 (sched nk key k).2
 | 0 => by
  refine ⟨fun w hw => ?_, show B8 1 from ⟨by decide, by decide⟩⟩;obtain ⟨j, hj, rfl⟩ := adP.1 hw;have hj := acY.1 hj;refine ⟨rfl, fun x hx => ?_⟩;simp only [word, ac_, ac3, or_false] at hx;rcases hx with rfl | rfl | rfl | rfl <;> exact hb _ (NY (by omega) (by omega))
 | k + 1 => by
  obtain ⟨h1, h2⟩ := QX nk key hk hb k;refine ⟨fun w hw => ?_, ?_⟩
  ·rcases adb.1 hw with hw | hw
   ·exact h1 w hw
   ·rw [ac5.1 hw]; exact YF _ _
  ·show B8 (if _ then tm _ 2 else _);split
   ·exact YA _ _
   ·exact h2
noncomputable def OJ (key : List Int) : List (List Int) := (sched (key.length / 4) key (3 * (key.length / 4) + 28)).1
theorem Qq (key : List Int) : (OJ key).length = 4 * (key.length / 4) + 28 := by unfold OJ; rw [QC]; omega
theorem QO (key : List Int) (hb : ∀ x ∈ key, B8 x) : Words (OJ key) := (QX _ key (by omega) hb _).1
def Qg (W : List (List Int)) (j : Nat) : List Int := rd z4 W ((4 * j : Nat) : Int) ++ (rd z4 W ((4 * j + 1 : Nat) : Int) ++ (rd z4 W ((4 * j + 2 : Nat) : Int) ++ rd z4 W ((4 * j + 3 : Nat) : Int)))
def NU (W : List (List Int)) : List (List Int) := (acJ (W.length / 4)).map (Qg W)
theorem Um {W : List (List Int)} (h : Words W) {j : Nat} (hj : 4 * j + 3 < W.length) : (Qg W j).length = 16 := by
 unfold Qg;simp only [acB, (h.at (show 4 * j < W.length by omega)).1, (h.at (show 4 * j + 1 < W.length by omega)).1, (h.at (show 4 * j + 2 < W.length by omega)).1, (h.at hj).1]
noncomputable def Qx (b : List Int) : List Int := tab 16 fun i => Td (rd 0 b (((i + 4 * (i % 4)) % 16 : Nat) : Int))
def QM (b : List Int) : List Int := tab 16 fun i =>
 Hy .u8 (Hy .u8 (Hy .u8 (Hy .u8 0 (tm (rd 0 b ((i / 4 * 4 + i % 4 : Nat) : Int)) 2)) (tm (rd 0 b ((i / 4 * 4 + (i + 1) % 4 : Nat) : Int)) 3)) (tm (rd 0 b ((i / 4 * 4 + (i + 2) % 4 : Nat) : Int)) 1)) (tm (rd 0 b ((i / 4 * 4 + (i + 3) % 4 : Nat) : Int)) 1)
def QW (b k : List Int) : List Int := tab 16 fun i => Hy .u8 (rd 0 b (i : Int)) (rd 0 k (i : Int))
noncomputable def Xn (last : Bool) (b k : List Int) : List Int := QW (bif last then Qx b else QM (Qx b)) k
noncomputable def Qu (W : List (List Int)) (b : List Int) : Nat -> List Int
 | 0 => QW b (Qg W 0)
 | j + 1 => Xn (decide (j + 2 = W.length / 4)) (Qu W b j) (Qg W (j + 1))
noncomputable def encS (key b : List Int) : List Int := Qu (OJ key) b ((OJ key).length / 4 - 1)
def Sj (b : List Int) : Prop := b.length = 16 /\ ∀ x ∈ b, B8 x
theorem TI {n : Nat} {g : Nat -> Int} (h : ∀ k, k < n -> B8 (g k)) : ∀ x ∈ tab n g, B8 x := by
 intro x hx;obtain ⟨i, hi, rfl⟩ := adP.1 hx;exact h i (acY.1 hi)
theorem Uk (b k : List Int) : Sj (QW b k) := ⟨Ou, TI fun _ _ => RG _ _⟩
theorem TQ (W : List (List Int)) (b : List Int) : ∀ j, Sj (Qu W b j)
 | 0 => Uk _ _
 | _ + 1 => Uk _ _
theorem Qe (key b : List Int) : Sj (encS key b) := TQ _ _ _
theorem Sj.at {b : List Int} (h : Sj b) {i : Nat} (hi : i < 16) : B8 (rd 0 b (i : Int)) := h.2 _ (NY (by omega) (by rw [h.1]; omega))
end Go.AM
end
section
namespace Go.AM
end Go.AM
end
section
namespace Go.AM
section
variable {ok : Bool} {n dn mu sm four nk x i t t1 t2 tp tq : Int} {key b tw ta out K was kb T sb bk : List Int} {yb W rn : List (List Int)} {last : Bool}
theorem ZL (i : Nat) (hi : i < 256) : MP.l0 .lim ((i : Int), t, 7, 0, ok, key, dn, mu, sm, sb, bk, yb, kL, b, tw, ()) = some (t, ok, key, dn, mu, sm, sb, bk, RF i yb 7, b, tw, ()) := by
 have e := NP (f := MP.l0 .lim) (fun k => ((i : Int), t, 7, (k : Int), ok, key, dn, mu, sm, sb, bk, RF i yb k, kL, b, tw, ())) (n := 7) (fun k hk => by
  rw [MP.q0];obtain ⟨h1, h2⟩ := YJ k hk;have hB : B8 (rd 0 kL (k : Int)) := ⟨h1, by omega⟩;have VB : B8 (i : Int) := ⟨by omega, by omega⟩;simp only [MP.b0, MR (show (k : Int) < 7 by omega), MZ (show (0 : Int) <= k by omega) (show (k : Int) < (kL.length : Int) from show (k : Int) < 7 by omega), Qb VB, Pn VB hB, acv, MZ h1 (show rd 0 kL (k : Int) < 16 from h2), MZ (show (0 : Int) <= i by omega) (show (i : Int) < 256 by omega), cond_true, PN k (by omega), acA];rfl)
 refine e.trans ?_;rw [MP.q0];simp only [MP.b0, MS (show ¬ ((7 : Nat) : Int) < 7 by decide), cond_false]
theorem Ws : MP.l1 .lim (0, ok, key, dn, mu, sm, NC, NC, acz 16 NC, b, tw, ()) = some (ok, key, dn, mu, sm, OY 256, Rf 256, Ns 256, b, tw, ()) := by
 have e := NP (f := MP.l1 .lim) (fun k => ((k : Int), ok, key, dn, mu, sm, OY k, Rf k, Ns k, b, tw, ())) (n := 256) (fun k hk => by
  rw [MP.q1];have VB : B8 (k : Int) := ⟨by omega, by omega⟩;have hs := Vp VB;have hm := fun sb bk => ZL (ok := ok) (key := key) (dn := dn) (mu := mu) (sm := sm) (sb := sb) (bk := bk) (yb := Ns k) (b := b) (tw := tw) (t := (k : Int))  k hk
  simp only [MP.b1, MR (show (k : Int) < 256 by omega), Qb VB, U_ VB, acv, MZ (show (0 : Int) <= k by omega) (show (k : Int) < 256 by omega), MZ hs.1 hs.2, cond_true, show ((([1, 2, 3, 9, 11, 13, 14] : List Int).length : Nat) : Int) = 7 from rfl, Nk (show (7 : Int) < 9223372036854775808 by omega), hm, PN k (by omega), Vo];rw [show (OY k).set ((k : Int)).toNat (Td k) = OY (k + 1) from S_ rfl];rfl)
 rw [show OY 0 = NC from Rt, SN, show Rf 0 = NC from rfl, show ((0 : Nat) : Int) = 0 from rfl] at e;refine e.trans ?_;rw [MP.q1];simp only [MP.b1, MS (show ¬ ((256 : Nat) : Int) < 256 by decide), cond_false]
theorem XQ {q : Nat} (hk : kb.length = 4 * q) (hq : q <= 100) : MP.l2 .lim (0, nk, ok, 4, key, dn, mu, sm, sb, bk, yb, b, tw, kb, [], ()) = some (nk, ok, key, dn, mu, sm, sb, bk, yb, b, tw, (acJ q).map (word kb), ()) := by
 have e := NP (f := MP.l2 .lim) (fun k => (((4 * k : Nat) : Int), nk, ok, 4, key, dn, mu, sm, sb, bk, yb, b, tw, kb, (acJ k).map (word kb), ())) (n := q) (fun k hkq => by
  rw [MP.q2];have w1 : acw.wrap (((4 * k : Nat) : Int) + 4) = ((4 * k + 4 : Nat) : Int) := by rw [wrap64 (by omega) (by omega)]; omega
  have w2 : mn 4 ((kb.length : Int) - ((4 * k : Nat) : Int)) = 4 := by rw [OU]; omega
  have w3 : (cut kb ((4 * k : Nat) : Int) ((4 * k + 4 : Nat) : Int)).length = 4 := by rw [Qn, acG, acD]; omega
  have w4 : (adw 1 4 && adw 4 (cut kb ((4 * k : Nat) : Int) ((4 * k + 4 : Nat) : Int)).length) = true := by rw [w3]; rfl
  simp only [MP.b2, Nk (show (kb.length : Int) < 9223372036854775808 by omega), MR (show ((4 * k : Nat) : Int) < (kb.length : Int) by omega), Nq (show (0 : Int) <= ((4 * k : Nat) : Int) by omega) (show ((4 * k : Nat) : Int) <= (kb.length : Int) by omega) (acP _), Nk (show (kb.length : Int) - ((4 * k : Nat) : Int) < 9223372036854775808 by omega), w2, w1, Nq (show (0 : Int) <= ((4 * k : Nat) : Int) by omega) (show ((4 * k : Nat) : Int) <= ((4 * k + 4 : Nat) : Int) by omega) (acP _), MR (show ((4 * k + 4 : Nat) : Int) <= (kb.length : Int) by omega), acQ, w4, cond_true];rw [cond_pos (by simp; omega), Ub (by omega)];simp only [adp, ado, adF, adO];rfl)
 refine e.trans ?_;rw [MP.q2];simp only [MP.b2, Nk (show (kb.length : Int) < 9223372036854775808 by omega), MS (show ¬ ((4 * q : Nat) : Int) < (kb.length : Int) by omega), cond_true, cond_false]
theorem ZM (hW : Words W) {i nk : Nat} (h1 : nk <= i) (h2 : i <= W.length) (h3 : 0 < nk) (h4 : i < 1000) (hT : T.length = 4) : MP.l3 .lim ((nk : Int), x, (i : Int), 0, ok, T, key, dn, mu, sm, sb, bk, yb, b, tw, W, ()) = some ((nk : Int), x, (i : Int), ok, VZ T (rd z4 W ((i - nk : Nat) : Int)), key, dn, mu, sm, sb, bk, yb, b, tw, W, ()) := by
 have w : acw.wrap ((i : Int) - (nk : Int)) = ((i - nk : Nat) : Int) := by rw [wrap64 (by omega) (by omega)]; omega
 have e := Oi (f := MP.l3 .lim) (fun k T => ((nk : Int), x, (i : Int), (k : Int), ok, T, key, dn, mu, sm, sb, bk, yb, b, tw, W, ())) (fun k v => Hy .u8 v (rd 0 (rd z4 W ((i - nk : Nat) : Int)) (k : Int))) T hT (fun k hk m' hm hj => by
  rw [MP.q3];simp only [MP.b3, MR (show (k : Int) < 4 by omega), MZ (show (0 : Int) <= k by omega) (show (k : Int) < 4 by omega), w, MZ (show (0 : Int) <= ((i - nk : Nat) : Int) by omega) (show ((i - nk : Nat) : Int) < (W.length : Int) by omega), cond_true, PN k (by omega), hj k (acR _), acA])
 refine e.trans ?_;rw [MP.q3];simp only [MP.b3, MS (show ¬ ((4 : Nat) : Int) < 4 by decide), cond_false];rfl
end
end Go.AM
end
section
namespace Go.AM
section
variable {ok : Bool} {n dn mu sm four x i t t1 t2 tp tq : Int} {key b tw ta out K was kb T sb bk : List Int} {yb W rn : List (List Int)} {last : Bool}
theorem YW (a b c d : Int) : ((((acz 4 (0 : Int)).set 0 a).set 1 b).set 2 c).set 3 d = [a, b, c, d] := rfl
theorem XR {nk : Nat} (hn : nk = 4 \/ nk = 8) (hk : 4 * nk <= kb.length) (hb : ∀ x ∈ kb, B8 x) :
  MP.l4 .lim ((nk : Int), 1, (nk : Int), ok, key, dn, mu, sm, OY 256, bk, yb, b, tw, (acJ nk).map (word kb), ()) = some (ok, key, dn, mu, sm, OY 256, bk, yb, b, tw, (sched nk kb (3 * nk + 28)).1, ()) := by
 have e := NP (f := MP.l4 .lim) (fun k => ((nk : Int), (sched nk kb k).2, ((nk + k : Nat) : Int), ok, key, dn, mu, sm, OY 256, bk, yb, b, tw, (sched nk kb k).1, ())) (n := 3 * nk + 28) (fun k hkq => by
  rw [MP.q4];obtain ⟨hW, hx⟩ := QX nk kb hk hb k;have hl := QC nk kb k;have hs : sched nk kb (k + 1) = stepW nk (sched nk kb k) := rfl;rw [hs];unfold stepW;generalize hq : sched nk kb k = q at hW hx hl;obtain ⟨W, x⟩ := q;simp only at hW hx hl ⊢
  have hi0 : nk + k < 1000 := by omega
  generalize hi : nk + k = i at hl hi0;have hw := hW.at (show i - 1 < W.length by omega);have hb0 := hW.byte (show i - 1 < W.length by omega) (j := 0) (by omega) (by omega);have hb1 := hW.byte (show i - 1 < W.length by omega) (j := 1) (by omega) (by omega);have hb2 := hW.byte (show i - 1 < W.length by omega) (j := 2) (by omega) (by omega);have hb3 := hW.byte (show i - 1 < W.length by omega) (j := 3) (by omega) (by omega);have w1 : acw.wrap (4 * acw.wrap ((nk : Int) + 7)) = ((4 * nk + 28 : Nat) : Int) := by rw [wrap64 (n := (nk : Int) + 7) (by omega) (by omega), wrap64 (by omega) (by omega)]; omega
  have w2 : acw.wrap ((i : Int) - 1) = ((i - 1 : Nat) : Int) := by rw [wrap64 (by omega) (by omega)]; omega
  have m1 : ((i : Int)).tmod (nk : Int) = ((i % nk : Nat) : Int) := by rw [acF (acI i)]; simp
  have m2 : ((i : Int)).tmod 8 = ((i % 8 : Nat) : Int) := by rw [acF (acI i)]; simp
  have UO := fun x T hT => ZM (ok := ok) (key := key) (dn := dn) (mu := mu) (sm := sm) (sb := OY 256) (bk := bk) (yb := yb) (b := b) (tw := tw) (x := x) (T := T)  hW (i := i) (nk := nk) (by omega) (by omega) (by omega) (by omega) hT
  have cap : ∀ T : List Int, decide (W.length + ([T] : List (List Int)).length < 17592186044416) = true := fun T => MR (by simp; omega)
  simp only [MP.b4, w1, MR (show (i : Int) < ((4 * nk + 28 : Nat) : Int) by omega), w2, MZ (show (0 : Int) <= ((i - 1 : Nat) : Int) by omega) (show ((i - 1 : Nat) : Int) < (W.length : Int) by omega), MS (show ¬ (nk : Int) = 0 by omega), m1, m2, cond_true, acK, MZ hb0.1 hb0.2, MZ hb1.1 hb1.2, MZ hb2.1 hb2.2, MZ hb3.1 hb3.2, PX hb0, PX hb1, PX hb2, PX hb3, YW, acL];rw [hl];unfold Xw;by_cases c1 : i % nk = 0
  ·rw [MR (show ((i % nk : Nat) : Int) = 0 by omega), if_pos c1, if_pos c1];simp only [cond_true, Pn hx (show B8 2 from ⟨by decide, by decide⟩), acv];rw [UO _ _ rfl];simp only [acv];rw [cond_pos (by simp; omega), PN i (by omega)];rw [show i + 1 = nk + (k + 1) by omega]
  ·rw [MS (show ¬ ((i % nk : Nat) : Int) = 0 by omega), if_neg c1, if_neg c1];simp only [cond_false];by_cases c2 : nk = 8 /\ i % 8 = 4
   ·rw [MR (show (nk : Int) = 8 by omega), MR (show ((i % 8 : Nat) : Int) = 4 by omega), if_pos c2];simp only [acQ, cond_true];rw [UO _ _ rfl];simp only [acv];rw [cond_pos (by simp; omega), PN i (by omega)];rw [show i + 1 = nk + (k + 1) by omega]
   ·have : (decide ((nk : Int) = 8) && decide (((i % 8 : Nat) : Int) = 4)) = false := by
     by_cases c3 : nk = 8
     ·rw [MS (show ¬ ((i % 8 : Nat) : Int) = 4 by omega), acV]
     ·rw [MS (show ¬ (nk : Int) = 8 by omega), acW]
    rw [this, if_neg c2];simp only [cond_false];rw [UO _ _ hw.1];simp only [acv];rw [cond_pos (by simp; omega), PN i (by omega), <- list4 hw.1];rw [show i + 1 = nk + (k + 1) by omega])
 refine (show _ = _ from e).trans ?_;rw [MP.q4];have w1 : acw.wrap (4 * acw.wrap ((nk : Int) + 7)) = ((4 * nk + 28 : Nat) : Int) := by rw [wrap64 (n := (nk : Int) + 7) (by omega) (by omega), wrap64 (by omega) (by omega)]; omega
 simp only [MP.b4, w1, MS (show ¬ ((nk + (3 * nk + 28) : Nat) : Int) < ((4 * nk + 28 : Nat) : Int) by omega), cond_false]
end
end Go.AM
end
section
namespace Go.AM
theorem TJ {l : List (List Int)} {k : Nat} (h : k < l.length) : (l.take (k + 1)).flatten = (l.take k).flatten ++ rd [] l (k : Int) := by rw [Q5 (d := ([] : List Int)) h, adV]; simp
theorem QZ (l : List (List Int)) (k : Nat) : (l.take k).flatten.length <= l.flatten.length := by
 have : l.flatten = (l.take k).flatten ++ (l.drop k).flatten := by rw [<- adV, ac6]
 rw [this, acB]; omega
theorem Tt (l : List (List Int)) (h : l.flatten.length <= 1000000) (hl : l.length <= 1000000) : MV.run .lim (l, ()) = some l.flatten := by
 have e := NP (f := MV.l0 .lim) (fun k => (l, (((l.take k).flatten.length : Nat) : Int), l, (l.length : Int), (k : Int), ())) (n := l.length) (fun k hk => by
  rw [MV.q0];have h1 := TJ hk;have h2 := QZ l (k + 1);rw [h1, acB] at h2;have w : acw.wrap ((((l.take k).flatten.length : Nat) : Int) + ((rd ([] : List Int) l (k : Int)).length : Int)) = (((l.take (k + 1)).flatten.length : Nat) : Int) := by rw [wrap64 (by omega) (by omega), h1, acB]; omega
  simp only [MV.b0, MR (show (k : Int) < (l.length : Int) by omega), MZ (show (0 : Int) <= k by omega) (show (k : Int) < (l.length : Int) by omega), Nb (show (rd ([] : List Int) l (k : Int)).length < 9223372036854775808 by omega), w, MS (show ¬ ((((l.take (k + 1)).flatten.length : Nat) : Int) < 0) by omega), cond_true, cond_false, PN k (by omega)])
 have e1 := fun N : Nat => fun hN : N = l.flatten.length => NP (f := MV.l1 .lim) (fun k => ((((l.take k).flatten.length : Nat) : Int), l, (l.length : Int), (k : Int), (l.take k).flatten ++ acz (N - (l.take k).flatten.length) 0, ())) (n := l.length) (fun k hk => by
  rw [MV.q1];have h1 := TJ hk;have h2 := QZ l (k + 1);rw [h1, acB] at h2;simp only [MV.b1, MR (show (k : Int) < (l.length : Int) by omega), MZ (show (0 : Int) <= k by omega) (show (k : Int) < (l.length : Int) by omega), cond_true, PN k (by omega), acA];have hc : (decide (((l.take k).flatten ++ acz (N - (l.take k).flatten.length) (0 : Int)).length + (rd ([] : List Int) l (k : Int)).length < 70368744177664) && decide (0 <= (((l.take k).flatten.length : Nat) : Int))) = true := by rw [acB, adM, MR (by omega), MR (by omega)]; rfl
  rw [cond_pos hc, h1, acB];have e3 : ((((l.take k).flatten.length : Nat) : Int) + ((rd ([] : List Int) l (k : Int)).length : Int)) = (((l.take k).flatten.length + (rd ([] : List Int) l (k : Int)).length : Nat) : Int) := by omega
  rw [e3, ada (acR _), acN, List.drop_append, List.drop_eq_nil_of_le (by omega), adv, List.drop_replicate, acU];have e4 : N - (l.take k).flatten.length - ((l.take k).flatten.length + (rd ([] : List Int) l (k : Int)).length - (l.take k).flatten.length) = N - ((l.take k).flatten.length + (rd ([] : List Int) l (k : Int)).length) := by omega
  rw [e4])
 rw [acN, adU, show ((([] : List (List Int)).flatten.length : Nat) : Int) = 0 from rfl, show ((0 : Nat) : Int) = 0 from rfl] at e;have ee : MV.l0 .lim (l, ((l.flatten.length : Nat) : Int), l, (l.length : Int), (l.length : Int), ()) = some (l, ((l.flatten.length : Nat) : Int), ()) := by
  rw [MV.q0];simp only [MV.b0, MS (show ¬ (l.length : Int) < (l.length : Int) by omega), cond_false]
 have ee1 : ∀ m, MV.l1 .lim (((l.flatten.length : Nat) : Int), l, (l.length : Int), (l.length : Int), m, ()) = some (((l.flatten.length : Nat) : Int), m, ()) := fun m => by
  rw [MV.q1];simp only [MV.b1, MS (show ¬ (l.length : Int) < (l.length : Int) by omega), cond_false]
 have e2 : MV.l1 .lim (0, l, (l.length : Int), 0, acz l.flatten.length 0, ()) = some (((l.flatten.length : Nat) : Int), l.flatten, ()) := by
  have := e1 _ rfl;rw [acN, adU, aee, adW, List.append_nil] at this;exact this.trans (ee1 _)
 simp only [MV.run, Nb (show l.length < 9223372036854775808 by omega), cond_true, e, ee, acv, aeb, MS (show ¬ ((l.flatten.length : Nat) : Int) < 0 by omega), cond_false, wrap64 (show -9223372036854775808 <= ((l.flatten.length : Nat) : Int) by omega) (show ((l.flatten.length : Nat) : Int) < 9223372036854775808 by omega), acA];by_cases h0 : l.flatten.length = 0
 ·rw [MS (show ¬ ((l.flatten.length : Nat) : Int) > 0 by omega)];rw [h0, adW] at e2;simp only [cond_false];rw [e2];simp [adn.1 h0]
 ·rw [MR (show ((l.flatten.length : Nat) : Int) > 0 by omega)];have hb : Nat.blt l.flatten.length 70368744177664 = true := by rw [Nat.blt_eq]; omega
  simp only [cond_true, MR (show (0 : Int) <= ((l.flatten.length : Nat) : Int) by omega), hb, acQ, e2, acv, acX, acA, acN];rw [cond_pos (Nq (acP 0) (acP 0) (acI _))]
end Go.AM
end
section
namespace Go.AM
section
variable {ok : Bool} {n dn mu sm four x i t t1 t2 tp tq : Int} {key b tw ta out K was kb T sb bk : List Int} {yb W rn : List (List Int)} {last : Bool}
theorem Wq {q : Nat} (hW : Words W) (hl : W.length = 4 * q) (hq : q <= 100) : MP.l5 .lim (0, ok, 4, key, dn, mu, sm, sb, bk, yb, b, tw, W, [], ()) = some (ok, key, dn, mu, sm, sb, bk, yb, b, tw, NU W, ()) := by
 have e := NP (f := MP.l5 .lim) (fun k => (((4 * k : Nat) : Int), ok, 4, key, dn, mu, sm, sb, bk, yb, b, tw, W, (acJ k).map (Qg W), ())) (n := q) (fun k hkq => by
  rw [MP.q5];have w1 : acw.wrap (((4 * k : Nat) : Int) + 4) = ((4 * k + 4 : Nat) : Int) := by rw [wrap64 (by omega) (by omega)]; omega
  have w2 : mn 4 ((W.length : Int) - ((4 * k : Nat) : Int)) = 4 := by rw [OU]; omega
  have w3 : (cut W ((4 * k : Nat) : Int) ((4 * k + 4 : Nat) : Int)).length = 4 := by rw [Qn, acG, acD]; omega
  have at_ : ∀ j : Nat, j < 4 -> rd z4 (cut W ((4 * k : Nat) : Int) ((4 * k + 4 : Nat) : Int)) (j : Int) = rd z4 W ((4 * k + j : Nat) : Int) := fun j hj => by
   rw [Qn];unfold rd;rw [acA, acA, ac2, ac2, adB (by omega), ad1]
  have a0 : rd z4 (cut W ((4 * k : Nat) : Int) ((4 * k + 4 : Nat) : Int)) 0 = rd z4 W ((4 * k : Nat) : Int) := at_ 0 (by omega);have a1 : rd z4 (cut W ((4 * k : Nat) : Int) ((4 * k + 4 : Nat) : Int)) 1 = rd z4 W ((4 * k + 1 : Nat) : Int) := at_ 1 (by omega);have a2 : rd z4 (cut W ((4 * k : Nat) : Int) ((4 * k + 4 : Nat) : Int)) 2 = rd z4 W ((4 * k + 2 : Nat) : Int) := at_ 2 (by omega);have a3 : rd z4 (cut W ((4 * k : Nat) : Int) ((4 * k + 4 : Nat) : Int)) 3 = rd z4 W ((4 * k + 3 : Nat) : Int) := at_ 3 (by omega);have c4 : ∀ l : List Int, l.length = 4 -> cut l 0 4 = l := fun l hl => by
   have := Qn l 0 4;rw [show ((0 : Nat) : Int) = 0 from rfl, show ((4 : Nat) : Int) = 4 from rfl] at this;rw [this, acX, acE (by omega)]
  have l0 := (hW.at (show 4 * k < W.length by omega)).1;have l1 := (hW.at (show 4 * k + 1 < W.length by omega)).1;have l2 := (hW.at (show 4 * k + 2 < W.length by omega)).1;have l3 := (hW.at (show 4 * k + 3 < W.length by omega)).1;have hfl : [rd z4 W ((4 * k : Nat) : Int), rd z4 W ((4 * k + 1 : Nat) : Int), rd z4 W ((4 * k + 2 : Nat) : Int), rd z4 W ((4 * k + 3 : Nat) : Int)].flatten = Qg W k := by simp [Qg]
  have hrl := Um hW (j := k) (by omega);have oh := Tt [rd z4 W ((4 * k : Nat) : Int), rd z4 W ((4 * k + 1 : Nat) : Int), rd z4 W ((4 * k + 2 : Nat) : Int), rd z4 W ((4 * k + 3 : Nat) : Int)] (by rw [hfl, hrl]; omega) (by simp);rw [hfl] at oh;simp only [MP.b5, Nk (show (W.length : Int) < 9223372036854775808 by omega), MR (show ((4 * k : Nat) : Int) < (W.length : Int) by omega), Nq (show (0 : Int) <= ((4 * k : Nat) : Int) by omega) (show ((4 * k : Nat) : Int) <= (W.length : Int) by omega) (acP _), Nk (show (W.length : Int) - ((4 * k : Nat) : Int) < 9223372036854775808 by omega), w2, w1, Nq (show (0 : Int) <= ((4 * k : Nat) : Int) by omega) (show ((4 * k : Nat) : Int) <= ((4 * k + 4 : Nat) : Int) by omega) (acP _), MR (show ((4 * k + 4 : Nat) : Int) <= (W.length : Int) by omega), acQ, w3, cond_true, MZ (show (0 : Int) <= 0 by omega) (show (0 : Int) < ((4 : Nat) : Int) by decide), MZ (show (0 : Int) <= 1 by omega) (show (1 : Int) < ((4 : Nat) : Int) by decide), MZ (show (0 : Int) <= 2 by omega) (show (2 : Int) < ((4 : Nat) : Int) by decide), MZ (show (0 : Int) <= 3 by omega) (show (3 : Int) < ((4 : Nat) : Int) by decide), a0, a1, a2, a3, c4 _ l0, c4 _ l1, c4 _ l2, c4 _ l3, oh, acv, hrl, acE (aed hrl)];rw [show (adw 1 16 && adw 16 16) = true from rfl, cond_true, cond_pos (by simp; omega)];simp only [adp, ado, adF, adO];rfl)
 refine (show _ = _ from e).trans ?_;rw [MP.q5];simp only [MP.b5, Nk (show (W.length : Int) < 9223372036854775808 by omega), MS (show ¬ ((4 * q : Nat) : Int) < (W.length : Int) by omega), cond_true, cond_false];unfold NU;rw [hl, adG _ (by omega)]
theorem XO (hk : key.length = 16 \/ key.length = 32) (hb : ∀ x ∈ key, B8 x) : MP.l6 .lim (key, 0, 0, sm, NC, NC, acz 16 NC, b, tw, ()) = some (b, tw, key, 1, 0, sm, OY 256, Rf 256, Ns 256, NU (OJ key), ()) := by
 have h0 : MP.l6 .lim (key, 0, 0, sm, NC, NC, acz 16 NC, b, tw, ()) = MP.b6 .lim (MP.l6 .lim) (key, 0, 0, sm, NC, NC, acz 16 NC, b, tw, ()) := MP.q6 _;rw [h0];have hd : (key.length : Int).tdiv 4 = ((key.length / 4 : Nat) : Int) := by rw [acM (acI _)]; simp
 have w1 : acw.wrap ((key.length : Int).tdiv 4) = ((key.length / 4 : Nat) : Int) := by rw [hd, wrap64 (by omega) (by omega)]
 have t := Ws (ok := true) (key := key) (dn := 0) (mu := 1) (sm := sm) (b := b) (tw := tw);have s := XQ (kb := key) (q := key.length / 4) (nk := ((key.length / 4 : Nat) : Int)) (ok := true) (key := key) (dn := 0) (mu := 1) (sm := sm) (sb := OY 256) (bk := Rf 256) (yb := Ns 256) (b := b) (tw := tw)  (by omega) (by omega);have w := XR (kb := key) (nk := key.length / 4) (ok := true) (key := key) (dn := 0) (mu := 1) (sm := sm) (bk := Rf 256) (yb := Ns 256) (b := b) (tw := tw)  (by omega) (by omega) hb;have r := Wq (W := OJ key) (q := key.length / 4 + 7) (ok := true) (key := key) (dn := 0) (mu := 1) (sm := sm) (sb := OY 256) (bk := Rf 256) (yb := Ns 256) (b := b) (tw := tw)  (QO key hb) (by rw [Qq]; omega) (by omega);have hs : N_.run .lim (true, ()) = some 1 := rfl;have hw : (sched (key.length / 4) key (3 * (key.length / 4) + 28)).1 = OJ key := rfl;simp only [MP.b6, decide_true, acC, acK, cond_true, t, acv, Nk (show (key.length : Int) < 9223372036854775808 by omega), w1];rw [s];simp only [acv];rw [w];simp only [acv];rw [hw, r];simp only [acv, hs, show aef.wrap (1 + -1) = 0 from by decide, decide_true, acC, cond_false]
end
end Go.AM
end
section
namespace Go.AM
section
variable {ok : Bool} {n dn mu sm four x i t t1 t2 tp tq : Int} {key b tw ta out K was kb T sb bk : List Int} {yb W rn : List (List Int)} {last : Bool}
theorem XM (hb : b.length = 16) : MP.l7 .lim (0, b, K, tw, key, dn, mu, sm, sb, bk, yb, rn, ()) = some (QW b K, tw, key, dn, mu, sm, sb, bk, yb, rn, ()) := by
 have e := Oi (f := MP.l7 .lim) (fun k b => ((k : Int), b, K, tw, key, dn, mu, sm, sb, bk, yb, rn, ())) (fun k v => Hy .u8 v (rd 0 K (k : Int))) b hb (fun k hk m' hm hj => by
  rw [MP.q7];simp only [MP.b7, MR (show (k : Int) < 16 by omega), MZ (show (0 : Int) <= k by omega) (show (k : Int) < 16 by omega), cond_true, PN k (by omega), hj k (acR _), acA])
 refine (show _ = _ from e).trans ?_;rw [MP.q7];simp only [MP.b7, MS (show ¬ ((16 : Nat) : Int) < 16 by decide), cond_false];rfl
theorem Wn (hb : Sj b) : MP.l8 .lim (0, last, tp, tq, t1, t2, b, key, dn, mu, sm, OY 256, bk, yb, K, rn, tw, ()) = some (last, tp, tq, t1, t2, tab 16 fun i => Td (rd 0 b (i : Int)), K, rn, tw, key, dn, mu, sm, OY 256, bk, yb, ()) := by
 have e := Oi (f := MP.l8 .lim) (fun k b => ((k : Int), last, tp, tq, t1, t2, b, key, dn, mu, sm, OY 256, bk, yb, K, rn, tw, ())) (fun k v => Td v) b hb.1 (fun k hk m' hm hj => by
  rw [MP.q8];have h := hb.at hk;simp only [MP.b8, MR (show (k : Int) < 16 by omega), MZ (show (0 : Int) <= k by omega) (show (k : Int) < 16 by omega), cond_true, PN k (by omega), hj k (acR _), MZ h.1 h.2, PX h, acA])
 refine (show _ = _ from e).trans ?_;rw [MP.q8];simp only [MP.b8, MS (show ¬ ((16 : Nat) : Int) < 16 by decide), cond_false]
theorem YZ (hb : b.length = 16) : MP.l9 .lim (4, 0, last, tp, tq, t1, t2, b, was, K, rn, tw, key, dn, mu, sm, sb, bk, yb, ()) = some (last, tp, tq, t1, t2, tab 16 fun i => rd 0 was (((i + 4 * (i % 4)) % 16 : Nat) : Int), K, rn, tw, key, dn, mu, sm, sb, bk, yb, ()) := by
 have e := Oi (f := MP.l9 .lim) (fun k b => (4, (k : Int), last, tp, tq, t1, t2, b, was, K, rn, tw, key, dn, mu, sm, sb, bk, yb, ())) (fun k v => rd 0 was (((k + 4 * (k % 4)) % 16 : Nat) : Int)) b hb (fun k hk m' hm hj => by
  rw [MP.q9];have m1 : ((k : Int)).tmod 4 = ((k % 4 : Nat) : Int) := by rw [acF (acI k)]; simp
  have w1 : acw.wrap (4 * (k : Int).tmod 4) = ((4 * (k % 4) : Nat) : Int) := by rw [m1, wrap64 (by omega) (by omega)]; omega
  have w2 : acw.wrap ((k : Int) + ((4 * (k % 4) : Nat) : Int)) = ((k + 4 * (k % 4) : Nat) : Int) := by rw [wrap64 (by omega) (by omega)]; omega
  have w3 : acw.wrap (((k + 4 * (k % 4) : Nat) : Int) + 64) = ((k + 4 * (k % 4) + 64 : Nat) : Int) := by rw [wrap64 (by omega) (by omega)]; omega
  have m2 : (((k + 4 * (k % 4) + 64 : Nat) : Int)).tmod 16 = (((k + 4 * (k % 4)) % 16 : Nat) : Int) := by rw [acF (acI _)]; omega
  simp only [MP.b9, MR (show (k : Int) < 16 by omega), MZ (show (0 : Int) <= k by omega) (show (k : Int) < 16 by omega), cond_true, PN k (by omega), w1, w2, w3, m2, MZ (show (0 : Int) <= (((k + 4 * (k % 4)) % 16 : Nat) : Int) by omega) (show (((k + 4 * (k % 4)) % 16 : Nat) : Int) < 16 by omega), acA])
 refine (show _ = _ from e).trans ?_;rw [MP.q9];simp only [MP.b9, MS (show ¬ ((16 : Nat) : Int) < 16 by decide), cond_false]
abbrev Pv : List Int := [2, 3, 1, 1]
theorem YV (hw : Sj was) {i : Nat} (hi : i < 16) (hb : b.length = 16) (h0 : rd 0 b (i : Int) = 0) : MP.l10 .lim ((i : Int), t, Pv, 0, tp, tq, t1, t2, key, dn, mu, sm, sb, bk, Ns 256, b, Pv, was, K, rn, tw, ()) = some (t, tp, tq, t1, t2, key, dn, mu, sm, sb, bk, Ns 256, b.set i (rd 0 (QM was) (i : Int)), Pv, was, K, rn, tw, ()) := by
 have h4 : ∀ j : Nat, j < 4 -> acw.wrap (acw.wrap (acw.wrap ((i : Int).tdiv 4) * 4) + (acw.wrap ((i : Int) + (j : Int))).tmod 4) = ((i / 4 * 4 + (i + j) % 4 : Nat) : Int) := by
  intro j hj;have d1 : ((i : Int)).tdiv 4 = ((i / 4 : Nat) : Int) := by rw [acM (acI i)]; simp
  have d2 : acw.wrap ((i : Int) + (j : Int)) = ((i + j : Nat) : Int) := by rw [wrap64 (by omega) (by omega)]; omega
  have d3 : (((i + j : Nat) : Int)).tmod 4 = (((i + j) % 4 : Nat) : Int) := by rw [acF (acI _)]; simp
  rw [d1, d2, d3, wrap64 (n := ((i / 4 : Nat) : Int)) (by omega) (by omega), wrap64 (n := ((i / 4 : Nat) : Int) * 4) (by omega) (by omega), wrap64 (by omega) (by omega)]; omega
 have hB : ∀ j : Nat, j < 4 -> B8 (rd 0 was ((i / 4 * 4 + (i + j) % 4 : Nat) : Int)) := fun j hj => hw.at (by omega)
 have g0 := h4 0 (by omega); have g1 := h4 1 (by omega); have g2 := h4 2 (by omega); have g3 := h4 3 (by omega);have b0 := hB 0 (by omega); have b1 := hB 1 (by omega); have b2 := hB 2 (by omega); have b3 := hB 3 (by omega);rw [show ((0 : Nat) : Int) = 0 from rfl] at g0;rw [show ((1 : Nat) : Int) = 1 from rfl] at g1;rw [show ((2 : Nat) : Int) = 2 from rfl] at g2;rw [show ((3 : Nat) : Int) = 3 from rfl] at g3;have r0 := (PU b0).2.1; have r1 := (PU b1).2.2; have r2 := (PU b2).1; have r3 := (PU b3).1;have step : ∀ (c : Int) (j j' : Int) (q : Nat) (v : Int) (bb : List Int), bb.length = 16 -> 0 <= j -> j < 4 -> rd 0 Pv j = c -> 0 <= c -> c < 16 -> acw.wrap (j + 1) = j' -> acw.wrap (acw.wrap (acw.wrap ((i : Int).tdiv 4) * 4) + (acw.wrap ((i : Int) + j)).tmod 4) = (q : Int) -> q < 16 -> rd 0 (rd NC (Ns 256) c) (rd 0 was (q : Int)) = v -> B8 (rd 0 was (q : Int)) ->
   MP.l10 .lim ((i : Int), t, Pv, j, tp, tq, t1, t2, key, dn, mu, sm, sb, bk, Ns 256, bb, Pv, was, K, rn, tw, ()) = MP.l10 .lim ((i : Int), t, Pv, j', tp, tq, t1, t2, key, dn, mu, sm, sb, bk, Ns 256, bb.set i (Hy .u8 (rd 0 bb (i : Int)) v), Pv, was, K, rn, tw, ()) := by
  intro c j j' q v bb hbb h1 h2 h3 h4 h5 h6 h7 h8 h9 h10;rw [MP.q10];simp only [MP.b10, MR h2, MZ h1 h2, h3, MZ h4 h5, h7, MZ (show (0 : Int) <= i by omega) (show (i : Int) < 16 by omega), MZ (show (0 : Int) <= (q : Int) by omega) (show (q : Int) < 16 by omega), MZ h10.1 h10.2, h9, h6, cond_true, acA]
 rw [step 2 0 1 _ _ b hb (by omega) (by omega) rfl (by omega) (by omega) rfl g0 (by omega) r0 b0];rw [step 3 1 2 _ _ _ (by simp [hb]) (by omega) (by omega) rfl (by omega) (by omega) rfl g1 (by omega) r1 b1];rw [step 1 2 3 _ _ _ (by simp [hb]) (by omega) (by omega) rfl (by omega) (by omega) rfl g2 (by omega) r2 b2];rw [step 1 3 4 _ _ _ (by simp [hb]) (by omega) (by omega) rfl (by omega) (by omega) rfl g3 (by omega) r3 b3];rw [MP.q10];simp only [MP.b10, MS (show ¬ (4 : Int) < 4 by omega), cond_false];have hl : ∀ v, i < (b.set i v).length := fun v => by simp [hb]; omega
 simp only [Rl (show i < b.length by omega), Rl (hl _), adQ, h0];unfold QM;rw [PY hi];simp only [aec]
theorem ZK (hw : Sj was) (hb : b.length = 16) : MP.W9 .lim (0, tp, tq, t1, t2, key, dn, mu, sm, sb, bk, Ns 256, b, Pv, was, K, rn, tw, ()) = some (tp, tq, t1, t2, QM was, K, rn, tw, key, dn, mu, sm, sb, bk, Ns 256, ()) := by
 have e := Oi (f := MP.W9 .lim) (fun k b => ((k : Int), tp, tq, t1, t2, key, dn, mu, sm, sb, bk, Ns 256, b, Pv, was, K, rn, tw, ())) (fun k v => rd 0 (QM was) (k : Int)) b hb (fun k hk m' hm hj => by
  rw [MP.q11];have hm := fun h0 => YV (tp := tp) (tq := tq) (t1 := t1) (t2 := t2) (key := key) (dn := dn) (mu := mu) (sm := sm) (sb := sb) (bk := bk) (K := K) (rn := rn) (tw := tw) (t := (k : Int))  hw (b := m'.set k 0) hk (by simp [hm]) h0
  simp only [MP.b11, MR (show (k : Int) < 16 by omega), MZ (show (0 : Int) <= k by omega) (show (k : Int) < 16 by omega), cond_true, acA];rw [hm (Rl (by omega))];simp only [acv, PN k (by omega), adQ])
 refine (show _ = _ from e).trans ?_;rw [MP.q11];simp only [MP.b11, MS (show ¬ ((16 : Nat) : Int) < 16 by decide), cond_false];have : (tab 16 fun i => rd 0 (QM was) (i : Int)) = QM was := (TY Ou).symm;rw [this]
theorem Wp (hb : b.length = 16) : MP.l12 .lim (0, tp, tq, t1, t2, b, K, rn, tw, key, dn, mu, sm, sb, bk, yb, ()) = some (tp, tq, t1, t2, rn, QW b K, tw, key, dn, mu, sm, sb, bk, yb, ()) := by
 have e := Oi (f := MP.l12 .lim) (fun k b => ((k : Int), tp, tq, t1, t2, b, K, rn, tw, key, dn, mu, sm, sb, bk, yb, ())) (fun k v => Hy .u8 v (rd 0 K (k : Int))) b hb (fun k hk m' hm hj => by
  rw [MP.q12];simp only [MP.b12, MR (show (k : Int) < 16 by omega), MZ (show (0 : Int) <= k by omega) (show (k : Int) < 16 by omega), cond_true, PN k (by omega), hj k (acR _), acA])
 refine (show _ = _ from e).trans ?_;rw [MP.q12];simp only [MP.b12, MS (show ¬ ((16 : Nat) : Int) < 16 by decide), cond_false];rfl
theorem XP (b : List Int) : (tab 16 fun i => rd 0 (tab 16 fun i => Td (rd 0 b (i : Int))) (((i + 4 * (i % 4)) % 16 : Nat) : Int)) = Qx b := Oq fun k hk => by rw [PY (by omega)]
theorem UC (hb : Sj b) : Sj (Qx b) := ⟨Ou, TI fun k hk => Vp (hb.at (by omega))⟩
theorem ZJ {r : Nat} (hW : Words W) (hl : W.length = 4 * (r + 1)) (hr : r <= 100) (hr0 : 0 < r) (hb : b.length = 16) :
  MP.UR .lim (1, ((r : Nat) : Int), ((r : Nat) : Int), 0, NU W, Qu W b 0, tw, key, dn, mu, sm, OY 256, bk, Ns 256, ()) = some (Qu W b r, tw, key, dn, mu, sm, OY 256, bk, Ns 256, NU W, ()) := by
 have hn : (NU W).length = r + 1 := by unfold NU; simp; omega
 have e := NP (f := MP.UR .lim) (fun k => (1, (r : Int), (r : Int), (k : Int), NU W, Qu W b k, tw, key, dn, mu, sm, OY 256, bk, Ns 256, ())) (n := r) (fun k hk => by
  rw [MP.q13];have hB := TQ W b k;have hK : rd TL (NU W) (1 + (k : Int)) = Qg W (k + 1) := by
   rw [show (1 + (k : Int)) = ((k + 1 : Nat) : Int) by omega, PI (by omega)];unfold NU; simp
  have w1 : acw.wrap (((NU W).length : Int) - 2) = (r : Int) - 1 := by rw [wrap64 (by omega) (by omega)]; omega
  have hlast : decide ((k : Int) = (r : Int) - 1) = decide (k + 2 = W.length / 4) := by
   by_cases h : k + 1 = r
   ·rw [MR (by omega), MR (by omega)]
   ·rw [MS (by omega), MS (by omega)]
  simp only [MP.b13, MR (show (k : Int) < (r : Int) by omega), MZ (show (0 : Int) <= k by omega) (show (k : Int) < (r : Int) by omega), Nk (show ((NU W).length : Int) < 9223372036854775808 by omega), cond_true, hK, w1, hlast, Wn hB, acv];rw [YZ Ou];simp only [acv, XP];have hs := UC hB;have hc : ((((acz 4 (0 : Int)).set 0 2).set 1 3).set 2 1).set 3 1 = Pv := rfl;show _ = MP.UR .lim (1, (r : Int), (r : Int), ((k + 1 : Nat) : Int), NU W, Xn (decide (k + 2 = W.length / 4)) (Qu W b k) (Qg W (k + 1)), tw, key, dn, mu, sm, OY 256, bk, Ns 256, ());unfold Xn;cases decide (k + 2 = W.length / 4) with
  | true =>
   simp only [acC, cond_false, cond_true];rw [Wp hs.1];simp only [acv, PN k (by omega)]
  | false =>
   simp only [acK, cond_false, cond_true, hc];rw [ZK hs hs.1];simp only [acv];have hml : (QM (Qx (Qu W b k))).length = 16 := Ou;rw [Wp hml];simp only [acv, PN k (by omega)])
 refine (show _ = _ from e).trans ?_;rw [MP.q13];simp only [MP.b13, MS (show ¬ (r : Int) < (r : Int) by omega), cond_false]
end
end Go.AM
end
section
namespace Go.AM
section
variable {ok : Bool} {n dn mu sm four x i t t1 t2 tp tq : Int} {key b tw ta out K was kb T sb bk : List Int} {yb W rn : List (List Int)} {last : Bool}
theorem YX {r : Nat} (hW : Words W) (hl : W.length = 4 * (r + 1)) (hr : r <= 100) (hr0 : 0 < r) (hb : b.length = 16) {β : Type} {Q : _ -> Option β} :
  (bif inB 0 ((NU W).length : Int) then
   ((MP.l7 .lim (0, b, rd TL (NU W) 0, tw, key, dn, mu, sm, OY 256, bk, Ns 256, NU W, ())).bind fun (b, tw, key, dn, mu, sm, sb, bk, yb, rn, ()) =>
    bif sK 1 (rn.length : Int) (rn.length : Int) then bif vT ((rn.length : Int) - 1) then (MP.UR .lim (1, ((rn.length : Int) - 1), ((rn.length : Int) - 1), 0, rn, b, tw, key, dn, mu, sm, sb, bk, yb, ())).bind Q else none else none) else none) = Q (Qu W b r, tw, key, dn, mu, sm, OY 256, bk, Ns 256, NU W, ()) := by
 have hn : (NU W).length = r + 1 := by unfold NU; simp; omega
 have h0 : rd TL (NU W) 0 = Qg W 0 := by
  have := PI (d := TL) (show 0 < (NU W).length by omega);rw [show ((0 : Nat) : Int) = 0 from rfl] at this;rw [this]; unfold NU; simp
 rw [cond_pos (MZ (by omega) (by omega)), h0, XM hb];simp only [acv];rw [cond_pos (Nq (by omega) (by omega) (by omega)), cond_pos (Nk (by omega)), show ((NU W).length : Int) - 1 = (r : Int) by omega];have := ZJ (tw := tw) (key := key) (dn := dn) (mu := mu) (sm := sm) (bk := bk)  hW hl hr hr0 hb;rw [show Qu W b 0 = QW b (Qg W 0) from rfl] at this;rw [this];rfl
theorem XL (hk : key.length = 16 \/ key.length = 32) (hkb : ∀ x ∈ key, B8 x) (hb : b.length = 16) :
  MP.Ug .lim (b, key, 0, 0, sm, NC, NC, acz 16 NC, ()) = some (encS key b, ()) := by
 have h0 : MP.Ug .lim (b, key, 0, 0, sm, NC, NC, acz 16 NC, ()) = MP.b14 .lim (MP.Ug .lim) (b, key, 0, 0, sm, NC, NC, acz 16 NC, ()) := MP.q14 _;rw [h0];have hr := XO (sm := sm) (key := key) (b := b) (tw := TL)  hk hkb;have hW := QO key hkb;have hl : (OJ key).length = 4 * ((key.length / 4 + 6) + 1) := by rw [Qq]; omega
 have hq : (OJ key).length / 4 - 1 = key.length / 4 + 6 := by omega
 unfold MP.b14;simp only [hr, acv];refine (YX (Q := fun (b, tw, key, dn, mu, sm, sb, bk, yb, rn, ()) => some (b, ())) hW hl (by omega) (by omega) hb).trans ?_;unfold encS;rw [hq]
end
end Go.AM
end
section
namespace Go.AM
section
variable {ok : Bool} {n dn mu sm four nk x i t t1 t2 tp tq : Int} {key b tw ta out K was kb T sb bk : List Int} {yb W rn : List (List Int)} {last : Bool}
theorem ZP (i : Nat) (hi : i < 256) : MO.l0 .lim ((i : Int), t, 7, 0, ok, n, key, dn, mu, sm, sb, bk, yb, kL, b, tw, ta, out, rn, ()) = some (t, ok, n, key, dn, mu, sm, sb, bk, RF i yb 7, b, tw, ta, out, rn, ()) := by
 have e := NP (f := MO.l0 .lim) (fun k => ((i : Int), t, 7, (k : Int), ok, n, key, dn, mu, sm, sb, bk, RF i yb k, kL, b, tw, ta, out, rn, ())) (n := 7) (fun k hk => by
  rw [MO.q0];obtain ⟨h1, h2⟩ := YJ k hk;have hB : B8 (rd 0 kL (k : Int)) := ⟨h1, by omega⟩;have VB : B8 (i : Int) := ⟨by omega, by omega⟩;simp only [MO.b0, MR (show (k : Int) < 7 by omega), MZ (show (0 : Int) <= k by omega) (show (k : Int) < (kL.length : Int) from show (k : Int) < 7 by omega), Qb VB, Pn VB hB, acv, MZ h1 (show rd 0 kL (k : Int) < 16 from h2), MZ (show (0 : Int) <= i by omega) (show (i : Int) < 256 by omega), cond_true, PN k (by omega), acA];rfl)
 refine e.trans ?_;rw [MO.q0];simp only [MO.b0, MS (show ¬ ((7 : Nat) : Int) < 7 by decide), cond_false]
theorem Wy : MO.l1 .lim (0, ok, n, key, dn, mu, sm, NC, NC, acz 16 NC, b, tw, ta, out, rn, ()) = some (ok, n, key, dn, mu, sm, OY 256, Rf 256, Ns 256, b, tw, ta, out, rn, ()) := by
 have e := NP (f := MO.l1 .lim) (fun k => ((k : Int), ok, n, key, dn, mu, sm, OY k, Rf k, Ns k, b, tw, ta, out, rn, ())) (n := 256) (fun k hk => by
  rw [MO.q1];have VB : B8 (k : Int) := ⟨by omega, by omega⟩;have hs := Vp VB;have hm := fun sb bk => ZP (ok := ok) (key := key) (dn := dn) (mu := mu) (sm := sm) (sb := sb) (bk := bk) (yb := Ns k) (b := b) (tw := tw) (t := (k : Int)) (n := n) (ta := ta) (out := out) (rn := rn) k hk
  simp only [MO.b1, MR (show (k : Int) < 256 by omega), Qb VB, U_ VB, acv, MZ (show (0 : Int) <= k by omega) (show (k : Int) < 256 by omega), MZ hs.1 hs.2, cond_true, show ((([1, 2, 3, 9, 11, 13, 14] : List Int).length : Nat) : Int) = 7 from rfl, Nk (show (7 : Int) < 9223372036854775808 by omega), hm, PN k (by omega), Vo];rw [show (OY k).set ((k : Int)).toNat (Td k) = OY (k + 1) from S_ rfl];rfl)
 rw [show OY 0 = NC from Rt, SN, show Rf 0 = NC from rfl, show ((0 : Nat) : Int) = 0 from rfl] at e;refine e.trans ?_;rw [MO.q1];simp only [MO.b1, MS (show ¬ ((256 : Nat) : Int) < 256 by decide), cond_false]
theorem XZ {q : Nat} (hk : kb.length = 4 * q) (hq : q <= 100) : MO.l2 .lim (0, nk, ok, n, 4, key, dn, mu, sm, sb, bk, yb, b, tw, ta, out, kb, [], rn, ()) = some (nk, ok, n, key, dn, mu, sm, sb, bk, yb, b, tw, ta, out, (acJ q).map (word kb), rn, ()) := by
 have e := NP (f := MO.l2 .lim) (fun k => (((4 * k : Nat) : Int), nk, ok, n, 4, key, dn, mu, sm, sb, bk, yb, b, tw, ta, out, kb, (acJ k).map (word kb), rn, ())) (n := q) (fun k hkq => by
  rw [MO.q2];have w1 : acw.wrap (((4 * k : Nat) : Int) + 4) = ((4 * k + 4 : Nat) : Int) := by rw [wrap64 (by omega) (by omega)]; omega
  have w2 : mn 4 ((kb.length : Int) - ((4 * k : Nat) : Int)) = 4 := by rw [OU]; omega
  have w3 : (cut kb ((4 * k : Nat) : Int) ((4 * k + 4 : Nat) : Int)).length = 4 := by rw [Qn, acG, acD]; omega
  have w4 : (adw 1 4 && adw 4 (cut kb ((4 * k : Nat) : Int) ((4 * k + 4 : Nat) : Int)).length) = true := by rw [w3]; rfl
  simp only [MO.b2, Nk (show (kb.length : Int) < 9223372036854775808 by omega), MR (show ((4 * k : Nat) : Int) < (kb.length : Int) by omega), Nq (show (0 : Int) <= ((4 * k : Nat) : Int) by omega) (show ((4 * k : Nat) : Int) <= (kb.length : Int) by omega) (acP _), Nk (show (kb.length : Int) - ((4 * k : Nat) : Int) < 9223372036854775808 by omega), w2, w1, Nq (show (0 : Int) <= ((4 * k : Nat) : Int) by omega) (show ((4 * k : Nat) : Int) <= ((4 * k + 4 : Nat) : Int) by omega) (acP _), MR (show ((4 * k + 4 : Nat) : Int) <= (kb.length : Int) by omega), acQ, w4, cond_true];rw [cond_pos (by simp; omega), Ub (by omega)];simp only [adp, ado, adF, adO];rfl)
 refine e.trans ?_;rw [MO.q2];simp only [MO.b2, Nk (show (kb.length : Int) < 9223372036854775808 by omega), MS (show ¬ ((4 * q : Nat) : Int) < (kb.length : Int) by omega), cond_true, cond_false]
theorem ZQ (hW : Words W) {i nk : Nat} (h1 : nk <= i) (h2 : i <= W.length) (h3 : 0 < nk) (h4 : i < 1000) (hT : T.length = 4) : MO.l3 .lim ((nk : Int), x, (i : Int), 0, ok, n, T, key, dn, mu, sm, sb, bk, yb, b, tw, ta, out, W, rn, ()) = some ((nk : Int), x, (i : Int), ok, n, VZ T (rd z4 W ((i - nk : Nat) : Int)), key, dn, mu, sm, sb, bk, yb, b, tw, ta, out, W, rn, ()) := by
 have w : acw.wrap ((i : Int) - (nk : Int)) = ((i - nk : Nat) : Int) := by rw [wrap64 (by omega) (by omega)]; omega
 have e := Oi (f := MO.l3 .lim) (fun k T => ((nk : Int), x, (i : Int), (k : Int), ok, n, T, key, dn, mu, sm, sb, bk, yb, b, tw, ta, out, W, rn, ())) (fun k v => Hy .u8 v (rd 0 (rd z4 W ((i - nk : Nat) : Int)) (k : Int))) T hT (fun k hk m' hm hj => by
  rw [MO.q3];simp only [MO.b3, MR (show (k : Int) < 4 by omega), MZ (show (0 : Int) <= k by omega) (show (k : Int) < 4 by omega), w, MZ (show (0 : Int) <= ((i - nk : Nat) : Int) by omega) (show ((i - nk : Nat) : Int) < (W.length : Int) by omega), cond_true, PN k (by omega), hj k (acR _), acA])
 refine e.trans ?_;rw [MO.q3];simp only [MO.b3, MS (show ¬ ((4 : Nat) : Int) < 4 by decide), cond_false];rfl
end
end Go.AM
end
section
namespace Go.AM
section
variable {ok : Bool} {n dn mu sm four x i t t1 t2 tp tq : Int} {key b tw ta out K was kb T sb bk : List Int} {yb W rn : List (List Int)} {last : Bool}
theorem Y2 (a b c d : Int) : ((((acz 4 (0 : Int)).set 0 a).set 1 b).set 2 c).set 3 d = [a, b, c, d] := rfl
theorem X0 {nk : Nat} (hn : nk = 4 \/ nk = 8) (hk : 4 * nk <= kb.length) (hb : ∀ x ∈ kb, B8 x) :
  MO.l4 .lim ((nk : Int), 1, (nk : Int), ok, n, key, dn, mu, sm, OY 256, bk, yb, b, tw, ta, out, (acJ nk).map (word kb), rn, ()) = some (ok, n, key, dn, mu, sm, OY 256, bk, yb, b, tw, ta, out, (sched nk kb (3 * nk + 28)).1, rn, ()) := by
 have e := NP (f := MO.l4 .lim) (fun k => ((nk : Int), (sched nk kb k).2, ((nk + k : Nat) : Int), ok, n, key, dn, mu, sm, OY 256, bk, yb, b, tw, ta, out, (sched nk kb k).1, rn, ())) (n := 3 * nk + 28) (fun k hkq => by
  rw [MO.q4];obtain ⟨hW, hx⟩ := QX nk kb hk hb k;have hl := QC nk kb k;have hs : sched nk kb (k + 1) = stepW nk (sched nk kb k) := rfl;rw [hs];unfold stepW;generalize hq : sched nk kb k = q at hW hx hl;obtain ⟨W, x⟩ := q;simp only at hW hx hl ⊢
  have hi0 : nk + k < 1000 := by omega
  generalize hi : nk + k = i at hl hi0;have hw := hW.at (show i - 1 < W.length by omega);have hb0 := hW.byte (show i - 1 < W.length by omega) (j := 0) (by omega) (by omega);have hb1 := hW.byte (show i - 1 < W.length by omega) (j := 1) (by omega) (by omega);have hb2 := hW.byte (show i - 1 < W.length by omega) (j := 2) (by omega) (by omega);have hb3 := hW.byte (show i - 1 < W.length by omega) (j := 3) (by omega) (by omega);have w1 : acw.wrap (4 * acw.wrap ((nk : Int) + 7)) = ((4 * nk + 28 : Nat) : Int) := by rw [wrap64 (n := (nk : Int) + 7) (by omega) (by omega), wrap64 (by omega) (by omega)]; omega
  have w2 : acw.wrap ((i : Int) - 1) = ((i - 1 : Nat) : Int) := by rw [wrap64 (by omega) (by omega)]; omega
  have m1 : ((i : Int)).tmod (nk : Int) = ((i % nk : Nat) : Int) := by rw [acF (acI i)]; simp
  have m2 : ((i : Int)).tmod 8 = ((i % 8 : Nat) : Int) := by rw [acF (acI i)]; simp
  have UO := fun x T hT => ZQ (ok := ok) (key := key) (dn := dn) (mu := mu) (sm := sm) (sb := OY 256) (bk := bk) (yb := yb) (b := b) (tw := tw) (x := x) (T := T) (n := n) (ta := ta) (out := out) (rn := rn) hW (i := i) (nk := nk) (by omega) (by omega) (by omega) (by omega) hT
  have cap : ∀ T : List Int, decide (W.length + ([T] : List (List Int)).length < 17592186044416) = true := fun T => MR (by simp; omega)
  simp only [MO.b4, w1, MR (show (i : Int) < ((4 * nk + 28 : Nat) : Int) by omega), w2, MZ (show (0 : Int) <= ((i - 1 : Nat) : Int) by omega) (show ((i - 1 : Nat) : Int) < (W.length : Int) by omega), MS (show ¬ (nk : Int) = 0 by omega), m1, m2, cond_true, acK, MZ hb0.1 hb0.2, MZ hb1.1 hb1.2, MZ hb2.1 hb2.2, MZ hb3.1 hb3.2, PX hb0, PX hb1, PX hb2, PX hb3, Y2, acL];rw [hl];unfold Xw;by_cases c1 : i % nk = 0
  ·rw [MR (show ((i % nk : Nat) : Int) = 0 by omega), if_pos c1, if_pos c1];simp only [cond_true, Pn hx (show B8 2 from ⟨by decide, by decide⟩), acv];rw [UO _ _ rfl];simp only [acv];rw [cond_pos (by simp; omega), PN i (by omega)];rw [show i + 1 = nk + (k + 1) by omega]
  ·rw [MS (show ¬ ((i % nk : Nat) : Int) = 0 by omega), if_neg c1, if_neg c1];simp only [cond_false];by_cases c2 : nk = 8 /\ i % 8 = 4
   ·rw [MR (show (nk : Int) = 8 by omega), MR (show ((i % 8 : Nat) : Int) = 4 by omega), if_pos c2];simp only [acQ, cond_true];rw [UO _ _ rfl];simp only [acv];rw [cond_pos (by simp; omega), PN i (by omega)];rw [show i + 1 = nk + (k + 1) by omega]
   ·have : (decide ((nk : Int) = 8) && decide (((i % 8 : Nat) : Int) = 4)) = false := by
     by_cases c3 : nk = 8
     ·rw [MS (show ¬ ((i % 8 : Nat) : Int) = 4 by omega), acV]
     ·rw [MS (show ¬ (nk : Int) = 8 by omega), acW]
    rw [this, if_neg c2];simp only [cond_false];rw [UO _ _ hw.1];simp only [acv];rw [cond_pos (by simp; omega), PN i (by omega), <- list4 hw.1];rw [show i + 1 = nk + (k + 1) by omega])
 refine (show _ = _ from e).trans ?_;rw [MO.q4];have w1 : acw.wrap (4 * acw.wrap ((nk : Int) + 7)) = ((4 * nk + 28 : Nat) : Int) := by rw [wrap64 (n := (nk : Int) + 7) (by omega) (by omega), wrap64 (by omega) (by omega)]; omega
 simp only [MO.b4, w1, MS (show ¬ ((nk + (3 * nk + 28) : Nat) : Int) < ((4 * nk + 28 : Nat) : Int) by omega), cond_false]
end
end Go.AM
end
section
namespace Go.AM
section
variable {ok : Bool} {n dn mu sm four x i t t1 t2 tp tq : Int} {key b tw ta out K was kb T sb bk : List Int} {yb W rn : List (List Int)} {last : Bool}
theorem Wx {q : Nat} (hW : Words W) (hl : W.length = 4 * q) (hq : q <= 100) : MO.l5 .lim (0, ok, n, 4, key, dn, mu, sm, sb, bk, yb, b, tw, ta, out, W, [], ()) = some (ok, n, key, dn, mu, sm, sb, bk, yb, b, tw, ta, out, NU W, ()) := by
 have e := NP (f := MO.l5 .lim) (fun k => (((4 * k : Nat) : Int), ok, n, 4, key, dn, mu, sm, sb, bk, yb, b, tw, ta, out, W, (acJ k).map (Qg W), ())) (n := q) (fun k hkq => by
  rw [MO.q5];have w1 : acw.wrap (((4 * k : Nat) : Int) + 4) = ((4 * k + 4 : Nat) : Int) := by rw [wrap64 (by omega) (by omega)]; omega
  have w2 : mn 4 ((W.length : Int) - ((4 * k : Nat) : Int)) = 4 := by rw [OU]; omega
  have w3 : (cut W ((4 * k : Nat) : Int) ((4 * k + 4 : Nat) : Int)).length = 4 := by rw [Qn, acG, acD]; omega
  have at_ : ∀ j : Nat, j < 4 -> rd z4 (cut W ((4 * k : Nat) : Int) ((4 * k + 4 : Nat) : Int)) (j : Int) = rd z4 W ((4 * k + j : Nat) : Int) := fun j hj => by
   rw [Qn];unfold rd;rw [acA, acA, ac2, ac2, adB (by omega), ad1]
  have a0 : rd z4 (cut W ((4 * k : Nat) : Int) ((4 * k + 4 : Nat) : Int)) 0 = rd z4 W ((4 * k : Nat) : Int) := at_ 0 (by omega);have a1 : rd z4 (cut W ((4 * k : Nat) : Int) ((4 * k + 4 : Nat) : Int)) 1 = rd z4 W ((4 * k + 1 : Nat) : Int) := at_ 1 (by omega);have a2 : rd z4 (cut W ((4 * k : Nat) : Int) ((4 * k + 4 : Nat) : Int)) 2 = rd z4 W ((4 * k + 2 : Nat) : Int) := at_ 2 (by omega);have a3 : rd z4 (cut W ((4 * k : Nat) : Int) ((4 * k + 4 : Nat) : Int)) 3 = rd z4 W ((4 * k + 3 : Nat) : Int) := at_ 3 (by omega);have c4 : ∀ l : List Int, l.length = 4 -> cut l 0 4 = l := fun l hl => by
   have := Qn l 0 4;rw [show ((0 : Nat) : Int) = 0 from rfl, show ((4 : Nat) : Int) = 4 from rfl] at this;rw [this, acX, acE (by omega)]
  have l0 := (hW.at (show 4 * k < W.length by omega)).1;have l1 := (hW.at (show 4 * k + 1 < W.length by omega)).1;have l2 := (hW.at (show 4 * k + 2 < W.length by omega)).1;have l3 := (hW.at (show 4 * k + 3 < W.length by omega)).1;have hfl : [rd z4 W ((4 * k : Nat) : Int), rd z4 W ((4 * k + 1 : Nat) : Int), rd z4 W ((4 * k + 2 : Nat) : Int), rd z4 W ((4 * k + 3 : Nat) : Int)].flatten = Qg W k := by simp [Qg]
  have hrl := Um hW (j := k) (by omega);have oh := Tt [rd z4 W ((4 * k : Nat) : Int), rd z4 W ((4 * k + 1 : Nat) : Int), rd z4 W ((4 * k + 2 : Nat) : Int), rd z4 W ((4 * k + 3 : Nat) : Int)] (by rw [hfl, hrl]; omega) (by simp);rw [hfl] at oh;simp only [MO.b5, Nk (show (W.length : Int) < 9223372036854775808 by omega), MR (show ((4 * k : Nat) : Int) < (W.length : Int) by omega), Nq (show (0 : Int) <= ((4 * k : Nat) : Int) by omega) (show ((4 * k : Nat) : Int) <= (W.length : Int) by omega) (acP _), Nk (show (W.length : Int) - ((4 * k : Nat) : Int) < 9223372036854775808 by omega), w2, w1, Nq (show (0 : Int) <= ((4 * k : Nat) : Int) by omega) (show ((4 * k : Nat) : Int) <= ((4 * k + 4 : Nat) : Int) by omega) (acP _), MR (show ((4 * k + 4 : Nat) : Int) <= (W.length : Int) by omega), acQ, w3, cond_true, MZ (show (0 : Int) <= 0 by omega) (show (0 : Int) < ((4 : Nat) : Int) by decide), MZ (show (0 : Int) <= 1 by omega) (show (1 : Int) < ((4 : Nat) : Int) by decide), MZ (show (0 : Int) <= 2 by omega) (show (2 : Int) < ((4 : Nat) : Int) by decide), MZ (show (0 : Int) <= 3 by omega) (show (3 : Int) < ((4 : Nat) : Int) by decide), a0, a1, a2, a3, c4 _ l0, c4 _ l1, c4 _ l2, c4 _ l3, oh, acv, hrl, acE (aed hrl)];rw [show (adw 1 16 && adw 16 16) = true from rfl, cond_true, cond_pos (by simp; omega)];simp only [adp, ado, adF, adO];rfl)
 refine (show _ = _ from e).trans ?_;rw [MO.q5];simp only [MO.b5, Nk (show (W.length : Int) < 9223372036854775808 by omega), MS (show ¬ ((4 * q : Nat) : Int) < (W.length : Int) by omega), cond_true, cond_false];unfold NU;rw [hl, adG _ (by omega)]
theorem XW (hk : key.length = 16 \/ key.length = 32) (hb : ∀ x ∈ key, B8 x) : MO.l6 .lim (n, key, 0, 0, sm, NC, NC, acz 16 NC, b, tw, ta, out, [], ()) = some (n, b, tw, key, 1, 0, sm, OY 256, Rf 256, Ns 256, ta, out, NU (OJ key), ()) := by
 have h0 : MO.l6 .lim (n, key, 0, 0, sm, NC, NC, acz 16 NC, b, tw, ta, out, [], ()) = MO.b6 .lim (MO.l6 .lim) (n, key, 0, 0, sm, NC, NC, acz 16 NC, b, tw, ta, out, [], ()) := MO.q6 _;rw [h0];have hd : (key.length : Int).tdiv 4 = ((key.length / 4 : Nat) : Int) := by rw [acM (acI _)]; simp
 have w1 : acw.wrap ((key.length : Int).tdiv 4) = ((key.length / 4 : Nat) : Int) := by rw [hd, wrap64 (by omega) (by omega)]
 have t := Wy (ok := true) (key := key) (dn := 0) (mu := 1) (sm := sm) (b := b) (tw := tw) (n := n) (ta := ta) (out := out) (rn := []);have s := XZ (kb := key) (q := key.length / 4) (nk := ((key.length / 4 : Nat) : Int)) (ok := true) (key := key) (dn := 0) (mu := 1) (sm := sm) (sb := OY 256) (bk := Rf 256) (yb := Ns 256) (b := b) (tw := tw) (n := n) (ta := ta) (out := out) (rn := []) (by omega) (by omega);have w := X0 (kb := key) (nk := key.length / 4) (ok := true) (key := key) (dn := 0) (mu := 1) (sm := sm) (bk := Rf 256) (yb := Ns 256) (b := b) (tw := tw) (n := n) (ta := ta) (out := out) (rn := []) (by omega) (by omega) hb;have r := Wx (W := OJ key) (q := key.length / 4 + 7) (ok := true) (key := key) (dn := 0) (mu := 1) (sm := sm) (sb := OY 256) (bk := Rf 256) (yb := Ns 256) (b := b) (tw := tw) (n := n) (ta := ta) (out := out) (QO key hb) (by rw [Qq]; omega) (by omega);have hs : N_.run .lim (true, ()) = some 1 := rfl;have hw : (sched (key.length / 4) key (3 * (key.length / 4) + 28)).1 = OJ key := rfl;simp only [MO.b6, decide_true, acC, acK, cond_true, t, acv, Nk (show (key.length : Int) < 9223372036854775808 by omega), w1];rw [s];simp only [acv];rw [w];simp only [acv];rw [hw, r];simp only [acv, hs, show aef.wrap (1 + -1) = 0 from by decide, decide_true, acC, cond_false]
end
end Go.AM
end
section
namespace Go.AM
section
variable {ok : Bool} {n dn mu sm four x i t t1 t2 tp tq : Int} {key b tw ta out K was kb T sb bk : List Int} {yb W rn : List (List Int)} {last : Bool}
theorem XV (hb : b.length = 16) : MO.l7 .lim (0, n, b, K, tw, key, dn, mu, sm, sb, bk, yb, ta, out, rn, ()) = some (n, QW b K, tw, key, dn, mu, sm, sb, bk, yb, ta, out, rn, ()) := by
 have e := Oi (f := MO.l7 .lim) (fun k b => ((k : Int), n, b, K, tw, key, dn, mu, sm, sb, bk, yb, ta, out, rn, ())) (fun k v => Hy .u8 v (rd 0 K (k : Int))) b hb (fun k hk m' hm hj => by
  rw [MO.q7];simp only [MO.b7, MR (show (k : Int) < 16 by omega), MZ (show (0 : Int) <= k by omega) (show (k : Int) < 16 by omega), cond_true, PN k (by omega), hj k (acR _), acA])
 refine (show _ = _ from e).trans ?_;rw [MO.q7];simp only [MO.b7, MS (show ¬ ((16 : Nat) : Int) < 16 by decide), cond_false];rfl
theorem Wu (hb : Sj b) : MO.l8 .lim (0, last, tp, tq, t1, t2, n, b, key, dn, mu, sm, OY 256, bk, yb, K, rn, tw, ta, out, ()) = some (last, tp, tq, t1, t2, n, tab 16 fun i => Td (rd 0 b (i : Int)), K, rn, tw, key, dn, mu, sm, OY 256, bk, yb, ta, out, ()) := by
 have e := Oi (f := MO.l8 .lim) (fun k b => ((k : Int), last, tp, tq, t1, t2, n, b, key, dn, mu, sm, OY 256, bk, yb, K, rn, tw, ta, out, ())) (fun k v => Td v) b hb.1 (fun k hk m' hm hj => by
  rw [MO.q8];have h := hb.at hk;simp only [MO.b8, MR (show (k : Int) < 16 by omega), MZ (show (0 : Int) <= k by omega) (show (k : Int) < 16 by omega), cond_true, PN k (by omega), hj k (acR _), MZ h.1 h.2, PX h, acA])
 refine (show _ = _ from e).trans ?_;rw [MO.q8];simp only [MO.b8, MS (show ¬ ((16 : Nat) : Int) < 16 by decide), cond_false]
theorem Y3 (hb : b.length = 16) : MO.l9 .lim (4, 0, last, tp, tq, t1, t2, n, b, was, K, rn, tw, key, dn, mu, sm, sb, bk, yb, ta, out, ()) = some (last, tp, tq, t1, t2, n, tab 16 fun i => rd 0 was (((i + 4 * (i % 4)) % 16 : Nat) : Int), K, rn, tw, key, dn, mu, sm, sb, bk, yb, ta, out, ()) := by
 have e := Oi (f := MO.l9 .lim) (fun k b => (4, (k : Int), last, tp, tq, t1, t2, n, b, was, K, rn, tw, key, dn, mu, sm, sb, bk, yb, ta, out, ())) (fun k v => rd 0 was (((k + 4 * (k % 4)) % 16 : Nat) : Int)) b hb (fun k hk m' hm hj => by
  rw [MO.q9];have m1 : ((k : Int)).tmod 4 = ((k % 4 : Nat) : Int) := by rw [acF (acI k)]; simp
  have w1 : acw.wrap (4 * (k : Int).tmod 4) = ((4 * (k % 4) : Nat) : Int) := by rw [m1, wrap64 (by omega) (by omega)]; omega
  have w2 : acw.wrap ((k : Int) + ((4 * (k % 4) : Nat) : Int)) = ((k + 4 * (k % 4) : Nat) : Int) := by rw [wrap64 (by omega) (by omega)]; omega
  have w3 : acw.wrap (((k + 4 * (k % 4) : Nat) : Int) + 64) = ((k + 4 * (k % 4) + 64 : Nat) : Int) := by rw [wrap64 (by omega) (by omega)]; omega
  have m2 : (((k + 4 * (k % 4) + 64 : Nat) : Int)).tmod 16 = (((k + 4 * (k % 4)) % 16 : Nat) : Int) := by rw [acF (acI _)]; omega
  simp only [MO.b9, MR (show (k : Int) < 16 by omega), MZ (show (0 : Int) <= k by omega) (show (k : Int) < 16 by omega), cond_true, PN k (by omega), w1, w2, w3, m2, MZ (show (0 : Int) <= (((k + 4 * (k % 4)) % 16 : Nat) : Int) by omega) (show (((k + 4 * (k % 4)) % 16 : Nat) : Int) < 16 by omega), acA])
 refine (show _ = _ from e).trans ?_;rw [MO.q9];simp only [MO.b9, MS (show ¬ ((16 : Nat) : Int) < 16 by decide), cond_false]
abbrev Px : List Int := [2, 3, 1, 1]
theorem Y1 (hw : Sj was) {i : Nat} (hi : i < 16) (hb : b.length = 16) (h0 : rd 0 b (i : Int) = 0) : MO.l10 .lim ((i : Int), t, Px, 0, tp, tq, t1, t2, n, key, dn, mu, sm, sb, bk, Ns 256, b, Px, was, K, rn, tw, ta, out, ()) = some (t, tp, tq, t1, t2, n, key, dn, mu, sm, sb, bk, Ns 256, b.set i (rd 0 (QM was) (i : Int)), Px, was, K, rn, tw, ta, out, ()) := by
 have h4 : ∀ j : Nat, j < 4 -> acw.wrap (acw.wrap (acw.wrap ((i : Int).tdiv 4) * 4) + (acw.wrap ((i : Int) + (j : Int))).tmod 4) = ((i / 4 * 4 + (i + j) % 4 : Nat) : Int) := by
  intro j hj;have d1 : ((i : Int)).tdiv 4 = ((i / 4 : Nat) : Int) := by rw [acM (acI i)]; simp
  have d2 : acw.wrap ((i : Int) + (j : Int)) = ((i + j : Nat) : Int) := by rw [wrap64 (by omega) (by omega)]; omega
  have d3 : (((i + j : Nat) : Int)).tmod 4 = (((i + j) % 4 : Nat) : Int) := by rw [acF (acI _)]; simp
  rw [d1, d2, d3, wrap64 (n := ((i / 4 : Nat) : Int)) (by omega) (by omega), wrap64 (n := ((i / 4 : Nat) : Int) * 4) (by omega) (by omega), wrap64 (by omega) (by omega)]; omega
 have hB : ∀ j : Nat, j < 4 -> B8 (rd 0 was ((i / 4 * 4 + (i + j) % 4 : Nat) : Int)) := fun j hj => hw.at (by omega)
 have g0 := h4 0 (by omega); have g1 := h4 1 (by omega); have g2 := h4 2 (by omega); have g3 := h4 3 (by omega);have b0 := hB 0 (by omega); have b1 := hB 1 (by omega); have b2 := hB 2 (by omega); have b3 := hB 3 (by omega);rw [show ((0 : Nat) : Int) = 0 from rfl] at g0;rw [show ((1 : Nat) : Int) = 1 from rfl] at g1;rw [show ((2 : Nat) : Int) = 2 from rfl] at g2;rw [show ((3 : Nat) : Int) = 3 from rfl] at g3;have r0 := (PU b0).2.1; have r1 := (PU b1).2.2; have r2 := (PU b2).1; have r3 := (PU b3).1;have step : ∀ (c : Int) (j j' : Int) (q : Nat) (v : Int) (bb : List Int), bb.length = 16 -> 0 <= j -> j < 4 -> rd 0 Px j = c -> 0 <= c -> c < 16 -> acw.wrap (j + 1) = j' -> acw.wrap (acw.wrap (acw.wrap ((i : Int).tdiv 4) * 4) + (acw.wrap ((i : Int) + j)).tmod 4) = (q : Int) -> q < 16 -> rd 0 (rd NC (Ns 256) c) (rd 0 was (q : Int)) = v -> B8 (rd 0 was (q : Int)) ->
   MO.l10 .lim ((i : Int), t, Px, j, tp, tq, t1, t2, n, key, dn, mu, sm, sb, bk, Ns 256, bb, Px, was, K, rn, tw, ta, out, ()) = MO.l10 .lim ((i : Int), t, Px, j', tp, tq, t1, t2, n, key, dn, mu, sm, sb, bk, Ns 256, bb.set i (Hy .u8 (rd 0 bb (i : Int)) v), Px, was, K, rn, tw, ta, out, ()) := by
  intro c j j' q v bb hbb h1 h2 h3 h4 h5 h6 h7 h8 h9 h10;rw [MO.q10];simp only [MO.b10, MR h2, MZ h1 h2, h3, MZ h4 h5, h7, MZ (show (0 : Int) <= i by omega) (show (i : Int) < 16 by omega), MZ (show (0 : Int) <= (q : Int) by omega) (show (q : Int) < 16 by omega), MZ h10.1 h10.2, h9, h6, cond_true, acA]
 rw [step 2 0 1 _ _ b hb (by omega) (by omega) rfl (by omega) (by omega) rfl g0 (by omega) r0 b0];rw [step 3 1 2 _ _ _ (by simp [hb]) (by omega) (by omega) rfl (by omega) (by omega) rfl g1 (by omega) r1 b1];rw [step 1 2 3 _ _ _ (by simp [hb]) (by omega) (by omega) rfl (by omega) (by omega) rfl g2 (by omega) r2 b2];rw [step 1 3 4 _ _ _ (by simp [hb]) (by omega) (by omega) rfl (by omega) (by omega) rfl g3 (by omega) r3 b3];rw [MO.q10];simp only [MO.b10, MS (show ¬ (4 : Int) < 4 by omega), cond_false];have hl : ∀ v, i < (b.set i v).length := fun v => by simp [hb]; omega
 simp only [Rl (show i < b.length by omega), Rl (hl _), adQ, h0];unfold QM;rw [PY hi];simp only [aec]
theorem ZO (hw : Sj was) (hb : b.length = 16) : MO.W9 .lim (0, tp, tq, t1, t2, n, key, dn, mu, sm, sb, bk, Ns 256, b, Px, was, K, rn, tw, ta, out, ()) = some (tp, tq, t1, t2, n, QM was, K, rn, tw, key, dn, mu, sm, sb, bk, Ns 256, ta, out, ()) := by
 have e := Oi (f := MO.W9 .lim) (fun k b => ((k : Int), tp, tq, t1, t2, n, key, dn, mu, sm, sb, bk, Ns 256, b, Px, was, K, rn, tw, ta, out, ())) (fun k v => rd 0 (QM was) (k : Int)) b hb (fun k hk m' hm hj => by
  rw [MO.q11];have hm := fun h0 => Y1 (tp := tp) (tq := tq) (t1 := t1) (t2 := t2) (key := key) (dn := dn) (mu := mu) (sm := sm) (sb := sb) (bk := bk) (K := K) (rn := rn) (tw := tw) (t := (k : Int)) (n := n) (ta := ta) (out := out) hw (b := m'.set k 0) hk (by simp [hm]) h0
  simp only [MO.b11, MR (show (k : Int) < 16 by omega), MZ (show (0 : Int) <= k by omega) (show (k : Int) < 16 by omega), cond_true, acA];rw [hm (Rl (by omega))];simp only [acv, PN k (by omega), adQ])
 refine (show _ = _ from e).trans ?_;rw [MO.q11];simp only [MO.b11, MS (show ¬ ((16 : Nat) : Int) < 16 by decide), cond_false];have : (tab 16 fun i => rd 0 (QM was) (i : Int)) = QM was := (TY Ou).symm;rw [this]
theorem Wv (hb : b.length = 16) : MO.l12 .lim (0, tp, tq, t1, t2, n, b, K, rn, tw, key, dn, mu, sm, sb, bk, yb, ta, out, ()) = some (tp, tq, t1, t2, n, rn, QW b K, tw, key, dn, mu, sm, sb, bk, yb, ta, out, ()) := by
 have e := Oi (f := MO.l12 .lim) (fun k b => ((k : Int), tp, tq, t1, t2, n, b, K, rn, tw, key, dn, mu, sm, sb, bk, yb, ta, out, ())) (fun k v => Hy .u8 v (rd 0 K (k : Int))) b hb (fun k hk m' hm hj => by
  rw [MO.q12];simp only [MO.b12, MR (show (k : Int) < 16 by omega), MZ (show (0 : Int) <= k by omega) (show (k : Int) < 16 by omega), cond_true, PN k (by omega), hj k (acR _), acA])
 refine (show _ = _ from e).trans ?_;rw [MO.q12];simp only [MO.b12, MS (show ¬ ((16 : Nat) : Int) < 16 by decide), cond_false];rfl
theorem XY (b : List Int) : (tab 16 fun i => rd 0 (tab 16 fun i => Td (rd 0 b (i : Int))) (((i + 4 * (i % 4)) % 16 : Nat) : Int)) = Qx b := Oq fun k hk => by rw [PY (by omega)]
theorem UD (hb : Sj b) : Sj (Qx b) := ⟨Ou, TI fun k hk => Vp (hb.at (by omega))⟩
theorem ZN {r : Nat} (hW : Words W) (hl : W.length = 4 * (r + 1)) (hr : r <= 100) (hr0 : 0 < r) (hb : b.length = 16) :
  MO.UR .lim (1, ((r : Nat) : Int), ((r : Nat) : Int), 0, n, NU W, Qu W b 0, tw, key, dn, mu, sm, OY 256, bk, Ns 256, ta, out, ()) = some (n, Qu W b r, tw, key, dn, mu, sm, OY 256, bk, Ns 256, ta, out, NU W, ()) := by
 have hn : (NU W).length = r + 1 := by unfold NU; simp; omega
 have e := NP (f := MO.UR .lim) (fun k => (1, (r : Int), (r : Int), (k : Int), n, NU W, Qu W b k, tw, key, dn, mu, sm, OY 256, bk, Ns 256, ta, out, ())) (n := r) (fun k hk => by
  rw [MO.q13];have hB := TQ W b k;have hK : rd TL (NU W) (1 + (k : Int)) = Qg W (k + 1) := by
   rw [show (1 + (k : Int)) = ((k + 1 : Nat) : Int) by omega, PI (by omega)];unfold NU; simp
  have w1 : acw.wrap (((NU W).length : Int) - 2) = (r : Int) - 1 := by rw [wrap64 (by omega) (by omega)]; omega
  have hlast : decide ((k : Int) = (r : Int) - 1) = decide (k + 2 = W.length / 4) := by
   by_cases h : k + 1 = r
   ·rw [MR (by omega), MR (by omega)]
   ·rw [MS (by omega), MS (by omega)]
  simp only [MO.b13, MR (show (k : Int) < (r : Int) by omega), MZ (show (0 : Int) <= k by omega) (show (k : Int) < (r : Int) by omega), Nk (show ((NU W).length : Int) < 9223372036854775808 by omega), cond_true, hK, w1, hlast, Wu hB, acv];rw [Y3 Ou];simp only [acv, XY];have hs := UD hB;have hc : ((((acz 4 (0 : Int)).set 0 2).set 1 3).set 2 1).set 3 1 = Px := rfl;show _ = MO.UR .lim (1, (r : Int), (r : Int), ((k + 1 : Nat) : Int), n, NU W, Xn (decide (k + 2 = W.length / 4)) (Qu W b k) (Qg W (k + 1)), tw, key, dn, mu, sm, OY 256, bk, Ns 256, ta, out, ());unfold Xn;cases decide (k + 2 = W.length / 4) with
  | true =>
   simp only [acC, cond_false, cond_true];rw [Wv hs.1];simp only [acv, PN k (by omega)]
  | false =>
   simp only [acK, cond_false, cond_true, hc];rw [ZO hs hs.1];simp only [acv];have hml : (QM (Qx (Qu W b k))).length = 16 := Ou;rw [Wv hml];simp only [acv, PN k (by omega)])
 refine (show _ = _ from e).trans ?_;rw [MO.q13];simp only [MO.b13, MS (show ¬ (r : Int) < (r : Int) by omega), cond_false]
end
end Go.AM
end
section
namespace Go.AM
section
variable {ok : Bool} {n dn mu sm four x i t t1 t2 tp tq : Int} {key b tw ta out K was kb T sb bk : List Int} {yb W rn : List (List Int)} {last : Bool}
theorem WA {r : Nat} (hW : Words W) (hl : W.length = 4 * (r + 1)) (hr : r <= 100) (hr0 : 0 < r) (hb : b.length = 16) {β : Type} {Q : _ -> Option β} :
  (bif inB 0 ((NU W).length : Int) then
   ((MO.l7 .lim (0, n, b, rd TL (NU W) 0, tw, key, dn, mu, sm, OY 256, bk, Ns 256, ta, out, NU W, ())).bind fun (n, b, tw, key, dn, mu, sm, sb, bk, yb, ta, out, rn, ()) =>
    bif sK 1 (rn.length : Int) (rn.length : Int) then bif vT ((rn.length : Int) - 1) then (MO.UR .lim (1, ((rn.length : Int) - 1), ((rn.length : Int) - 1), 0, n, rn, b, tw, key, dn, mu, sm, sb, bk, yb, ta, out, ())).bind Q else none else none) else none) = Q (n, Qu W b r, tw, key, dn, mu, sm, OY 256, bk, Ns 256, ta, out, NU W, ()) := by
 have hn : (NU W).length = r + 1 := by unfold NU; simp; omega
 have h0 : rd TL (NU W) 0 = Qg W 0 := by
  have := PI (d := TL) (show 0 < (NU W).length by omega);rw [show ((0 : Nat) : Int) = 0 from rfl] at this;rw [this]; unfold NU; simp
 rw [cond_pos (MZ (by omega) (by omega)), h0, XV hb];simp only [acv];rw [cond_pos (Nq (by omega) (by omega) (by omega)), cond_pos (Nk (by omega)), show ((NU W).length : Int) - 1 = (r : Int) by omega];have := ZN (tw := tw) (key := key) (dn := dn) (mu := mu) (sm := sm) (bk := bk) (n := n) (ta := ta) (out := out) hW hl hr hr0 hb;rw [show Qu W b 0 = QW b (Qg W 0) from rfl] at this;rw [this];rfl
theorem XU (hk : key.length = 16 \/ key.length = 32) (hkb : ∀ x ∈ key, B8 x) (hb : b.length = 16) :
  MO.Ug .lim (b, n, key, 0, 0, sm, NC, NC, acz 16 NC, ta, out, [], ()) = some (n, encS key b, key, 1, 0, sm, OY 256, Rf 256, Ns 256, ta, out, NU (OJ key), ()) := by
 have h0 : MO.Ug .lim (b, n, key, 0, 0, sm, NC, NC, acz 16 NC, ta, out, [], ()) = MO.b14 .lim (MO.Ug .lim) (b, n, key, 0, 0, sm, NC, NC, acz 16 NC, ta, out, [], ()) := MO.q14 _;rw [h0];have hr := XW (sm := sm) (key := key) (b := b) (tw := TL) (n := n) (ta := ta) (out := out) hk hkb;have hW := QO key hkb;have hl : (OJ key).length = 4 * ((key.length / 4 + 6) + 1) := by rw [Qq]; omega
 have hq : (OJ key).length / 4 - 1 = key.length / 4 + 6 := by omega
 unfold MO.b14;simp only [hr, acv];refine (WA (Q := fun (n, b, tw, key, dn, mu, sm, sb, bk, yb, ta, out, rn, ()) => some (n, b, key, dn, mu, sm, sb, bk, yb, ta, out, rn, ())) hW hl (by omega) (by omega) hb).trans ?_;unfold encS;rw [hq]
theorem XT (hk : key.length = 16 \/ key.length = 32) (hkb : ∀ x ∈ key, B8 x) (hb : b.length = 16) :
  MO.Ug .lim (b, n, key, 1, 0, sm, OY 256, Rf 256, Ns 256, ta, out, NU (OJ key), ()) = some (n, encS key b, key, 1, 0, sm, OY 256, Rf 256, Ns 256, ta, out, NU (OJ key), ()) := by
 have h0 : MO.Ug .lim (b, n, key, 1, 0, sm, OY 256, Rf 256, Ns 256, ta, out, NU (OJ key), ()) = MO.b14 .lim (MO.Ug .lim) (b, n, key, 1, 0, sm, OY 256, Rf 256, Ns 256, ta, out, NU (OJ key), ()) := MO.q14 _;rw [h0];have hr : MO.l6 .lim (n, key, 1, 0, sm, OY 256, Rf 256, Ns 256, b, TL, ta, out, NU (OJ key), ()) = some (n, b, TL, key, 1, 0, sm, OY 256, Rf 256, Ns 256, ta, out, NU (OJ key), ()) := by
  rw [MO.q6];simp only [MO.b6, MS (show ¬ (1 : Int) = 0 by omega), acK, acC, cond_false]
 have hW := QO key hkb;have hl : (OJ key).length = 4 * ((key.length / 4 + 6) + 1) := by rw [Qq]; omega
 have hq : (OJ key).length / 4 - 1 = key.length / 4 + 6 := by omega
 unfold MO.b14;simp only [hr, acv];refine (WA (Q := fun (n, b, tw, key, dn, mu, sm, sb, bk, yb, ta, out, rn, ()) => some (n, b, key, dn, mu, sm, sb, bk, yb, ta, out, rn, ())) hW hl (by omega) (by omega) hb).trans ?_;unfold encS;rw [hq]
end
end Go.AM
end
section
namespace Go.AM
abbrev Bs (s : List Int) : Prop := ∀ x ∈ s, B8 x
abbrev NV : Nat := 9223372036854775808
noncomputable def encR (key b : List Int) : List Int × Int := if key.length = 16 \/ key.length = 32 then (if b.length = 16 then (encS key b, 0) else ([], 10)) else ([], 13)
theorem Xv {b : List Int} (h : b.length = 16) : (b.drop 0).take 16 = b := by rw [acX, acE (by omega)]
theorem Qp {key b : List Int} (hk : key.length < NV) (hb : b.length < NV) (hkb : Bs key) : MP.run .lim (key, b, ()) = some ((encR key b).1, (encR key b).2, ()) := by
 unfold encR;simp only [MP.run, Nb hk, Nb hb, cond_true, acL];by_cases h1 : key.length = 16 \/ key.length = 32
 ·have : (!decide ((key.length : Int) = 16) && !decide ((key.length : Int) = 32)) = false := by
   rcases h1 with h | h
   ·rw [MR (show (key.length : Int) = 16 by omega)]; rfl
   ·rw [MR (show (key.length : Int) = 32 by omega), acC, acV]
  rw [this, if_pos h1];simp only [cond_false];by_cases h2 : b.length = 16
  ·rw [MR (show (b.length : Int) = 16 by omega), if_pos h2];simp only [acC, cond_false, h2];rw [show (adw 1 16 && adw 16 16) = true from rfl, cond_true, acE (by omega), XL h1 hkb h2];simp only [acv];rw [Xv (Qe _ _).1]
  ·rw [MS (show ¬ (b.length : Int) = 16 by omega), if_neg h2];rfl
 ·rw [MS (show ¬ (key.length : Int) = 16 by omega), MS (show ¬ (key.length : Int) = 32 by omega), if_neg h1];rfl
def VD : Nat -> List Int -> List Int
 | 0, m => m
 | i + 1, m => bif !decide (rd 0 (m.set i (acy.wrap (rd 0 m (i : Int) + 1))) (i : Int) = 0) then m.set i (acy.wrap (rd 0 m (i : Int) + 1)) else VD i (m.set i (acy.wrap (rd 0 m (i : Int) + 1)))
theorem Uf : ∀ i m, (VD i m).length = m.length
 | 0, _ => rfl
 | i + 1, m => by
  rw [VD];cases decide (rd 0 (m.set i (acy.wrap (rd 0 m (i : Int) + 1))) (i : Int) = 0)
  ·simp
  ·simp [Uf i]
noncomputable def Ox (key at_ : List Int) : Nat -> List Int × List Int
 | 0 => ([], at_)
 | k + 1 => ((Ox key at_ k).1 ++ encS key (Ox key at_ k).2, VD 16 (Ox key at_ k).2)
theorem PZ (key at_ : List Int) : ∀ k, (Ox key at_ k).1.length = 16 * k /\ (Ox key at_ k).2.length = at_.length
 | 0 => ⟨rfl, rfl⟩
 | k + 1 => by
  obtain ⟨h1, h2⟩ := PZ key at_ k;exact ⟨by rw [Ox, acB, h1, (Qe _ _).1]; omega, by rw [Ox, Uf, h2]⟩
noncomputable def VW (key at_ : List Int) (n : Nat) : List Int := (Ox key at_ ((n + 15) / 16)).1.take n
theorem Us (key at_ : List Int) (n : Nat) : (VW key at_ n).length = n := by unfold VW; rw [acG, (PZ _ _ _).1]; omega
section
variable {n dn mu sm : Int} {key ta out sb bk w : List Int} {yb rn : List (List Int)}
theorem YG : ∀ (i : Nat), i <= 16 -> ∀ (ta : List Int), ta.length = 16 -> MO.l15 .lim (n, (i : Int) - 1, key, dn, mu, sm, sb, bk, yb, ta, out, rn, ()) = some (n, key, dn, mu, sm, sb, bk, yb, VD i ta, out, rn, ())
 | 0, _, ta, ht => by
  rw [MO.q15];simp only [MO.b15, MS (show ¬ (((0 : Nat) : Int) - 1 >= 0) by omega), cond_false];rfl
 | i + 1, hi, ta, ht => by
  have w1 : acw.wrap ((i : Int) - 1) = (i : Int) - 1 := wrap64 (by omega) (by omega);have ih := YG i (by omega) (ta.set i (acy.wrap (rd 0 ta (i : Int) + 1))) (by simpa using ht);rw [show ((i + 1 : Nat) : Int) - 1 = (i : Int) by omega, MO.q15, VD];simp only [MO.b15, MR (show (i : Int) >= 0 by omega), MZ (show (0 : Int) <= i by omega) (show (i : Int) < 16 by omega), cond_true, acA, w1, ih];cases decide (rd 0 (ta.set i (acy.wrap (rd 0 ta (i : Int) + 1))) (i : Int) = 0) <;> rfl
end
def Yr (key at_ : List Int) (n : Int) : Int := if n < 0 \/ n > 65536 then 13 else if key.length = 16 \/ key.length = 32 then (if at_.length = 16 then 0 else 10) else 13
noncomputable def Yt (key at_ : List Int) (n : Int) : List Int := if Yr key at_ n = 0 then VW key at_ n.toNat else []
theorem Y0 {key at_ : List Int} {q : Nat} (hk : key.length = 16 \/ key.length = 32) (hkb : Bs key) (ha : at_.length = 16) (hq : q <= 65536) :
  MO.YL .lim ((q : Int), key, 0, 0, 0, NC, NC, acz 16 NC, at_, [], [], ()) = some ((q : Int), (Ox key at_ ((q + 15) / 16)).1, ()) := by
 have step : ∀ (k : Nat) (dn mu : Int) (sb bk : List Int) (yb rn : List (List Int)), k < (q + 15) / 16 -> MO.Ug .lim ((Ox key at_ k).2, (q : Int), key, dn, mu, 0, sb, bk, yb, (Ox key at_ k).2, (Ox key at_ k).1, rn, ()) = some ((q : Int), encS key (Ox key at_ k).2, key, 1, 0, 0, OY 256, Rf 256, Ns 256, (Ox key at_ k).2, (Ox key at_ k).1, NU (OJ key), ()) ->
   MO.YL .lim ((q : Int), key, dn, mu, 0, sb, bk, yb, (Ox key at_ k).2, (Ox key at_ k).1, rn, ()) = MO.YL .lim ((q : Int), key, 1, 0, 0, OY 256, Rf 256, Ns 256, (Ox key at_ (k + 1)).2, (Ox key at_ (k + 1)).1, NU (OJ key), ()) := by
  intro k dn mu sb bk yb rn hk e;obtain ⟨h1, h2⟩ := PZ key at_ k;have hi := YG (n := (q : Int)) (dn := 1) (mu := 0) (sm := 0) (key := key) (sb := OY 256) (bk := Rf 256) (yb := Ns 256) (rn := NU (OJ key)) (out := (Ox key at_ k).1 ++ encS key (Ox key at_ k).2) 16 (by omega) (Ox key at_ k).2 (by omega);rw [show ((16 : Nat) : Int) - 1 = 15 from rfl] at hi;rw [MO.q16];simp only [MO.b16, Nb (show (Ox key at_ k).1.length < 9223372036854775808 by omega), MR (show (((Ox key at_ k).1.length : Nat) : Int) < (q : Int) by omega), cond_true, e, acv, Xv (Qe key (Ox key at_ k).2).1, (Qe key (Ox key at_ k).2).1, hi];rw [cond_pos (MR (by omega))];rfl
 have fin : ∀ dn mu sb bk yb rn, MO.YL .lim ((q : Int), key, dn, mu, 0, sb, bk, yb, (Ox key at_ ((q + 15) / 16)).2, (Ox key at_ ((q + 15) / 16)).1, rn, ()) = some ((q : Int), (Ox key at_ ((q + 15) / 16)).1, ()) := by
  intro dn mu sb bk yb rn;obtain ⟨h1, h2⟩ := PZ key at_ ((q + 15) / 16);rw [MO.q16];simp only [MO.b16, Nb (show (Ox key at_ ((q + 15) / 16)).1.length < 9223372036854775808 by omega), MS (show ¬ (((Ox key at_ ((q + 15) / 16)).1.length : Nat) : Int) < (q : Int) by omega), cond_true, cond_false]
 by_cases h0 : q = 0
 ·subst h0;exact fin 0 0 NC NC (acz 16 NC) []
 ·obtain ⟨p, hp⟩ : ∃ p, (q + 15) / 16 = p + 1 := ⟨(q + 15) / 16 - 1, by omega⟩;have e0 := step 0 0 0 NC NC (acz 16 NC) [] (by omega) (XU (n := (q : Int)) (sm := 0) (ta := at_) (out := []) hk hkb ha);have e1 := NP (f := MO.YL .lim) (fun k => ((q : Int), key, 1, 0, 0, OY 256, Rf 256, Ns 256, (Ox key at_ (k + 1)).2, (Ox key at_ (k + 1)).1, NU (OJ key), ())) (n := p) (fun k hkp => step (k + 1) 1 0 (OY 256) (Rf 256) (Ns 256) (NU (OJ key)) (by omega) (XT (n := (q : Int)) (sm := 0) (ta := (Ox key at_ (k + 1)).2) (out := (Ox key at_ (k + 1)).1) hk hkb (by rw [(PZ _ _ _).2]; exact ha)));refine e0.trans (e1.trans ?_);rw [<- hp];exact fin _ _ _ _ _ _
theorem UF {key at_ : List Int} {n : Int} (hk : key.length < NV) (ha : at_.length < NV) (hkb : Bs key) : MO.run .lim (key, at_, n, ()) = some (Yt key at_ n, Yr key at_ n, ()) := by
 unfold Yt Yr;simp only [MO.run, Nb hk, Nb ha, cond_true, acL, OL];by_cases h0 : n < 0 \/ n > 65536
 ·rw [MR h0, if_pos h0, if_neg (by decide)]; rfl
 ·rw [MS h0, if_neg h0];simp only [cond_false];by_cases h1 : key.length = 16 \/ key.length = 32
  ·have : (!decide ((key.length : Int) = 16) && !decide ((key.length : Int) = 32)) = false := by
    rcases h1 with h | h
    ·rw [MR (show (key.length : Int) = 16 by omega)]; rfl
    ·rw [MR (show (key.length : Int) = 32 by omega), acC, acV]
   rw [this, if_pos h1];simp only [cond_false];by_cases h2 : at_.length = 16
   ·rw [MR (show (at_.length : Int) = 16 by omega), if_pos h2, if_pos rfl];simp only [acC, cond_false, h2];have hn : n = ((n.toNat : Nat) : Int) := by omega
    have hl := Y0 (q := n.toNat) h1 hkb h2 (by omega);rw [<- hn] at hl;rw [show (adw 1 16 && adw 16 16) = true from rfl, cond_true, acE (by omega), hl];simp only [acv];have := (PZ key at_ ((n.toNat + 15) / 16)).1;rw [cond_pos (Nq (by omega) (by omega) (by omega)), acX, aeb];rfl
   ·rw [MS (show ¬ (at_.length : Int) = 16 by omega), if_neg h2, if_neg (by decide)];rfl
  ·rw [MS (show ¬ (key.length : Int) = 16 by omega), MS (show ¬ (key.length : Int) = 32 by omega), if_neg h1, if_neg (by decide)];rfl
end Go.AM
end
section
namespace Go.AM
theorem Oy {n : Nat} (h : n < 9223372036854775808) : n < NV := h
def Qc (a b : List Int) : List Int := tab a.length fun i => Hy .u8 (rd 0 a (i : Int)) (rd 0 b (i : Int))
@[simp] theorem Oz (a b : List Int) : (Qc a b).length = a.length := Ou
theorem XA (a b : List Int) : Bs (Qc a b) := TI fun _ _ => RG _ _
theorem Vl {a b : List Int} {k : Nat} (h : k < a.length) : rd 0 (Qc a b) (k : Int) = Hy .u8 (rd 0 a (k : Int)) (rd 0 b (k : Int)) := PY h
theorem Ph {a b : List Int} (h : a.length <= b.length) (hb : b.length < 1000000000000) : NR.run .lim (a, b, ()) = some (Qc a b) := by
 have e := Oi (f := NR.l0 .lim) (fun k m => (b, (a.length : Int), (k : Int), m, ())) (fun k v => Hy .u8 v (rd 0 b (k : Int))) a rfl (fun k hk m' hm hj => by
  rw [NR.q0];simp only [NR.b0, MR (show (k : Int) < (a.length : Int) by omega), hm, MZ (show (0 : Int) <= k by omega) (show (k : Int) < (a.length : Int) by omega), MZ (show (0 : Int) <= k by omega) (show (k : Int) < (b.length : Int) by omega), cond_true, PN k (by omega), hj k (acR _), acA])
 simp only [NR.run, Nb (show a.length < 9223372036854775808 by omega), cond_true];rw [show (0 : Int) = ((0 : Nat) : Int) from rfl, e, NR.q0];simp only [NR.b0, MS (show ¬ (a.length : Int) < (a.length : Int) by omega), cond_false, acv];rfl
theorem YO : ∀ n : Nat, EM [0] n = acz n 0
 | 0 => rfl
 | n + 1 => by rw [EM, YO n]; rfl
theorem PL {n : Nat} (h : n <= 1000000) : N9.run .lim ((n : Int), ()) = some (acz n 0) := by
 have : strings_Repeat.run .lim ([0], (n : Int), ()) = some (acz n 0) := by
  show KY _ = _;unfold KY;rw [cond_pos (by simp; omega), acA, YO]
 simp only [N9.run, this, acv]
def Wi (b : List Int) (i : Nat) : Int := if i = 15 then I9 .u8 (rd 0 b 15) 1 else KO .u8 (I9 .u8 (rd 0 b (i : Int)) 1) (I_ .u8 (rd 0 b ((i + 1 : Nat) : Int)) 7)
def Tq (b : List Int) : List Int := if rd 0 b 0 >= 128 then (tab 16 (Wi b)).set 15 (Hy .u8 (I9 .u8 (rd 0 b 15) 1) 135) else tab 16 (Wi b)
theorem YU (b : List Int) (i : Nat) : B8 (Wi b i) := by unfold Wi; split <;> first | exact Vr _ _ | exact aaX _ _
theorem Qk (b : List Int) : Sj (Tq b) := by
 unfold Tq;split
 ·refine ⟨by simp, fun x hx => ?_⟩;rcases List.mem_or_eq_of_mem_set hx with h | rfl
  ·exact TI (fun k _ => YU b k) x h
  ·exact RG _ _
 ·exact ⟨Ou, TI fun k _ => YU b k⟩
theorem or_zero {a : Int} (h : B8 a) : KO .u8 a 0 = a := by
 show acy.wrap (acS 8 a ||| acS 8 0).toNat = a;rw [show acS 8 0 = 0#8 from rfl, BitVec.or_zero, adk, OH];unfold B8 at h;omega
def XI (b : List Int) (k : Nat) : List Int := tab 16 fun i => if k <= i then Wi b i else rd 0 b (i : Int)
theorem YB {b : List Int} {k : Nat} (hk : k < 16) : (XI b (k + 1)).set k (Wi b k) = XI b k := by
 unfold XI;rw [RZ];refine Oq fun i _ => ?_
 by_cases h1 : i = k
 ·subst h1; rw [if_pos rfl, if_pos (acR _)]
 ·rw [if_neg h1];by_cases h2 : k <= i
  ·rw [if_pos h2, if_pos (by omega)]
  ·rw [if_neg h2, if_neg (by omega)]
theorem Zk {b : List Int} {k : Nat} (hk : k < 16) : rd 0 (XI b (k + 1)) (k : Int) = rd 0 b (k : Int) := by unfold XI; rw [PY hk, if_neg (by omega)]
theorem Zb {x : Int} (h : B8 x) : acy.wrap (I_ .u8 x 7 * 135) = if x >= 128 then 135 else 0 :=
 Ov (p := fun x => acy.wrap (I_ .u8 x 7 * 135) = if x >= 128 then 135 else 0) (by decide +kernel) h
theorem VX {b : List Int} (hb : Sj b) : Ol.run .lim (b, ()) = some (Tq b, 0, ()) := by
 obtain ⟨hl, hB⟩ := hb;have h0 : ∀ (b : List Int), tab 16 (fun i => if 16 <= i then Wi b i else rd 0 b (i : Int)) = tab 16 fun i => rd 0 b (i : Int) := fun b => Oq fun i hi => by rw [if_neg (by omega)]
 have e := NP (f := Ol.l0 .lim) (fun k => ((15 : Int) - (k : Int), (if k = 0 then 0 else I_ .u8 (rd 0 b ((16 - k : Nat) : Int)) 7 : Int), XI b (16 - k), ())) (n := 16) (fun k hk => by
  rw [Ol.q0];have ei : (15 : Int) - (k : Int) = ((15 - k : Nat) : Int) := by omega
  have w1 : acw.wrap (((15 - k : Nat) : Int) - 1) = (15 : Int) - ((k + 1 : Nat) : Int) := by rw [wrap64 (by omega) (by omega)]; omega
  have hr := Zk (b := b) (k := 15 - k) (by omega);have hs := YB (b := b) (k := 15 - k) (by omega);rw [show 15 - k + 1 = 16 - k by omega] at hr hs;have hx : B8 (rd 0 b ((15 - k : Nat) : Int)) := hB _ (NY (by omega) (by omega));have hg : KO .u8 (I9 .u8 (rd 0 b ((15 - k : Nat) : Int)) 1) (if k = 0 then 0 else I_ .u8 (rd 0 b ((16 - k : Nat) : Int)) 7) = Wi b (15 - k) := by
   unfold Wi;by_cases hk0 : k = 0
   ·subst hk0; rw [if_pos rfl, if_pos (by omega), or_zero (Vr _ _)]; rfl
   ·rw [if_neg hk0, if_neg (by omega), show 15 - k + 1 = 16 - k by omega]
  have hl2 : (XI b (16 - k)).length = 16 := Ou;rw [ei];simp only [Ol.b0, MR (show ((15 - k : Nat) : Int) >= 0 by omega), hl2, MZ (show (0 : Int) <= ((15 - k : Nat) : Int) by omega) (show ((15 - k : Nat) : Int) < ((16 : Nat) : Int) by omega), cond_true, hr, w1, acA, hg, hs];rw [if_neg (by omega), show 16 - (k + 1) = 15 - k by omega])
 have hst : XI b 16 = b := by unfold XI; rw [h0, <- TY hl]
 have w0 : acw.wrap ((b.length : Int) - 1) = 15 := by rw [wrap64 (by omega) (by omega)]; omega
 rw [adS, hst, if_pos rfl, show (15 : Int) - ((0 : Nat) : Int) = 15 from rfl, if_neg (by omega), aee] at e;have e0 : XI b 0 = tab 16 (Wi b) := Oq fun i _ => by rw [if_pos (Nat.zero_le _)]
 simp only [Ol.run, Nb (show b.length < 9223372036854775808 by omega), cond_true, MR (show (b.length : Int) = 16 by omega), acC, cond_false, w0, e, e0];rw [Ol.q0];have hx0 : B8 (rd 0 b ((0 : Nat) : Int)) := hB _ (NY (by omega) (by omega));simp only [Ol.b0, MS (show ¬ ((15 : Int) - ((16 : Nat) : Int) >= 0) by omega), cond_false, acv, Ou, MZ (show (0 : Int) <= 15 by omega) (show (15 : Int) < ((16 : Nat) : Int) by omega), cond_true, Zb hx0];have h15 : rd 0 (tab 16 (Wi b)) 15 = I9 .u8 (rd 0 b 15) 1 := by
  have := PY (n := 16) (g := Wi b) (k := 15) (by omega);rw [show ((15 : Nat) : Int) = 15 from rfl] at this;rw [this]; rfl
 rw [h15];unfold Tq;rw [show ((0 : Nat) : Int) = 0 from rfl];by_cases hc : rd 0 b 0 >= 128
 ·rw [if_pos hc, if_pos hc]
 ·rw [if_neg hc, if_neg hc, xor_zero (Vr _ _), RZ];congr 2
theorem Qh {b : List Int} (hb : Sj b) : OB.run .lim (b, ()) = some (Tq b) := by simp only [OB.run, VX hb, acv]
def SI (s : List Int) : List Int := s ++ (128 :: acz (15 - s.length) 0)
theorem QV {s : List Int} (h : s.length < 16) : (SI s).length = 16 := by simp [SI]; omega
noncomputable def XE (key s : List Int) : Nat -> List Int
 | 0 => TL
 | k + 1 => encS key (Qc (XE key s k) ((s.drop (16 * k)).take 16))
theorem WE (key s : List Int) : ∀ k, Sj (XE key s k)
 | 0 => ⟨rfl, fun x hx => by rw [(ad2.1 hx).2]; exact ⟨by decide, by decide⟩⟩
 | _ + 1 => Qe _ _
noncomputable def RU (key : List Int) : List Int := Tq (encS key TL)
noncomputable def QH (key s : List Int) : List Int := if s.length = 16 then Qc s (RU key) else Qc (SI s) (Tq (RU key))
noncomputable def WG (key s : List Int) : List Int := encS key (Qc (XE key s ((s.length - 1) / 16)) (QH key (s.drop (16 * ((s.length - 1) / 16)))))
theorem SA (key s : List Int) : Sj (WG key s) := Qe _ _
theorem TR {key b : List Int} (hk : key.length = 16 \/ key.length = 32) (hb : b.length = 16) : encR key b = (encS key b, 0) := by unfold encR; rw [if_pos hk, if_pos hb]
theorem VE {key s : List Int} (h : s.length <= 16) : (QH key s).length = 16 := by
 unfold QH;split
 ·simpa
 ·rw [Oz, QV (by omega)]
section
variable {key s : List Int}
theorem QY (hk : key.length = 16 \/ key.length = 32) (hkb : Bs key) (hs : s.length < NV) : Ny.run .lim ((key, RU key, Tq (RU key)), s, ()) = some (WG key s) := by
 have z := PL (n := 16) (by omega);have hloop := NP (f := Ny.l0 .lim) (fun k => (s.drop (16 * k), key, RU key, Tq (RU key), XE key s k, key, RU key, Tq (RU key), ())) (n := (s.length - 1) / 16) (fun k hk' => by
  rw [Ny.q0];have hl : (s.drop (16 * k)).length = s.length - 16 * k := acD;have hc := WE key s k;have h1 : cut (s.drop (16 * k)) 0 16 = (s.drop (16 * k)).take 16 := by have := Qn (s.drop (16 * k)) 0 16; simpa using this
  have h2 : cut (s.drop (16 * k)) 16 ((s.drop (16 * k)).length : Int) = s.drop (16 * (k + 1)) := by
   have := Qn (s.drop (16 * k)) 16 (s.drop (16 * k)).length;rw [show ((16 : Nat) : Int) = 16 from rfl] at this;rw [this, List.drop_drop, acE (by rw [acD]; omega)];congr 1
  have hx := Ph (a := XE key s k) (b := (s.drop (16 * k)).take 16) (by rw [hc.1, acG]; omega) (by rw [acG]; omega);have he := Qp (key := key) (b := Qc (XE key s k) ((s.drop (16 * k)).take 16)) (Oy (by omega)) (by rw [Oz, hc.1]; decide) hkb;rw [TR hk (by rw [Oz, hc.1])] at he;have hlim : s.length < 9223372036854775808 := hs;simp only [Ny.b0, Nb (show (s.drop (16 * k)).length < 9223372036854775808 by omega), MR (show ((s.drop (16 * k)).length : Int) > 16 by omega), Nq (show (0 : Int) <= 0 by omega) (show (0 : Int) <= 16 by omega) (show (16 : Int) <= ((s.drop (16 * k)).length : Int) by omega), Nq (show (0 : Int) <= 16 by omega) (show (16 : Int) <= ((s.drop (16 * k)).length : Int) by omega) (acP _), cond_true, h1, h2, hx, he, acv];rfl)
 simp only [Ny.run];rw [show (16 : Int) = ((16 : Nat) : Int) from rfl, z];simp only [acv];rw [Nat.mul_zero, acX, show XE key s 0 = TL from rfl] at hloop;rw [hloop];generalize hq : (s.length - 1) / 16 = q;have hl : (s.drop (16 * q)).length = s.length - 16 * q := acD;have hlim : s.length < 9223372036854775808 := hs;rw [Ny.q0];have hc := WE key s q;have h16 : (s.drop (16 * q)).length <= 16 := by omega
 simp only [Ny.b0, Nb (show (s.drop (16 * q)).length < 9223372036854775808 by omega), MS (show ¬ ((s.drop (16 * q)).length : Int) > 16 by omega), cond_true, cond_false, acv];have he := Qp (key := key) (b := Qc (XE key s q) (QH key (s.drop (16 * q)))) (Oy (by omega)) (by rw [Oz, hc.1]; decide) hkb;rw [TR hk (by rw [Oz, hc.1])] at he;have hll := VE (key := key) h16;have hx2 := Ph (a := XE key s q) (b := QH key (s.drop (16 * q))) (by rw [hc.1, hll]; omega) (by omega);have hcm : WG key s = encS key (Qc (XE key s q) (QH key (s.drop (16 * q)))) := by unfold WG; rw [hq]
 rw [hcm];generalize hm : s.drop (16 * q) = m at *;by_cases h3 : m.length = 16
 ·rw [MR (show (m.length : Int) = ((16 : Nat) : Int) by omega)];have hx1 := Ph (a := m) (b := RU key) (by rw [h3, show (RU key).length = 16 from (Qk _).1]; omega) (by rw [show (RU key).length = 16 from (Qk _).1]; omega);have hls : QH key m = Qc m (RU key) := by unfold QH; rw [if_pos h3]
  rw [hls] at hx2 he ⊢
  simp only [cond_true, hx1, acv, hx2, he]
 ·rw [MS (show ¬ (m.length : Int) = ((16 : Nat) : Int) by omega)];have hls : QH key m = Qc (SI m) (Tq (RU key)) := by unfold QH; rw [if_neg h3]
  have w15 : acw.wrap (15 - (m.length : Int)) = ((15 - m.length : Nat) : Int) := by rw [wrap64 (by omega) (by omega)]; omega
  have hz := PL (n := 15 - m.length) (by omega);have Zc : (m ++ [128]) ++ acz (15 - m.length) (0 : Int) = SI m := by unfold SI; simp
  have hx1 := Ph (a := SI m) (b := Tq (RU key)) (by rw [QV (by omega), (Qk _).1]; omega) (by rw [(Qk _).1]; omega);rw [hls] at hx2 he ⊢
  simp only [cond_false];rw [cond_pos (MR (by unfold maxStr; simp; omega)), w15, hz];simp only [acv];rw [cond_pos (MR (by unfold maxStr; simp; omega)), Zc, hx1];simp only [acv, hx2, he]
end
end Go.AM
end
section
namespace Go.AM
noncomputable def XH (key : List Int) (l : List (List Int)) : Nat -> List Int
 | 0 => WG key TL
 | k + 1 => Qc (Tq (XH key l k)) (WG key (rd [] l (k : Int)))
noncomputable def s2E (key d s : List Int) : List Int :=
 if s.length < 16 then WG key (Qc (SI s) (Tq d)) else WG key (s.take (s.length - 16) ++ Qc (s.drop (s.length - 16)) d)
noncomputable def YQ (key : List Int) (l : List (List Int)) : List Int :=
 if l.length = 0 then WG key (acz 15 0 ++ [1]) else s2E key (XH key l (l.length - 1)) (rd [] l ((l.length - 1 : Nat) : Int))
theorem Xo (key : List Int) (l : List (List Int)) : ∀ k, Sj (XH key l k)
 | 0 => SA _ _
 | k + 1 => ⟨by rw [XH, Oz, (Qk _).1], XA _ _⟩
theorem Zm (key : List Int) (l : List (List Int)) : Sj (YQ key l) := by
 unfold YQ s2E;split
 ·exact SA _ _
 ·split <;> exact SA _ _
theorem Ze (key : List Int) : Sj (RU key) := Qk _
theorem VT {key : List Int} (hk : key.length = 16 \/ key.length = 32) (hkb : Bs key) : Qa.run .lim (key, ()) = some ((key, (RU key, Tq (RU key))), 0, ()) := by
 have z := PL (n := 16) (by omega);have aad : (acz 16 (0 : Int)).length = 16 := rfl;have he := Qp (key := key) (b := TL) (Oy (by omega)) (by rw [aad]; decide) hkb;rw [TR hk aad] at he;simp only [Qa.run];rw [show (16 : Int) = ((16 : Nat) : Int) from rfl, z];simp only [acv, he, decide_true, acC, cond_false, Qh (Qe key TL)];rw [show Tq (encS key TL) = RU key from rfl, Qh (Ze key)];rfl
section
variable {key : List Int}
theorem Yq {l : List (List Int)} (hk : key.length = 16 \/ key.length = 32) (hkb : Bs key) (hl : l.length < NV) (hs : ∀ s ∈ l, s.length < NV) :
  ND.run .lim ((key, (RU key, Tq (RU key))), l, ()) = some (YQ key l) := by
 have hlim : l.length < 9223372036854775808 := hl;simp only [ND.run, Nb hlim, cond_true];unfold YQ;by_cases h0 : l.length = 0
 ·rw [MR (show (l.length : Int) = 0 by omega), if_pos h0];have z := PL (n := 15) (by omega);simp only [cond_true];rw [show (15 : Int) = ((15 : Nat) : Int) from rfl, z];simp only [acv];rw [cond_pos (by decide), QY hk hkb (by decide)];rfl
 ·rw [MS (show ¬ (l.length : Int) = 0 by omega), if_neg h0];have z := PL (n := 16) (by omega);have w1 : acw.wrap ((l.length : Int) - 1) = ((l.length - 1 : Nat) : Int) := by rw [wrap64 (by omega) (by omega)]; omega
  have hc : cut l 0 ((l.length - 1 : Nat) : Int) = l.take (l.length - 1) := by
   have := Qn l 0 (l.length - 1);rw [show ((0 : Nat) : Int) = 0 from rfl] at this;rw [this, acX, adS]
  have htl : (l.take (l.length - 1)).length = l.length - 1 := by rw [acG]; omega
  generalize hs1 : rd ([] : List Int) l ((l.length - 1 : Nat) : Int) = s;have hsl : s.length < 9223372036854775808 := by rw [<- hs1]; exact hs _ (NY (by omega) (by omega))
  have hloop := NP (f := ND.l0 .lim) (fun k => (XH key l k, s, l.take (l.length - 1), ((l.length - 1 : Nat) : Int), (k : Int), key, RU key, Tq (RU key), ())) (n := l.length - 1) (fun k hk' => by
   rw [ND.q0];have hok := Xo key l k;have ht := QY (key := key) (s := rd [] l (k : Int)) hk hkb (hs _ (NY (by omega) (by omega)));have hx := Ph (a := Tq (XH key l k)) (b := WG key (rd [] l (k : Int))) (by rw [(Qk _).1, (SA _ _).1]; omega) (by rw [(SA _ _).1]; omega);simp only [ND.b0, MR (show (k : Int) < ((l.length - 1 : Nat) : Int) by omega), htl, MZ (show (0 : Int) <= k by omega) (show (k : Int) < ((l.length - 1 : Nat) : Int) by omega), Yl (d := ([] : List Int)) (xs := l) hk', cond_true, Qh hok, acv, ht, hx, wk k (by omega)];rfl)
  rw [show XH key l 0 = WG key TL from rfl, show ((0 : Nat) : Int) = 0 from rfl] at hloop;simp only [cond_false];rw [show (16 : Int) = ((16 : Nat) : Int) from rfl, z];simp only [acv, QY hk hkb (show (acz 16 (0 : Int)).length < NV by decide), w1, MZ (show (0 : Int) <= ((l.length - 1 : Nat) : Int) by omega) (show ((l.length - 1 : Nat) : Int) < (l.length : Int) by omega), Nq (acP 0) (show (0 : Int) <= ((l.length - 1 : Nat) : Int) by omega) (show ((l.length - 1 : Nat) : Int) <= (l.length : Int) by omega), cond_true, hc, htl, Nb (show l.length - 1 < 9223372036854775808 by omega), hs1];rw [hloop, ND.q0];simp only [ND.b0, MS (show ¬ ((l.length - 1 : Nat) : Int) < ((l.length - 1 : Nat) : Int) by omega), cond_false, acv, Nb hsl, cond_true];have w2 : acw.wrap ((s.length : Int) - ((16 : Nat) : Int)) = (s.length : Int) - 16 := by rw [wrap64 (by omega) (by omega)]; omega
  rw [w2];have hd := Xo key l (l.length - 1);unfold s2E;by_cases h3 : s.length < 16
  ·rw [MS (show ¬ ((s.length : Int) - 16 >= 0) by omega), if_pos h3];have w15 : acw.wrap (15 - (s.length : Int)) = ((15 - s.length : Nat) : Int) := by rw [wrap64 (by omega) (by omega)]; omega
   have hz := PL (n := 15 - s.length) (by omega);have Zc : (s ++ [128]) ++ acz (15 - s.length) (0 : Int) = SI s := by unfold SI; simp
   have hx := Ph (a := SI s) (b := Tq (XH key l (l.length - 1))) (by rw [QV h3, (Qk _).1]; omega) (by rw [(Qk _).1]; omega);simp only [cond_false];rw [cond_pos (MR (by unfold maxStr; simp; omega)), w15, hz];simp only [acv];rw [cond_pos (MR (by unfold maxStr; simp; omega)), Zc];simp only [Qh hd, acv, hx];rw [QY hk hkb (by rw [Oz, QV h3]; decide)];rfl
  ·rw [MR (show (s.length : Int) - 16 >= 0 by omega), if_neg h3];have e16 : (s.length : Int) - 16 = ((s.length - 16 : Nat) : Int) := by omega
   have hc1 : cut s ((s.length - 16 : Nat) : Int) (s.length : Int) = s.drop (s.length - 16) := by rw [Qn, acE (by rw [acD]; omega)]
   have hc2 : cut s 0 ((s.length - 16 : Nat) : Int) = s.take (s.length - 16) := by
    have := Qn s 0 (s.length - 16);rw [show ((0 : Nat) : Int) = 0 from rfl] at this;rw [this, acX, adS]
   have hx := Ph (a := s.drop (s.length - 16)) (b := XH key l (l.length - 1)) (by rw [acD, hd.1]; omega) (by rw [hd.1]; omega);have aaK : (s.take (s.length - 16) ++ Qc (s.drop (s.length - 16)) (XH key l (l.length - 1))).length = s.length := by rw [acB, Oz, acG, acD]; omega
   simp only [e16, cond_true, Nq (acP 0) (show (0 : Int) <= ((s.length - 16 : Nat) : Int) by omega) (show ((s.length - 16 : Nat) : Int) <= (s.length : Int) by omega), Nq (show (0 : Int) <= ((s.length - 16 : Nat) : Int) by omega) (show ((s.length - 16 : Nat) : Int) <= (s.length : Int) by omega) (acP _), hc1, hc2, hx, acv];rw [cond_pos (MR (by rw [Oz, acG, acD]; unfold maxStr; omega)), QY hk hkb (by rw [aaK]; exact hsl)];rfl
def TA (v : List Int) : List Int := (v.set 8 (I8 .u8 (rd 0 v 8) 127)).set 12 (I8 .u8 (rd 0 (v.set 8 (I8 .u8 (rd 0 v 8) 127)) 12) 127)
theorem TB (v : List Int) : (TA v).length = v.length := by simp [TA]
noncomputable def Ut (key v s : List Int) : List Int := Qc s (VW key (TA v) s.length)
theorem TG (key v s : List Int) : (Ut key v s).length = s.length := Oz _ _
theorem Yv (key v s : List Int) : Bs (Ut key v s) := XA _ _
theorem Yu {key v : List Int} {n : Nat} (hk : key.length = 16 \/ key.length = 32) (hv : v.length = 16) (hn : n <= 65536) : Yt key v (n : Int) = VW key v n := by
 unfold Yt Yr;rw [if_neg (show ¬ ((n : Int) < 0 \/ (n : Int) > 65536) by omega), if_pos hk, if_pos hv, if_pos rfl, acA]
theorem U9 {v s : List Int} (hk : key.length = 16 \/ key.length = 32) (hkb : Bs key) (hv : v.length = 16) (hs : s.length <= 65536) : OG.run .lim (key, v, s, ()) = some (Ut key v s) := by
 have ha := UF (key := key) (at_ := TA v) (n := (s.length : Int)) (Oy (by omega)) (by rw [TB, hv]; decide) hkb;rw [Yu hk (by rw [TB, hv]) hs] at ha;have hx := Ph (a := s) (b := VW key (TA v) s.length) (by rw [Us]; omega) (by rw [Us]; omega);unfold TA at ha hx;simp only [OG.run, adN, hv, MZ (show (0 : Int) <= 8 by omega) (show (8 : Int) < ((16 : Nat) : Int) by omega), MZ (show (0 : Int) <= 12 by omega) (show (12 : Int) < ((16 : Nat) : Int) by omega), Nb (show s.length < 9223372036854775808 by omega), cond_true, ha, acv, hx];rfl
abbrev Ql (key : List Int) : List Int := key.take (key.length / 2)
abbrev SB (key : List Int) : List Int := key.drop (key.length / 2)
def SX (key : List Int) (ad : List (List Int)) : Int := if key.length = 32 \/ key.length = 64 then (if ad.length >= 127 then 18 else 0) else 13
noncomputable def P8 (key sealed : List Int) : List Int := Ut (SB key) (sealed.take 16) (sealed.drop 16)
noncomputable def Uj (key : List Int) (ad : List (List Int)) (sealed : List Int) : List Int × Int :=
 if SX key ad = 0 then (if sealed.length < 16 then ([], 11) else if sealed.length > 65552 then ([], 12) else
  if YQ (Ql key) (ad ++ [P8 key sealed]) = sealed.take 16 then (P8 key sealed, 0) else ([], 17)) else ([], SX key ad)
theorem TP {s : List Int} (h : Bs s) (n : Nat) : Bs (s.take n) := fun x hx => h x (ac0 hx)
theorem X5 {s : List Int} (h : Bs s) (n : Nat) : Bs (s.drop n) := fun x hx => h x (adh hx)
theorem SC {key : List Int} (h : key.length = 32 \/ key.length = 64) : ((Ql key).length = 16 \/ (Ql key).length = 32) /\ ((SB key).length = 16 \/ (SB key).length = 32) := by
 unfold Ql SB;rw [acG, acD]; omega
theorem U8 {ad : List (List Int)} (hk : key.length < NV) (hkb : Bs key) (ha : ad.length < NV) :
  ∃ r r1, OE.run .lim (key, ad, ()) = some (r, r1, SX key ad, ()) /\ (SX key ad = 0 -> r = (Ql key, (RU (Ql key), Tq (RU (Ql key)))) /\ r1 = SB key) := by
 have aaJ : key.length < 9223372036854775808 := hk;have aaI : ad.length < 9223372036854775808 := ha;have hd : (key.length : Int).tdiv 2 = ((key.length / 2 : Nat) : Int) := by rw [acM (acI _)]; simp
 have w1 : acw.wrap ((key.length : Int).tdiv 2) = ((key.length / 2 : Nat) : Int) := by rw [hd, wrap64 (by omega) (by omega)]
 unfold SX;simp only [OE.run, Nb aaJ, Nb aaI, cond_true, acL, w1];by_cases h1 : key.length = 32 \/ key.length = 64
 ·have : (!decide ((key.length : Int) = 32) && !decide ((key.length : Int) = 64)) = false := by
   rcases h1 with h | h
   ·rw [MR (show (key.length : Int) = 32 by omega)]; rfl
   ·rw [MR (show (key.length : Int) = 64 by omega), acC, acV]
  rw [this, if_pos h1];simp only [cond_false];by_cases h2 : ad.length >= 127
  ·rw [MR (show (ad.length : Int) >= 127 by omega), if_pos h2];exact ⟨_, _, rfl, fun h => absurd h (by decide)⟩
  ·rw [MS (show ¬ (ad.length : Int) >= 127 by omega), if_neg h2];have hc1 : cut key 0 ((key.length / 2 : Nat) : Int) = Ql key := by
    have := Qn key 0 (key.length / 2);rw [show ((0 : Nat) : Int) = 0 from rfl] at this;rw [this, acX, adS]
   have hc2 : cut key ((key.length / 2 : Nat) : Int) (key.length : Int) = SB key := by rw [Qn, acE (by rw [acD]; omega)]
   simp only [cond_false, Nq (acP 0) (show (0 : Int) <= ((key.length / 2 : Nat) : Int) by omega) (show ((key.length / 2 : Nat) : Int) <= (key.length : Int) by omega), Nq (show (0 : Int) <= ((key.length / 2 : Nat) : Int) by omega) (show ((key.length / 2 : Nat) : Int) <= (key.length : Int) by omega) (acP _), cond_true, hc1, hc2, VT (SC h1).1 (TP hkb _), acv];exact ⟨_, _, rfl, fun _ => ⟨rfl, rfl⟩⟩
 ·rw [MS (show ¬ (key.length : Int) = 32 by omega), MS (show ¬ (key.length : Int) = 64 by omega), if_neg h1];exact ⟨_, _, rfl, fun h => absurd h (by decide)⟩
theorem VU {ad : List (List Int)} (h : SX key ad = 0) : (key.length = 32 \/ key.length = 64) /\ ad.length < 127 := by
 unfold SX at h;split at h
 ·split at h
  ·exact absurd h (by decide)
  ·exact ⟨by assumption, by omega⟩
 ·exact absurd h (by decide)
theorem WC {ad : List (List Int)} (h : ad.length < 4398046511104) : Na.run .lim (ad, ()) = some ad := by
 simp only [Na.run];rw [cond_pos (MR (by simpa using h)), adv]
theorem V3 {a b : List Int} (h : a.length = b.length) (ha : Bs a) (hb : Bs b) : Qc a b = acz a.length 0 ↔ b = a := by
 constructor
 ·intro e;refine (TV (d := 0) h.symm fun k hk => ?_);have h1 : rd 0 (Qc a b) (k : Int) = 0 := by rw [e, PI (by simp; omega)]; simp
  rw [Vl (by omega)] at h1;have := xor_assoc (rd 0 a (k : Int)) (rd 0 b (k : Int)) (rd 0 b (k : Int));rw [h1, xor_self, zero_xor (hb _ (NY (by omega) (by omega))), xor_zero (ha _ (NY (by omega) (by omega)))] at this;exact this
 ·rintro rfl
  refine TV (d := 0) (by simp) fun k hk => ?_
  rw [Oz] at hk;rw [Vl hk, xor_self, PI (by simpa using hk)]; simp
theorem Xr {ad : List (List Int)} {sealed : List Int} (hk : key.length < NV) (hkb : Bs key) (ha : ad.length < NV) (had : ∀ s ∈ ad, s.length < NV) (hp : sealed.length < NV) (hpb : Bs sealed) :
  Qy.run .lim (key, ad, sealed, ()) = some ((Uj key ad sealed).1, (Uj key ad sealed).2, ()) := by
 obtain ⟨r, r1, e, hz⟩ := U8 hk hkb ha;have hp63 : sealed.length < 9223372036854775808 := hp;unfold Uj;simp only [Qy.run, e, acv, Nb hp63, cond_true];by_cases h0 : SX key ad = 0
 ·obtain ⟨rfl, rfl⟩ := hz h0;obtain ⟨h1, h2⟩ := VU h0;obtain ⟨g1, g2⟩ := SC h1;rw [MR h0, if_pos h0];simp only [acC, cond_false];by_cases h3 : sealed.length < 16
  ·rw [MR (show (sealed.length : Int) < 16 by omega), if_pos h3]; rfl
  ·rw [MS (show ¬ (sealed.length : Int) < 16 by omega), if_neg h3];simp only [cond_false];by_cases h4 : sealed.length > 65552
   ·rw [MR (show (sealed.length : Int) > 65552 by omega), if_pos h4]; rfl
   ·rw [MS (show ¬ (sealed.length : Int) > 65552 by omega), if_neg h4];have hc1 : cut sealed 0 16 = sealed.take 16 := by
     have := Qn sealed 0 16;simpa using this
    have hc2 : cut sealed 16 (sealed.length : Int) = sealed.drop 16 := by
     have := Qn sealed 16 sealed.length;rw [show ((16 : Nat) : Int) = 16 from rfl] at this;rw [this, acE (by rw [acD]; omega)]
    have ht : (sealed.take 16).length = 16 := by rw [acG]; omega
    have hdl : (sealed.drop 16).length = sealed.length - 16 := acD;have hol : (P8 key sealed).length = sealed.length - 16 := by unfold P8; rw [TG, hdl]
    have hall : ∀ s ∈ ad ++ [P8 key sealed], s.length < NV := fun s hs => by
     rcases adb.1 hs with hs | hs
     ·exact had s hs
     ·rw [ac5.1 hs, hol]; exact Oy (by omega)
    have hv := Zm (Ql key) (ad ++ [P8 key sealed]);have z := PL (n := 16) (by omega);have hx := Ph (a := sealed.take 16) (b := YQ (Ql key) (ad ++ [P8 key sealed])) (by rw [ht, hv.1]; omega) (by rw [hv.1]; omega);have hst := U9 (v := sealed.take 16) (s := sealed.drop 16) g2 (X5 hkb _) ht (by omega);rw [show Ut (SB key) (sealed.take 16) (sealed.drop 16) = P8 key sealed from rfl] at hst;simp only [cond_false, Nq (acP 0) (show (0 : Int) <= 16 by omega) (show (16 : Int) <= (sealed.length : Int) by omega), Nq (show (0 : Int) <= 16 by omega) (show (16 : Int) <= (sealed.length : Int) by omega) (acP _), cond_true, hc1, hc2, hst, acv, WC (show ad.length < 4398046511104 by omega)];rw [cond_pos (MR (by simp; omega)), Yq g1 (TP hkb _) (Oy (by simp; omega)) hall];simp only [acv, hx];rw [show (16 : Int) = ((16 : Nat) : Int) from rfl, z];simp only [acv];have hiff := V3 (a := sealed.take 16) (b := YQ (Ql key) (ad ++ [P8 key sealed])) (by rw [ht, hv.1]) (TP hpb _) hv.2;rw [ht] at hiff;by_cases h5 : YQ (Ql key) (ad ++ [P8 key sealed]) = sealed.take 16
    ·rw [MR (hiff.2 h5), if_pos h5]; rfl
    ·rw [MS (fun q => h5 (hiff.1 q)), if_neg h5]; rfl
 ·rw [MS h0, if_neg h0];rfl
end
end Go.AM
end
section
namespace Go.AM
theorem Yn (key : List Int) (ad : List (List Int)) (p t : List Int) : RJ (key, ad, p, t) = RJ (key, ad, [], []) := rfl
noncomputable def TD (xs : List KK) (key : List Int) (ad : List (List Int)) (t : List Int) : List Int × Int :=
 if RJ (key, ad, [], []) = 0 then (if t.length < 16 then ([], 11) else if t.length > 65552 then ([], 12) else
  match (acJ xs.length).find? (fun j : Nat => hit key ad t (rd k0 xs (j : Int))) with
  | some k => ((rd k0 xs (k : Int)).2.2.1, 0)
  | none => ([], 17)) else ([], RJ (key, ad, [], []))
noncomputable def OW (v : VV) (key : List Int) (ad : List (List Int)) (t : List Int) : List Int × Int := bif v.1 then TD v.2 key ad t else Uj key ad t
structure ZR (key : List Int) (ad : List (List Int)) (s : List Int) : Prop where
 k : key.length < NV
 kb : Bs key
 a : ad.length < NV
 al : ∀ t ∈ ad, t.length < NV
 s : s.length < NV
theorem Xl (key : List Int) (ad : List (List Int)) : SX key ad = RJ (key, ad, [], []) := by
 show _ = if key.length ≠ 32 /\ key.length ≠ 64 then 13 else if ad.length > 126 then 18 else 0
 unfold SX;by_cases h : key.length = 32 \/ key.length = 64
 ·rw [if_pos h, if_neg (show ¬ (key.length ≠ 32 /\ key.length ≠ 64) by omega)];by_cases h2 : ad.length >= 127
  ·rw [if_pos h2, if_pos (show ad.length > 126 by omega)]
  ·rw [if_neg h2, if_neg (show ¬ ad.length > 126 by omega)]
 ·rw [if_neg h, if_pos (show key.length ≠ 32 /\ key.length ≠ 64 by omega)]
theorem U1 (xs : List KK) (key : List Int) (ad : List (List Int)) (t : List Int) (hx : xs.length < NV) (hok : ∀ k ∈ xs, okK k) (ha : ad.length < NV) :
  NM.l0 .lim (xs, (xs.length : Int), 0, key, ad, [], t, xs, ()) = match (acJ xs.length).find? (fun j : Nat => hit key ad t (rd k0 xs (j : Int))) with
   | some k => some (.inl ((k : Int), xs, ()))
   | none => some (.inr (xs, ())) := by
 have aac : xs.length < 9223372036854775808 := hx;have e := PD (f := NM.l0 .lim) (fun k => (xs, (xs.length : Int), (k : Int), key, ad, [], t, xs, ())) xs.length (fun j : Nat => hit key ad t (rd k0 xs (j : Int))) (fun k => some (.inl ((k : Int), xs, ()))) (fun k hk => by
  rw [NM.q0];have hm : okK (rd k0 xs k) := hok _ (NY (by omega) (by omega));simp only [NM.b0, WL _ _ hm.2.1 ha, wk k (by omega), MR (show (k : Int) < (xs.length : Int) by omega), MZ (show (0 : Int) <= k by omega) (show (k : Int) < xs.length by omega)];unfold hit;cases decide ((rd k0 xs k).2.2.2 = t) && decide ((rd k0 xs k).1 = key) <;> simp only [cond_true, cond_false, acv, adr, acL, ac8, adC, ac4, acV, acW, adt, ade, acC, acK, ady, acQ, adK])
 rw [show ((0 : Nat) : Int) = 0 from rfl] at e;rw [e];cases (acJ xs.length).find? (fun j : Nat => hit key ad t (rd k0 xs (j : Int))) with
 | some k => rfl
 | none =>
  simp only;rw [NM.q0];simp only [NM.b0, MS (show ¬ (xs.length : Int) < (xs.length : Int) by omega), cond_false]
theorem Xi {v : VV} (hv : okV v) {key : List Int} {ad : List (List Int)} {t : List Int} (T : ZR key ad t) (htb : Bs t) :
  NM.run .lim (v, key, ad, t, ()) = some ((OW v key ad t).1, (OW v key ad t).2, ()) := by
 obtain ⟨b, xs⟩ := v;have hx : xs.length < NV := hv.1;have hp63 : t.length < 9223372036854775808 := T.s;have aac : xs.length < 9223372036854775808 := hx;unfold OW;cases b with
 | false =>
  have hs := Xr T.k T.kb T.a T.al T.s htb;simp only [NM.run, OA.run, hs, acv, cond_false]
 | true =>
  have hr := U5 (key, ad, [], t) T.k T.a;rw [Yn] at hr;have hf' := U1 xs key ad t hx hv.2 T.a;simp only [NM.run, hr, acv, Nb hp63, Nb aac, cond_true, hf'];unfold TD;by_cases h0 : RJ (key, ad, [], []) = 0
  ·rw [MR h0, if_pos h0];simp only [acC, cond_false];by_cases h1 : t.length < 16
   ·rw [MR (show (t.length : Int) < 16 by omega), if_pos h1]; rfl
   ·rw [MS (show ¬ (t.length : Int) < 16 by omega), if_neg h1];by_cases h2 : t.length > 65552
    ·rw [MR (show (t.length : Int) > 65552 by omega), if_pos h2]; rfl
    ·rw [MS (show ¬ (t.length : Int) > 65552 by omega), if_neg h2];simp only [cond_false];cases hq : (acJ xs.length).find? (fun j : Nat => hit key ad t (rd k0 xs (j : Int))) with
     | some k =>
      have hk : k < xs.length := acY.1 (adz hq);simp only [acv];rw [cond_neg (MS (by omega)), cond_pos (MZ (by omega) (by omega))]
     | none => rfl
  ·rw [MS h0, if_neg h0]; rfl
end Go.AM
end
section
namespace Go.AM
theorem X9 {xs : List KK} (h : WS (true, xs) = true) : xs.length <= 2048 /\ ∀ i, i < xs.length -> Y5 xs i = false := by
 unfold WS at h;simp only [cond_true, acT, decide_eq_true_eq, adf, List.any_eq_false, acY] at h;exact ⟨h.1, fun i hi => by simpa using h.2 i hi⟩
theorem Za {xs : List KK} (h : WS (true, xs) = true) {i : Nat} (hi : i < xs.length) : (rd k0 xs (i : Int)).2.2.2 = txt ((i + 1 : Nat) : Int) (rd k0 xs (i : Int)).2.2.1 /\ (rd k0 xs (i : Int)).2.2.1.length <= 65536 := by
 have := (X9 h).2 i hi;unfold Y5 at this;simp only [adg, adX, decide_eq_true_eq, decide_eq_false_iff_not] at this;exact ⟨by rw [this.1.2]; congr 1, by omega⟩
theorem YC (n : Int) (p : List Int) : (txt n p).length = p.length + 16 := by simp [txt, YM]; omega
end Go.AM
end
section
namespace Go.AM
def vB (v : VV) : Prop := ∀ k ∈ v.2, Bs k.2.2.1
def Ext (v w : VV) : Prop := v.1 = w.1 /\ ∃ l, w.2 = v.2 ++ l
theorem Ext.trans {u v w : VV} (a : Ext u v) (b : Ext v w) : Ext u w := by
 obtain ⟨l, hl⟩ := a.2; obtain ⟨m, hm⟩ := b.2;exact ⟨a.1.trans b.1, l ++ m, by rw [hm, hl, acU]⟩
theorem U0 {xs : List KK} {key : List Int} {ad : List (List Int)} {t : List Int} (h : (TD xs key ad t).2 = 0) :
  ∃ k, k < xs.length /\ rd k0 xs (k : Int) = (key, ad, (TD xs key ad t).1, t) := by
 unfold TD at h ⊢
 by_cases h0 : RJ (key, ad, [], []) = 0
 ·rw [if_pos h0] at h ⊢
  by_cases h1 : t.length < 16
  ·rw [if_pos h1] at h; exact absurd h (by decide)
  ·rw [if_neg h1] at h ⊢
   by_cases h2 : t.length > 65552
   ·rw [if_pos h2] at h; exact absurd h (by decide)
   ·rw [if_neg h2] at h ⊢
    cases hq : (acJ xs.length).find? (fun j : Nat => hit key ad t (rd k0 xs (j : Int))) with
    | none => rw [hq] at h; exact absurd h (show (17 : Int) ≠ 0 by decide)
    | some k =>
     have hh : hit key ad t (rd k0 xs (k : Int)) = true := by simpa using adu hq
     unfold hit at hh;simp only [acT, decide_eq_true_eq] at hh;obtain ⟨⟨a1, a2⟩, a3⟩ := hh;refine ⟨k, acY.1 (adz hq), ?_⟩;simp only;rw [<- a1, <- a2, <- a3]
 ·rw [if_neg h0] at h; exact absurd h h0
theorem Xh {v : VV} {key : List Int} {ad : List (List Int)} {t : List Int} (hf : WS v = true) (hb : vB v) (h : (OW v key ad t).2 = 0) :
  RJ (key, ad, [], []) = 0 /\ (OW v key ad t).1.length <= 65536 /\ t.length = (OW v key ad t).1.length + 16 /\ Bs (OW v key ad t).1 := by
 obtain ⟨b, xs⟩ := v;cases b with
 | false =>
  simp only [OW, cond_false] at h ⊢
  unfold Uj at h ⊢
  by_cases h0 : SX key ad = 0
  ·rw [if_pos h0] at h ⊢
   by_cases h1 : t.length < 16
   ·rw [if_pos h1] at h; exact absurd h (by decide)
   ·rw [if_neg h1] at h ⊢
    by_cases h2 : t.length > 65552
    ·rw [if_pos h2] at h; exact absurd h (by decide)
    ·rw [if_neg h2] at h ⊢
     split at h
     ·rename_i q;rw [if_pos q];have hl : (P8 key t).length = t.length - 16 := by unfold P8; rw [TG, acD]
      refine ⟨by rw [<- Xl]; exact h0, by rw [hl]; omega, by rw [hl]; omega, ?_⟩;unfold P8; exact Yv _ _ _
     ·exact absurd h (by decide)
  ·rw [if_neg h0] at h; exact absurd h h0
 | true =>
  simp only [OW, cond_true] at h ⊢
  obtain ⟨k, hk, e⟩ := U0 h;obtain ⟨f1, f2⟩ := Za hf hk;rw [e] at f1 f2;simp only at f1 f2;refine ⟨?_, f2, (congrArg aeg f1).trans (YC _ _), ?_⟩
  ·unfold TD at h;by_cases h0 : RJ (key, ad, [], []) = 0
   ·exact h0
   ·rw [if_neg h0] at h; exact absurd h h0
  ·have := hb (rd k0 xs (k : Int)) (NY (by omega) (by show (k : Int) < (xs.length : Int); omega));rw [e] at this;exact this
end Go.AM
end
section
namespace Go.AM
abbrev RK := Int × List Int × Int
abbrev r0 : RK := (0, ([], 0))
abbrev RR := List RK × Int
abbrev CK := Int × List Int × List Int
def Tz (a : Int) : Int := if a = 15 then 32 else if a = 17 then 64 else 0
theorem WZ (a : Int) : OV.run .lim (a, ()) = some (Tz a) := by
 simp only [OV.run];unfold Tz;by_cases h : a = 15
 ·rw [MR h, if_pos h]; rfl
 ·rw [MS h, if_neg h];by_cases h2 : a = 17
  ·rw [MR h2, if_pos h2]; rfl
  ·rw [MS h2, if_neg h2]; rfl
def UL (k : CK) : Bool := decide (Tz k.1 > 0) && decide ((k.2.1.length : Int) = Tz k.1) && decide ((k.2.2.length : Int) = Tz k.1)
structure KOk (k : CK) : Prop where
 a : k.2.1.length < NV
 b : k.2.2.length < NV
theorem X6 {k : CK} (h : KOk k) : O7.run .lim (k, ()) = some (UL k) := by
 have h1 : k.2.1.length < 9223372036854775808 := h.a;have h2 : k.2.2.length < 9223372036854775808 := h.b;simp only [O7.run, WZ, acv, Nb h1, Nb h2, acL, cond_true];rfl
theorem Vz {k : CK} (h : UL k = true) : (k.1 = 15 /\ k.2.1.length = 32 /\ k.2.2.length = 32) \/ (k.1 = 17 /\ k.2.1.length = 64 /\ k.2.2.length = 64) := by
 unfold UL Tz at h;simp only [acT, decide_eq_true_eq] at h;by_cases h1 : k.1 = 15
 ·rw [if_pos h1] at h; omega
 ·rw [if_neg h1] at h;by_cases h2 : k.1 = 17
  ·rw [if_pos h2] at h; omega
  ·rw [if_neg h2] at h; omega
def U4 (k : CK) : List Int := [0, k.1, 0, 0] ++ k.2.1 ++ k.2.2
theorem Vu {k : CK} (h : UL k = true) : OD.run .lim (k, ()) = some (U4 k) := by
 have hs := Vz h;simp only [OD.run];have e1 : acy.wrap (I_ .i64 k.1 8) = 0 := by rcases hs with ⟨q, _⟩ | ⟨q, _⟩ <;> rw [q] <;> decide
 have e2 : acy.wrap k.1 = k.1 := by rcases hs with ⟨q, _⟩ | ⟨q, _⟩ <;> rw [q] <;> decide
 rw [e1, e2, cond_pos (MR (by unfold maxStr; simp; omega)), cond_pos (MR (by unfold maxStr; simp; omega))];rfl
structure ROk (r : RR) : Prop where
 len : 1 <= r.1.length /\ r.1.length <= 8
 key : ∀ k ∈ r.1, k.2.1.length = 32
 kb : ∀ k ∈ r.1, Bs k.2.1
end Go.AM
end
section
namespace Go.AM
end Go.AM
end
section
namespace Go.AM
theorem Pj (n : Int) : acO.wrap n = n % 4294967296 := by unfold ad_; simp [ad7, ad9]
theorem Pm (n : Int) : acH.wrap n = n % 18446744073709551616 := by unfold ad_; simp [ad7, ad9]
theorem U3 {w x y : Nat} (hx : x < 2 ^ w) (hy : y < 2 ^ w) : (acS w (x : Int) ||| acS w (y : Int)).toNat = x ||| y := by
 rw [BitVec.toNat_or, adk, adk];have e : ∀ z : Nat, z < 2 ^ w -> ((z : Int) % ((2 ^ w : Nat) : Int)).toNat = z := fun z hz => by rw [<- Int.natCast_emod, acA, Nat.mod_eq_of_lt hz]
 rw [e x hx, e y hy]
theorem U2 {a b m : Nat} (h : b < 2 ^ m) : 2 ^ m * a ||| b = 2 ^ m * a + b := (Nat.two_pow_add_eq_or_of_lt h a).symm
theorem WY {a b : Nat} (m : Nat) (h : b < 2 ^ m) (hm : 2 ^ m * a + b < 4294967296) : KO .u32 ((2 ^ m * a : Nat) : Int) (b : Int) = ((2 ^ m * a + b : Nat) : Int) := by
 show acO.wrap ((acS 32 ((2 ^ m * a : Nat) : Int) ||| acS 32 (b : Int)).toNat : Int) = _;rw [U3 (acZ (adH _ _) hm) (acZ (adR _ _) hm), U2 h, Pj];omega
theorem aae {a b : Nat} (m : Nat) (h : b < 2 ^ m) (hm : 2 ^ m * a + b < 9223372036854775808) : KO .i64 ((2 ^ m * a : Nat) : Int) (b : Int) = ((2 ^ m * a + b : Nat) : Int) := by
 show acw.wrap ((acS 64 ((2 ^ m * a : Nat) : Int) ||| acS 64 (b : Int)).toNat : Int) = _;have h1 : 2 ^ m * a < 2 ^ 64 := acZ (adH _ b) (ad3 hm (by decide));have h2 : b < 2 ^ 64 := acZ (adR _ (2 ^ m * a)) (ad3 hm (by decide));rw [U3 h1 h2, U2 h, wrap64 (by omega) (by omega)]
theorem QI {a : Int} (h : B8 a) : ∃ n : Nat, a = (n : Int) /\ n < 256 := ⟨a.toNat, by have := h.1; omega, by have := h.1; have := h.2; omega⟩
theorem aaV {a b : Int} (ha : B8 a) (hb : B8 b) : KO .i64 (I9 .i64 (acw.wrap a) 8) (acw.wrap b) = a * 256 + b := by
 obtain ⟨x, rfl, hx⟩ := QI ha;obtain ⟨y, rfl, hy⟩ := QI hb;rw [wrap64 (by omega) (by omega), wrap64 (by omega) (by omega)];have e : I9 .i64 (x : Int) 8 = ((2 ^ 8 * x : Nat) : Int) := by
  show acw.wrap ((x : Int) * 2 ^ 8) = _;rw [wrap64 (by omega) (by omega)]; omega
 rw [e, aae 8 (by omega) (by omega)];omega
theorem Xq {x : Nat} (hx : x < 256) (m : Nat) (hm : m <= 24) : I9 .u32 (x : Int) (m : Int) = ((2 ^ m * x : Nat) : Int) := by
 show acO.wrap ((x : Int) * 2 ^ min ((m : Int).toNat) 32) = _;rw [acA, adx (by omega), Pj];have h1 : 2 ^ m <= 2 ^ 24 := ads (by decide) hm;have h2 : 2 ^ m * x < 4294967296 := acZ (Nat.mul_le_mul h1 (Nat.le_of_lt_succ (show x < 255 + 1 by omega))) (by decide);rw [show (x : Int) * 2 ^ m = ((2 ^ m * x : Nat) : Int) by rw [Nat.mul_comm]; simp];omega
theorem aaW {a b c d : Int} (ha : B8 a) (hb : B8 b) (hc : B8 c) (hd : B8 d) :
  KO .u32 (KO .u32 (KO .u32 (I9 .u32 (acO.wrap a) 24) (I9 .u32 (acO.wrap b) 16)) (I9 .u32 (acO.wrap c) 8)) (acO.wrap d) = ((a * 256 + b) * 256 + c) * 256 + d := by
 obtain ⟨x, rfl, hx⟩ := QI ha;obtain ⟨y, rfl, hy⟩ := QI hb;obtain ⟨z, rfl, hz⟩ := QI hc;obtain ⟨t, rfl, ht⟩ := QI hd;have w : ∀ n : Nat, n < 256 -> acO.wrap (n : Int) = (n : Int) := fun n hn => by rw [Pj]; omega
 rw [w x hx, w y hy, w z hz, w t ht, show (24 : Int) = ((24 : Nat) : Int) from rfl, show (16 : Int) = ((16 : Nat) : Int) from rfl, show (8 : Int) = ((8 : Nat) : Int) from rfl,
  Xq hx 24 (by decide), Xq hy 16 (by decide), Xq hz 8 (by decide), WY 24 (by omega) (by omega),
  show ((2 ^ 24 * x + 2 ^ 16 * y : Nat) : Int) = ((2 ^ 16 * (256 * x + y) : Nat) : Int) by omega, WY 16 (by omega) (by omega),
  show ((2 ^ 16 * (256 * x + y) + 2 ^ 8 * z : Nat) : Int) = ((2 ^ 8 * ((256 * x + y) * 256 + z) : Nat) : Int) by omega, WY 8 (by omega) (by omega)]
 omega
theorem Oc (x : Int) (k m : Nat) (K : IntKind) (hm : m <= K.bits) : I_ K x (m : Int) = x / 2 ^ m := by
 show x.fdiv (2 ^ min ((m : Int).toNat) K.bits) = _;rw [acA, adx hm, Int.fdiv_eq_ediv_of_nonneg _ (by exact Int.le_of_lt (Int.pow_pos (by decide)))]
end Go.AM
end
section
namespace Go.AM
def QS (xs : List RK) (id : Int) : Int := match (acJ xs.length).find? (fun j : Nat => decide ((rd r0 xs (j : Int)).1 = id)) with
 | some k => (k : Int)
 | none => -1
theorem Zl {r : RR} (id : Int) (h : r.1.length < NV) : Oj.run .lim (r, id, ()) = some (QS r.1 id) := by
 have h63 : r.1.length < 9223372036854775808 := h;have e := PD (f := Oj.l0 .lim) (fun j => (r.1, (r.1.length : Int), (j : Int), id, ())) r.1.length (fun j => decide ((rd r0 r.1 (j : Int)).1 = id)) (fun j => some (.inl ((j : Int), ()))) (fun k hk => by
  rw [Oj.q0];simp only [Oj.b0, MR (show (k : Int) < (r.1.length : Int) by omega), MZ (show (0 : Int) <= (k : Int) by omega) (show (k : Int) < (r.1.length : Int) by omega), cond_true, wk k (by omega)])
 rw [show ((0 : Nat) : Int) = 0 from rfl] at e;simp only [Oj.run, Nb h63, cond_true, e];unfold QS;cases hq : (acJ r.1.length).find? (fun j : Nat => decide ((rd r0 r.1 (j : Int)).1 = id)) with
 | some k => rfl
 | none =>
  simp only;rw [Oj.q0];simp only [Oj.b0, MS (show ¬ (r.1.length : Int) < (r.1.length : Int) by omega), cond_false, acv]
theorem UJ {xs : List RK} {id : Int} : (QS xs id = -1 /\ ∀ k, k < xs.length -> (rd r0 xs (k : Int)).1 ≠ id) \/ ∃ k, k < xs.length /\ QS xs id = (k : Int) /\ (rd r0 xs (k : Int)).1 = id /\ ∀ j, j < k -> (rd r0 xs (j : Int)).1 ≠ id := by
 unfold QS;cases hq : (acJ xs.length).find? (fun j : Nat => decide ((rd r0 xs (j : Int)).1 = id)) with
 | some k =>
  obtain ⟨h1, h2, h3⟩ := List.find?_range_eq_some.1 hq;exact .inr ⟨k, acY.1 h2, rfl, by simpa using h1, fun j hj => by simpa using h3 j hj⟩
 | none =>
  refine .inl ⟨rfl, fun k hk => ?_⟩;have := adZ.1 hq k (acY.2 hk);simpa using this
def UZ (s : List Int) : Int := ((rd 0 s 0 * 256 + rd 0 s 1) * 256 + rd 0 s 2) * 256 + rd 0 s 3
theorem WB {s : List Int} (h : Bs s) {i : Int} (h1 : 0 <= i) (h2 : i < s.length) : B8 (rd 0 s i) := h _ (NY h1 h2)
def Yd (p : List Int) : CK := (rd 0 p 0 * 256 + rd 0 p 1, cut p 4 ((2 + p.length / 2 : Nat) : Int), cut p ((2 + p.length / 2 : Nat) : Int) (p.length : Int))
def YK (p : List Int) : CK × Int := if 4 <= p.length /\ UL (Yd p) = true /\ U4 (Yd p) = p then (Yd p, 0) else ((0, ([], [])), 10)
noncomputable def Rz (v : VV) (r : RR) (s : List Int) : CK × Int :=
 if s.length < 20 then ((0, ([], [])), 11) else
 if QS r.1 (UZ s) < 0 then ((0, ([], [])), 19) else
 if (OW v (rd r0 r.1 (QS r.1 (UZ s))).2.1 [cut s 0 4, cut s 4 20] (cut s 20 (s.length : Int))).2 = 0 then
  YK (OW v (rd r0 r.1 (QS r.1 (UZ s))).2.1 [cut s 0 4, cut s 4 20] (cut s 20 (s.length : Int))).1
 else ((0, ([], [])), (OW v (rd r0 r.1 (QS r.1 (UZ s))).2.1 [cut s 0 4, cut s 4 20] (cut s 20 (s.length : Int))).2)
theorem Qs {α : Type} {s : List α} {a b : Nat} (h1 : a <= b) (h2 : b <= s.length) : (cut s (a : Int) (b : Int)).length = b - a := by unfold cut; simp; omega
theorem Y8 {s : List Int} (h : Bs s) (a b : Int) : Bs (cut s a b) := fun x hx => by
 unfold cut at hx;exact h x (ac0 (adh hx))
theorem Zi {p : List Int} (h : p.length < NV) (h4 : 4 <= p.length) : KOk (Yd p) := by
 have h' : p.length < 9223372036854775808 := h;unfold Yd;refine ⟨?_, ?_⟩
 ·show (cut p ((4 : Nat) : Int) ((2 + p.length / 2 : Nat) : Int)).length < NV;rw [Qs (by omega) (by omega)]; exact Oy (by omega)
 ·show (cut p ((2 + p.length / 2 : Nat) : Int) (p.length : Int)).length < NV;rw [Qs (by omega) (by omega)]; exact Oy (by omega)
theorem WH {v : VV} {r : RR} {s : List Int} (hv : okV v) (hf : WS v = true) (hb : vB v) (hr : ROk r) (hs : s.length < NV) (hsb : Bs s) :
  Po.run .lim (v, r, s, ()) = some ((Rz v r s).1, (Rz v r s).2, ()) := by
 have hs63 : s.length < 9223372036854775808 := hs;have hl := hr.len;unfold Rz;simp only [Po.run, Nb hs63, cond_true];by_cases h1 : s.length < 20
 ·rw [MR (show (s.length : Int) < 20 by omega), if_pos h1]; rfl
 ·rw [MS (show ¬ (s.length : Int) < 20 by omega), if_neg h1];have hi : ∀ i : Int, 0 <= i -> i < 4 -> B8 (rd 0 s i) := fun i a b => WB hsb a (by omega)
  have hn : KO .u32 (KO .u32 (KO .u32 (I9 .u32 (acO.wrap (rd 0 s 0)) 24) (I9 .u32 (acO.wrap (rd 0 s 1)) 16)) (I9 .u32 (acO.wrap (rd 0 s 2)) 8)) (acO.wrap (rd 0 s 3)) = UZ s :=
   aaW (hi 0 (by omega) (by omega)) (hi 1 (by omega) (by omega)) (hi 2 (by omega) (by omega)) (hi 3 (by omega) (by omega))
  simp only [cond_false, MZ (show (0 : Int) <= 0 by omega) (show (0 : Int) < (s.length : Int) by omega), MZ (show (0 : Int) <= 1 by omega) (show (1 : Int) < (s.length : Int) by omega), MZ (show (0 : Int) <= 2 by omega) (show (2 : Int) < (s.length : Int) by omega), MZ (show (0 : Int) <= 3 by omega) (show (3 : Int) < (s.length : Int) by omega), cond_true, hn, Zl (UZ s) (show r.1.length < NV from Oy (by omega)), acv];rcases UJ (xs := r.1) (id := UZ s) with ⟨e, _⟩ | ⟨k, hk, e, _, _⟩
  ·rw [e, MR (show (-1 : Int) < 0 by decide), if_pos (show (-1 : Int) < 0 by decide)]; rfl
  ·rw [e, MS (show ¬ (k : Int) < 0 by omega), if_neg (show ¬ (k : Int) < 0 by omega)];have hm : rd r0 r.1 (k : Int) ∈ r.1 := NY (by omega) (by omega);have T : ZR (rd r0 r.1 (k : Int)).2.1 [cut s 0 4, cut s 4 20] (cut s 20 (s.length : Int)) := by
    have c1 : (cut s 0 4).length = 4 := Qs (a := 0) (b := 4) (by omega) (by omega);have c2 : (cut s 4 20).length = 16 := Qs (a := 4) (b := 20) (by omega) (by omega);have c3 : (cut s 20 (s.length : Int)).length = s.length - 20 := Qs (a := 20) (b := s.length) (by omega) (by omega);refine ⟨Oy (by rw [hr.key _ hm]; omega), hr.kb _ hm, (show (2 : Nat) < NV by decide), fun t ht => ?_, Oy (by omega)⟩;simp only [ac_, ac3, or_false] at ht;rcases ht with rfl | rfl
    ·exact Oy (by omega)
    ·exact Oy (by omega)
   simp only [cond_false, MZ (show (0 : Int) <= (k : Int) by omega) (show (k : Int) < (r.1.length : Int) by omega), Nq (show (0 : Int) <= 0 by omega) (show (0 : Int) <= 4 by omega) (show (4 : Int) <= (s.length : Int) by omega),
    Nq (show (0 : Int) <= 4 by omega) (show (4 : Int) <= 20 by omega) (show (20 : Int) <= (s.length : Int) by omega), Nq (show (0 : Int) <= 20 by omega) (show (20 : Int) <= (s.length : Int) by omega) (show (s.length : Int) <= (s.length : Int) by omega), cond_true, Xi hv T (Y8 hsb _ _), acv]
   by_cases h0 : (OW v (rd r0 r.1 (k : Int)).2.1 [cut s 0 4, cut s 4 20] (cut s 20 (s.length : Int))).2 = 0
   ·obtain ⟨_, y2, _, y4⟩ := Xh hf hb h0;rw [MR h0, if_pos h0];generalize (OW v (rd r0 r.1 (k : Int)).2.1 [cut s 0 4, cut s 4 20] (cut s 20 (s.length : Int))).1 = p at y2 y4 ⊢
    unfold YK;simp only [acC, cond_false, Nb (show p.length < 9223372036854775808 by omega), cond_true];by_cases h4 : p.length < 4
    ·rw [MR (show (p.length : Int) < 4 by omega), if_neg (by omega)]; rfl
    ·have hm2 : acw.wrap (2 + acw.wrap ((p.length : Int).tdiv 2)) = ((2 + p.length / 2 : Nat) : Int) := by rw [acM (by omega), wrap64 (n := (p.length : Int) / 2) (by omega) (by omega), wrap64 (by omega) (by omega)]; omega
     have hn2 := aaV (WB y4 (show (0 : Int) <= 0 by omega) (show (0 : Int) < (p.length : Int) by omega)) (WB y4 (show (0 : Int) <= 1 by omega) (show (1 : Int) < (p.length : Int) by omega));have hko := Zi (p := p) (Oy (by omega)) (by omega);rw [MS (show ¬ (p.length : Int) < 4 by omega)];simp only [cond_false, MZ (show (0 : Int) <= 0 by omega) (show (0 : Int) < (p.length : Int) by omega), MZ (show (0 : Int) <= 1 by omega) (show (1 : Int) < (p.length : Int) by omega), cond_true, hm2, hn2,
      Nq (show (0 : Int) <= 4 by omega) (show (4 : Int) <= ((2 + p.length / 2 : Nat) : Int) by omega) (show ((2 + p.length / 2 : Nat) : Int) <= (p.length : Int) by omega),
      Nq (show (0 : Int) <= ((2 + p.length / 2 : Nat) : Int) by omega) (show ((2 + p.length / 2 : Nat) : Int) <= (p.length : Int) by omega) (show (p.length : Int) <= (p.length : Int) by omega)]
     change (O7.run .lim (Yd p, ())).bind _ = _
     rw [X6 hko, acv];by_cases hq : UL (Yd p) = true
     ·have hpl := Vu hq;unfold Yd at hq hpl ⊢
      rw [hq];simp only [acC, acK, cond_true, hpl, acv, ade];by_cases hw : U4 (rd 0 p 0 * 256 + rd 0 p 1, cut p 4 ((2 + p.length / 2 : Nat) : Int), cut p ((2 + p.length / 2 : Nat) : Int) (p.length : Int)) = p
      ·rw [MR hw, if_pos ⟨by omega, by first | rfl | trivial, hw⟩]; rfl
      ·rw [MS hw, if_neg (fun z => hw z.2.2)]; rfl
     ·have hq' : UL (Yd p) = false := by simpa using hq
      rw [if_neg (fun z => hq z.2.1)];rw [hq'];rfl
   ·rw [MS h0, if_neg h0]; rfl
end Go.AM
end
section
namespace Go.AM
def badR (r : RR) (i : Nat) : Bool :=
 ((!decide ((rd r0 r.1 (i : Int)).2.1.length = 32)) || (!decide ((rd r0 r.1 (i : Int)).1 = (r.2 - ((r.1.length - i : Nat) : Int)) % 4294967296))) || (decide (0 < i) && decide ((rd r0 r.1 (i : Int)).2.2 < (rd r0 r.1 ((i - 1 : Nat) : Int)).2.2))
def WR (r : RR) : Bool := decide (1 <= r.1.length /\ r.1.length <= 8) && !((acJ r.1.length).any (badR r))
theorem X_ {r : RR} (hl : r.1.length < NV) (hk : ∀ k ∈ r.1, k.2.1.length < NV) : Nv.run .lim (r, ()) = some (WR r) := by
 have hl63 : r.1.length < 9223372036854775808 := hl;simp only [Nv.run, Nb hl63, cond_true];unfold WR;by_cases h : 1 <= r.1.length /\ r.1.length <= 8
 ·have hn : (decide ((r.1.length : Int) < 1) || decide ((r.1.length : Int) > 8)) = false := by rw [MS (show ¬ (r.1.length : Int) < 1 by omega), MS (show ¬ (r.1.length : Int) > 8 by omega)]; rfl
  have e := QT (f := Nv.l0 .lim) (fun j => ((r.1.length : Int), (j : Int), r.1, r.2, ())) r.1.length (badR r) (some (.inl (false, ()))) (fun k hk' => by
   have hkl := hk _ (NY (d := r0) (xs := r.1) (i := (k : Int)) (by omega) (by omega));have WV : (rd r0 r.1 (k : Int)).2.1.length < 9223372036854775808 := hkl;rw [Nv.q0];have hw : acO.wrap (r.2 - acO.wrap (acw.wrap ((r.1.length : Int) - (k : Int)))) = (r.2 - ((r.1.length - k : Nat) : Int)) % 4294967296 := by rw [wrap64 (by omega) (by omega), Pj, Pj]; omega
   have hd : decide (((rd r0 r.1 (k : Int)).2.1.length : Int) = 32) = decide ((rd r0 r.1 (k : Int)).2.1.length = 32) := by
    by_cases q : (rd r0 r.1 (k : Int)).2.1.length = 32
    ·rw [MR q, MR (by omega)]
    ·rw [MS q, MS (by omega)]
   simp only [Nv.b0, MR (show (k : Int) < (r.1.length : Int) by omega), MZ (show (0 : Int) <= (k : Int) by omega) (show (k : Int) < (r.1.length : Int) by omega), cond_true, Nb WV, hw, hd, wk k (by omega)];unfold badR;by_cases h0 : 0 < k
   ·have w1 : acw.wrap ((k : Int) - 1) = ((k - 1 : Nat) : Int) := by rw [wrap64 (by omega) (by omega)]; omega
    rw [w1, MZ (show (0 : Int) <= ((k - 1 : Nat) : Int) by omega) (show ((k - 1 : Nat) : Int) < (r.1.length : Int) by omega), MR h0, MR (show (k : Int) > 0 by omega)];simp only [acL, cond_true, ac4]
   ·rw [MS h0, MS (show ¬ (k : Int) > 0 by omega)];simp only [acV, acK, ac8, cond_true, acW, adt])
  rw [show ((0 : Nat) : Int) = 0 from rfl] at e;rw [hn, MR h];simp only [cond_false, ac4, e];cases hb : (acJ r.1.length).any (badR r) with
  | true => rfl
  | false =>
   simp only [cond_false];rw [Nv.q0];simp only [Nv.b0, MS (show ¬ (r.1.length : Int) < (r.1.length : Int) by omega), cond_false, acv, acK]
 ·have hn : (decide ((r.1.length : Int) < 1) || decide ((r.1.length : Int) > 8)) = true := by
   by_cases q : r.1.length < 1
   ·rw [MR (show (r.1.length : Int) < 1 by omega)]; rfl
   ·rw [MR (show (r.1.length : Int) > 8 by omega), acL]
  rw [hn, MS h]; rfl
end Go.AM
end
section
namespace Go.AM
abbrev FF := Int × List Int
abbrev f0 : FF := ((0 : Int), ([] : List Int))
def NW (s : List Int) : Int := s.foldl (fun n c => n * 256 + c) 0
theorem TK (s : List Int) (c : Int) : NW (s ++ [c]) = NW s * 256 + c := by unfold NW; rw [List.foldl_append]; rfl
theorem R_ {s : List Int} (hs : Bs s) : ∀ k, k <= s.length -> 0 <= NW (s.take k) /\ NW (s.take k) < 256 ^ k := by
 intro k
 induction k with
 | zero => intro _; simp [NW]
 | succ k ih =>
  intro hk;have h := ih (by omega);rw [Q5 (d := (0 : Int)) (by omega), TK, aea];have hc := hs _ (NY (d := (0 : Int)) (i := (k : Int)) (by omega) (by omega));omega
theorem Zj {k : Nat} (h : k <= 7) : (256 : Int) ^ k <= 72057594037927936 := by
 have h1 := ads (n := 256) (by decide) h;have h2 : ((256 ^ k : Nat) : Int) = (256 : Int) ^ k := by rw [Int.natCast_pow]; rfl
 omega
theorem Zd {a b : Nat} (m : Nat) (h : b < 2 ^ m) (hm : 2 ^ m * a + b < 18446744073709551616) : KO .u64 ((2 ^ m * a : Nat) : Int) (b : Int) = ((2 ^ m * a + b : Nat) : Int) := by
 show acH.wrap ((acS 64 ((2 ^ m * a : Nat) : Int) ||| acS 64 (b : Int)).toNat : Int) = _;rw [U3 (acZ (adH _ b) hm) (acZ (adR _ (2 ^ m * a)) hm), U2 h, Pm];omega
theorem Zp {n c : Int} (h0 : 0 <= n) (h1 : n < 72057594037927936) (hc : B8 c) : KO .u64 (I9 .u64 n 8) (acH.wrap c) = n * 256 + c := by
 obtain ⟨x, rfl⟩ := ac1 h0;obtain ⟨y, rfl, hy⟩ := QI hc;have e : I9 .u64 (x : Int) 8 = ((2 ^ 8 * x : Nat) : Int) := by
  show acH.wrap ((x : Int) * 2 ^ 8) = _;rw [Pm]; omega
 have e2 : acH.wrap (y : Int) = (y : Int) := by rw [Pm]; omega
 rw [e, e2, Zd 8 (by omega) (by omega)];omega
theorem Xy {s : List Int} (hs : Bs s) (hl : s.length <= 8) {k : Nat} (hk : k < s.length) : KO .u64 (I9 .u64 (NW (s.take k)) 8) (acH.wrap (rd 0 s (k : Int))) = NW (s.take (k + 1)) := by
 have hb := R_ hs k (by omega);have hp := Zj (k := k) (by omega);rw [Zp hb.1 (by omega) (hs _ (NY (by omega) (by omega))), Q5 (d := (0 : Int)) hk, TK]
theorem Q7 {s : List Int} (hs : Bs s) (hl : s.length <= 8) : Np.run .lim (s, ()) = some (NW s) := by
 have e := NP (f := Np.l0 .lim) (fun k => (s, NW (s.take k), (s.length : Int), (k : Int), ())) (n := s.length) (fun k hk => by
  rw [Np.q0];simp only [Np.b0, MR (show (k : Int) < (s.length : Int) by omega), MZ (show (0 : Int) <= (k : Int) by omega) (show (k : Int) < (s.length : Int) by omega), cond_true, PN k (by omega), Xy hs hl hk])
 have e0 : Np.l0 .lim (s, 0, (s.length : Int), 0, ()) = Np.l0 .lim (s, NW (s.take s.length), (s.length : Int), (s.length : Int), ()) := e;simp only [Np.run, Nb (show s.length < 9223372036854775808 by omega), cond_true, e0, acN];rw [Np.q0];simp only [Np.b0, MS (show ¬ (s.length : Int) < (s.length : Int) by omega), cond_false, acv]
theorem PV {α : Type} {s : List α} {a b : Nat} {i j : Int} (hi : i = (a : Int)) (hj : j = (b : Int)) : cut s i j = (s.take b).drop a := by subst hi; subst hj; rfl
theorem Vb {α : Type} {s : List α} {a : Nat} {i : Int} (hi : i = (a : Int)) : cut s i (s.length : Int) = s.drop a := by subst hi; unfold cut; rw [acA, acA, acN]
theorem Bs.take {s : List Int} (h : Bs s) (n : Nat) : Bs (s.take n) := fun x hx => h x (ac0 hx)
theorem Bs.drop {s : List Int} (h : Bs s) (n : Nat) : Bs (s.drop n) := fun x hx => h x (adh hx)
theorem Bs.cut {s : List Int} (h : Bs s) (i j : Int) : Bs (cut s i j) := fun x hx => h x (ac0 (adh hx))
theorem Bs.app {s t : List Int} (h : Bs s) (k : Bs t) : Bs (s ++ t) := fun x hx => (adb.1 hx).elim (h x) (k x)
theorem ZU {n : Int} (h0 : 0 <= n) (h1 : n < 9223372036854775808) : I8 .i64 n 3 = n % 4 := by
 obtain ⟨x, rfl⟩ := ac1 h0;show acw.wrap ((acS 64 (x : Int) &&& acS 64 3).toNat : Int) = _;rw [BitVec.toNat_and, adk, show (acS 64 3).toNat = 2 ^ 2 - 1 from rfl, Nat.and_two_pow_sub_one_eq_mod];have e : ((x : Int) % ((2 ^ 64 : Nat) : Int)).toNat = x := by omega
 rw [e, wrap64 (by omega) (by omega)]; omega
def N7 (s : List Int) : Nat := (NW ((s.take 4).drop 2)).toNat
def RH (s : List Int) : Prop := s.length < 4 \/ N7 s < 16 \/ N7 s % 4 ≠ 0 \/ N7 s > s.length
instance (s : List Int) : Decidable (RH s) := by unfold RH; exact inferInstance
def WM (s : List Int) : FF := (NW (s.take 2), (s.take (N7 s)).drop 4)
def Tn : Nat -> List Int -> List FF -> List FF × Int
 | 0, _, acc => (acc, 0)
 | n + 1, s, acc => if s = [] then (acc, 0) else if RH s then ([], 10) else if acc.length = 16 then ([], 18) else Tn n (s.drop (N7 s)) (acc ++ [WM s])
theorem Vd {s : List Int} (hs : Bs s) (h : 4 <= s.length) : NW ((s.take 4).drop 2) = (N7 s : Int) /\ N7 s < 65536 := by
 have hb : Bs ((s.take 4).drop 2) := (hs.take 4).drop 2;have hl : ((s.take 4).drop 2).length = 2 := by rw [acD, acG]; omega
 have := R_ hb 2 (by omega);rw [acE (by omega)] at this;unfold N7;omega
theorem Vt {s : List Int} (hs : Bs s) (h : 2 <= s.length) : 0 <= NW (s.take 2) /\ NW (s.take 2) < 65536 := by
 have := R_ hs 2 (by omega);omega
theorem Yy : ∀ (n : Nat) (s : List Int) (acc : List FF), s.length <= n -> Bs s -> s.length < 9223372036854775808 -> acc.length <= 16 ->
  ((Nz.l0 .lim (s, 0, acc, ())).bind fun g_ => match g_ with
   | .inl (m, m1, ()) => some (([] : List FF), m, ())
   | .inr (.inl (m2, m3, ())) => some (([] : List FF), m2, ())
   | .inr (.inr (m4, m5, ())) => some (m5, 0, ())) = some ((Tn n s acc).1, (Tn n s acc).2, ()) := by
 intro n
 induction n with
 | zero =>
  intro s acc hn _ _ _;obtain rfl : s = [] := adn.1 (by omega);rw [Nz.q0];simp only [Nz.b0, decide_true, acC, cond_false, acv, Tn]
 | succ n ih =>
  intro s acc hn hs hl ha;rw [Nz.q0];by_cases h0 : s = []
  ·subst h0;simp only [Nz.b0, decide_true, acC, cond_false, acv, Tn, if_true]
  simp only [Nz.b0, MS h0, acK, cond_true, Nb hl, Tn, if_neg h0];by_cases h4 : s.length < 4
  ·simp only [MS (show ¬ (s.length : Int) >= 4 by omega), cond_false, acv];rw [if_pos (show RH s from .inl h4)]
  ·obtain ⟨e1, e2⟩ := Vd hs (by omega);have hc : cut s 2 4 = (s.take 4).drop 2 := PV (a := 2) (b := 4) rfl rfl;have hlen : ((s.take 4).drop 2).length <= 8 := by rw [acD, acG]; omega
   have w : acw.wrap (N7 s : Int) = (N7 s : Int) := wrap64 (by omega) (by omega);simp only [MR (show (s.length : Int) >= 4 by omega), cond_true, Nq (show (0 : Int) <= 2 by omega) (show (2 : Int) <= 4 by omega) (show (4 : Int) <= (s.length : Int) by omega), hc, Q7 ((hs.take 4).drop 2) hlen, acv, e1, w, acL];have h3 : I8 .i64 (N7 s : Int) 3 = ((N7 s % 4 : Nat) : Int) := by rw [ZU (by omega) (by omega)]; omega
   by_cases hb : RH s
   ·rw [if_pos hb];have hq : (((decide ((N7 s : Int) < 16)) || (!(decide ((I8 .i64 (N7 s : Int) 3) = 0)))) || (decide ((N7 s : Int) > (s.length : Int)))) = true := by
     rw [h3];rcases hb with hb | hb | hb | hb
     ·exact absurd hb h4
     ·simp only [MR (show (N7 s : Int) < 16 by omega), ac8]
     ·simp only [MS (show ¬ ((N7 s % 4 : Nat) : Int) = 0 by omega), acK, acL, ac8]
     ·simp only [MR (show (N7 s : Int) > (s.length : Int) by omega), acL]
    simp only [hq, cond_true, acv]
   ·rw [if_neg hb];unfold RH at hb;have hq : (((decide ((N7 s : Int) < 16)) || (!(decide ((I8 .i64 (N7 s : Int) 3) = 0)))) || (decide ((N7 s : Int) > (s.length : Int)))) = false := by rw [h3, MS (show ¬ (N7 s : Int) < 16 by omega), MR (show ((N7 s % 4 : Nat) : Int) = 0 by omega), MS (show ¬ (N7 s : Int) > (s.length : Int) by omega)]; rfl
    have hc2 : cut s 0 2 = s.take 2 := PV (a := 0) (b := 2) rfl rfl;have hv := Vt hs (by omega);have w2 : acw.wrap (NW (s.take 2)) = NW (s.take 2) := wrap64 (by omega) (by omega);have hc3 : cut s 4 (N7 s : Int) = (s.take (N7 s)).drop 4 := PV (a := 4) (b := N7 s) rfl rfl;have hc4 : cut s (N7 s : Int) (s.length : Int) = s.drop (N7 s) := Vb rfl;simp only [hq, cond_false, Nq (show (0 : Int) <= 0 by omega) (show (0 : Int) <= 2 by omega) (show (2 : Int) <= (s.length : Int) by omega), cond_true, hc2, Q7 (hs.take 2) (show (s.take 2).length <= 8 by rw [acG]; omega), acv, w2,
     Nq (show (0 : Int) <= 4 by omega) (show (4 : Int) <= (N7 s : Int) by omega) (show (N7 s : Int) <= (s.length : Int) by omega), Nq (show (0 : Int) <= (N7 s : Int) by omega) (show (N7 s : Int) <= (s.length : Int) by omega) (show (s.length : Int) <= (s.length : Int) by omega), Nb (show acc.length < 9223372036854775808 by omega), hc3, hc4]
    by_cases h16 : acc.length = 16
    ·rw [MR (show (acc.length : Int) = 16 by omega), if_pos h16]; rfl
    ·rw [MS (show ¬ (acc.length : Int) = 16 by omega), if_neg h16];simp only [cond_false];rw [cond_pos (MR (by simp; omega))];exact ih (s.drop (N7 s)) (acc ++ [WM s]) (by rw [acD]; omega) (hs.drop _) (by rw [acD]; omega) (by simp; omega)
theorem aaA {s : List Int} (hs : Bs s) (hl : s.length < 9223372036854775808) : Nz.run .lim (s, ()) = some ((Tn s.length s []).1, (Tn s.length s []).2, ()) := by
 simp only [Nz.run];exact Yy s.length s [] (acR _) hs hl (by simp)
end Go.AM
end
section
namespace Go.AM
theorem Zn {n : Int} : I_ .i64 n 8 = n / 256 := by
 have := Oc n 0 8 .i64 (by decide);exact this
def twoS (n : Int) : List Int := [acy.wrap (I_ .i64 n 8), acy.wrap n]
theorem OX (n : Int) : (twoS n).length = 2 := rfl
theorem Xx (n : Int) : Bs (twoS n) := fun x hx => by
 unfold twoS at hx;simp only [ac_, ac3, or_false] at hx;rcases hx with rfl | rfl <;> exact QA _
theorem Vs {t : List Int} (hb : Bs t) (hl : t.length = 2) : twoS (NW t) = t := by
 match t, hl with
 | [a, b], _ =>
  have ha := hb a (.head _);have hb := hb b (.tail _ (.head _));have e : NW [a, b] = a * 256 + b := by simp [NW]
  unfold twoS;rw [e, Zn, OH, OH];congr 1
  ·omega
  ·congr 1; omega
theorem val_two {n : Int} (h0 : 0 <= n) (h1 : n < 65536) : NW (twoS n) = n := by
 unfold twoS NW;rw [Zn, OH, OH];simp only [adL, adT];omega
def OM (f : FF) : List Int := twoS f.1 ++ twoS ((f.2.length : Int) + 4) ++ f.2
def Nj (l : List FF) : List Int := (l.map OM).flatten
theorem Pz (f : FF) : (OM f).length = 4 + f.2.length := by simp [OM, twoS]; omega
theorem Vx (a b : List FF) : Nj (a ++ b) = Nj a ++ Nj b := by simp [Nj]
theorem Rh (f : FF) : Nj [f] = OM f := by simp [Nj]
theorem QJ {l : List FF} {k : Nat} (h : k < l.length) : Nj (l.take (k + 1)) = Nj (l.take k) ++ OM (rd f0 l (k : Int)) := by rw [Q5 (d := f0) h, Vx, Rh]
structure V4 (f : FF) : Prop where
 k0 : 0 <= f.1
 k1 : f.1 < 65536
 l0 : 12 <= f.2.length
 l4 : f.2.length % 4 = 0
 l1 : f.2.length < 65532
 b : Bs f.2
theorem X7 {s : List Int} (hs : Bs s) (hb : ¬ RH s) : s.take (N7 s) = OM (WM s) /\ V4 (WM s) := by
 unfold RH at hb;obtain ⟨e1, e2⟩ := Vd hs (by omega);have hv := Vt hs (by omega);have hlen : ((s.take (N7 s)).drop 4).length = N7 s - 4 := by rw [acD, acG]; omega
 refine ⟨?_, ⟨hv.1, hv.2, by show 12 <= ((s.take (N7 s)).drop 4).length; omega, by show ((s.take (N7 s)).drop 4).length % 4 = 0; omega, by show ((s.take (N7 s)).drop 4).length < 65532; omega, (hs.take _).drop _⟩⟩;unfold OM WM;have h2 : twoS ((((s.take (N7 s)).drop 4).length : Int) + 4) = (s.take 4).drop 2 := by
  rw [hlen, show ((N7 s - 4 : Nat) : Int) + 4 = (N7 s : Int) by omega, <- e1];exact Vs ((hs.take 4).drop 2) (by rw [acD, acG]; omega)
 have h1 : twoS (NW (s.take 2)) = s.take 2 := Vs (hs.take 2) (by rw [acG]; omega);show s.take (N7 s) = twoS (NW (s.take 2)) ++ twoS ((((s.take (N7 s)).drop 4).length : Int) + 4) ++ (s.take (N7 s)).drop 4;rw [h1, h2];have h3 : s.take 2 ++ (s.take 4).drop 2 = s.take 4 := by
  have : s.take 2 = (s.take 4).take 2 := by rw [adA]; rfl
  rw [this, ac6]
 have h4 : s.take 4 = (s.take (N7 s)).take 4 := by rw [adA, adx (by omega)]
 rw [h3, h4, ac6]
theorem Yz : ∀ (n : Nat) (s : List Int) (acc : List FF), s.length <= n -> Bs s -> (Tn n s acc).2 = 0 -> ∃ l, (Tn n s acc).1 = acc ++ l /\ s = Nj l /\ (∀ f ∈ l, V4 f) /\ (acc.length <= 16 -> (acc ++ l).length <= 16) := by
 intro n
 induction n with
 | zero =>
  intro s acc hn _ _;obtain rfl : s = [] := adn.1 (by omega);exact ⟨[], by simp [Tn], rfl, fun f hf => (by cases hf), fun h => by simpa using h⟩
 | succ n ih =>
  intro s acc hn hs he;by_cases h0 : s = []
  ·subst h0;exact ⟨[], by simp [Tn], rfl, fun f hf => (by cases hf), fun h => by simpa using h⟩
  ·simp only [Tn, if_neg h0] at he ⊢
   by_cases hb : RH s
   ·rw [if_pos hb] at he; exact absurd he (by decide)
   ·rw [if_neg hb] at he ⊢
    by_cases h16 : acc.length = 16
    ·rw [if_pos h16] at he; exact absurd he (by decide)
    ·rw [if_neg h16] at he ⊢
     obtain ⟨e1, e2⟩ := X7 hs hb;have hb' := hb;unfold RH at hb';obtain ⟨l, k1, k2, k3, k4⟩ := ih (s.drop (N7 s)) (acc ++ [WM s]) (by rw [acD]; omega) (hs.drop _) he;refine ⟨WM s :: l, by rw [k1, acU]; rfl, ?_, fun f hf => ?_, fun h => ?_⟩
     ·have : Nj (WM s :: l) = OM (WM s) ++ Nj l := by simp [Nj]
      rw [this, <- k2, <- e1, ac6]
     ·rcases ac_.1 hf with rfl | hf
      ·exact e2
      ·exact k3 f hf
     ·have := k4 (by simp; omega);simpa [acU] using this
def fE (f : FF) : Int := if f.1 < 0 \/ f.1 >= 65536 then 13 else if f.2.length < 12 \/ f.2.length % 4 ≠ 0 then 10 else 0
def PW (l : List FF) : Int := if l.length > 16 then 18 else match (acJ l.length).find? (fun k : Nat => !decide (fE (rd f0 l (k : Int)) = 0)) with
 | some k => fE (rd f0 l (k : Int))
 | none => if (Nj l).length > 1232 then 12 else 0
def QK (l : List FF) : List Int := if PW l = 0 then Nj l else []
theorem Z9 {f : FF} (h : V4 f) : fE f = 0 := by
 unfold fE;rw [if_neg (by have := h.k0; have := h.k1; omega), if_neg (by have := h.l0; have := h.l4; omega)]
theorem Ve {l : List FF} (h : ∀ f ∈ l, V4 f) (h16 : l.length <= 16) (hl : (Nj l).length <= 1232) : PW l = 0 := by
 unfold PW;rw [if_neg (by omega)];have : (acJ l.length).find? (fun k : Nat => !decide (fE (rd f0 l (k : Int)) = 0)) = none := adZ.2 fun k hk => by
  have hk := acY.1 hk;rw [MR (Z9 (h _ (NY (by omega) (by omega))))]; simp
 rw [this];simp only;rw [if_neg (by omega)]
def O_ (l : List FF) : Nat -> List Int
 | 0 => []
 | k + 1 => if (Nj (l.take (k + 1))).length > 1232 then O_ l k else O_ l k ++ OM (rd f0 l (k : Int))
theorem RY {l : List FF} : ∀ k, k <= l.length -> (Nj (l.take k)).length <= 1232 -> O_ l k = Nj (l.take k) := by
 intro k
 induction k with
 | zero => intro _ _; rfl
 | succ k ih =>
  intro hk h;have e := QJ (l := l) (k := k) (by omega);unfold O_;rw [if_neg (by omega), e];rw [ih (by omega) (by rw [e, acB] at h; omega)]
theorem YE (n : Int) : Qz.run .lim (n, ()) = some (twoS n) := rfl
def FL (l : List FF) : Prop := l.length < 9223372036854775808 /\ ∀ f ∈ l, f.2.length <= 140737488351232
theorem Vy {l : List FF} (hl : FL l) : NI.run .lim (l, ()) = some (QK l, PW l, ()) := by
 obtain ⟨h1, h2⟩ := hl;simp only [NI.run, Nb h1, cond_true];by_cases h16 : l.length > 16
 ·rw [MR (show (l.length : Int) > 16 by omega)];have : PW l = 18 := by unfold PW; rw [if_pos h16]
  unfold QK;rw [this]; rfl
 rw [MS (show ¬ (l.length : Int) > 16 by omega)];have e := PD (f := NI.l0 .lim) (fun k => (decide ((Nj (l.take k)).length > 1232), l, (l.length : Int), (k : Int), O_ l k, ())) l.length (fun k : Nat => !decide (fE (rd f0 l (k : Int)) = 0))
  (fun k => if fE (rd f0 l (k : Int)) = 13 then some (.inl (([] : List Int), 13, ())) else some (.inr (.inl (([] : List Int), 10, ())))) (fun k hk => by
  have hm := NY (d := f0) (xs := l) (i := (k : Int)) (by omega) (by omega);have hb := h2 _ hm;rw [NI.q0];generalize hg : rd f0 l (k : Int) = f at hm hb;simp only [NI.b0, MR (show (k : Int) < (l.length : Int) by omega), MZ (show (0 : Int) <= (k : Int) by omega) (show (k : Int) < (l.length : Int) by omega), cond_true, hg, Nb (show f.2.length < 9223372036854775808 by omega), acL];unfold fE;by_cases hk1 : f.1 < 0 \/ f.1 >= 65536
  ·rw [if_pos hk1];have : ((decide (f.1 < 0)) || (decide (f.1 >= 65536))) = true := by rcases hk1 with q | q <;> simp only [MR q, ac8, acL]
   simp only [this, cond_true];rfl
  ·rw [if_neg hk1];have : ((decide (f.1 < 0)) || (decide (f.1 >= 65536))) = false := by rw [MS (show ¬ f.1 < 0 by omega), MS (show ¬ f.1 >= 65536 by omega)]; rfl
   simp only [this, cond_false];have h3 : I8 .i64 (f.2.length : Int) 3 = ((f.2.length % 4 : Nat) : Int) := by rw [ZU (by omega) (by omega)]; omega
   by_cases hk2 : f.2.length < 12 \/ f.2.length % 4 ≠ 0
   ·rw [if_pos hk2];have : ((decide ((f.2.length : Int) < 12)) || (!(decide ((I8 .i64 (f.2.length : Int) 3) = 0)))) = true := by
     rw [h3];rcases hk2 with q | q
     ·rw [MR (show (f.2.length : Int) < 12 by omega)]; rfl
     ·rw [MS (show ¬ ((f.2.length % 4 : Nat) : Int) = 0 by omega)]; simp
    simp only [this, cond_true];rfl
   ·rw [if_neg hk2];have : ((decide ((f.2.length : Int) < 12)) || (!(decide ((I8 .i64 (f.2.length : Int) 3) = 0)))) = false := by rw [h3, MS (show ¬ (f.2.length : Int) < 12 by omega), MR (show ((f.2.length % 4 : Nat) : Int) = 0 by omega)]; rfl
    simp only [this, cond_false, decide_true, acC, cond_false];have es := QJ hk;have el : (Nj (l.take (k + 1))).length = (Nj (l.take k)).length + (4 + f.2.length) := by rw [es, acB, Pz, hg]
    have hu : ∀ b : Bool, (bif b then some () else some ()) = some () := fun b => by cases b <;> rfl
    simp only [hu, acv, YE];by_cases hlong : (Nj (l.take k)).length > 1232
    ·have e1 : decide ((Nj (l.take k)).length > 1232) = true := MR hlong;have e2 : decide ((Nj (l.take (k + 1))).length > 1232) = true := MR (show (Nj (l.take (k + 1))).length > 1232 by omega);have e3 : O_ l (k + 1) = O_ l k := by rw [O_, if_pos (show (Nj (l.take (k + 1))).length > 1232 by omega)]
     simp only [e1, e2, e3, ac8, acC, cond_false, PN k (by omega)]
    ·have e1 : decide ((Nj (l.take k)).length > 1232) = false := MS hlong;have eo := RY (l := l) k (by omega) (by omega);have ew : acw.wrap ((acw.wrap (((O_ l k).length : Int) + 4)) + (f.2.length : Int)) = ((Nj (l.take (k + 1))).length : Int) := by rw [eo, wrap64 (n := ((Nj (l.take k)).length : Int) + 4) (by omega) (by omega), wrap64 (by omega) (by omega)]; omega
     have ed : decide (((Nj (l.take (k + 1))).length : Int) > 1232) = decide ((Nj (l.take (k + 1))).length > 1232) := by
      by_cases q : (Nj (l.take (k + 1))).length > 1232
      ·rw [MR q, MR (show ((Nj (l.take (k + 1))).length : Int) > 1232 by omega)]
      ·rw [MS q, MS (show ¬ ((Nj (l.take (k + 1))).length : Int) > 1232 by omega)]
     simp only [e1, ew, ed, ade];by_cases hl2 : (Nj (l.take (k + 1))).length > 1232
     ·have e2 : decide ((Nj (l.take (k + 1))).length > 1232) = true := MR hl2;have e3 : O_ l (k + 1) = O_ l k := by rw [O_, if_pos hl2]
      simp only [e2, e3, acC, cond_false, PN k (by omega)]
     ·have e2 : decide ((Nj (l.take (k + 1))).length > 1232) = false := MS hl2;have e3 : O_ l (k + 1) = O_ l k ++ OM f := by rw [O_, if_neg hl2, hg]
      have e4 : acw.wrap ((f.2.length : Int) + 4) = (f.2.length : Int) + 4 := wrap64 (by omega) (by omega);have e5 : Gv ((O_ l k).length + (twoS f.1 ++ twoS ((f.2.length : Int) + 4) ++ f.2).length) = some () := by
       have : (twoS f.1 ++ twoS ((f.2.length : Int) + 4) ++ f.2).length = 4 + f.2.length := Pz f;rw [this, eo];unfold Gv;rw [Nat.ble_eq_true_of_le (show (Nj (l.take k)).length + (4 + f.2.length) <= 140737488355328 by omega)]; rfl
      simp only [e2, e3, e4, acK, cond_true, PN k (by omega)];rw [cond_pos (MR (by rw [OX, OX]; decide)), cond_pos (MR (by rw [acB, OX, OX]; unfold maxStr; omega)), e5];rfl)
 have e0 : NI.l0 .lim (false, l, (l.length : Int), 0, ([] : List Int), ()) = _ := e;rw [e0];unfold QK PW;rw [if_neg h16];cases hq : (acJ l.length).find? (fun k : Nat => !decide (fE (rd f0 l (k : Int)) = 0)) with
 | some k =>
  have hk := adu hq;simp only [adf, decide_eq_false_iff_not] at hk;simp only;have : fE (rd f0 l (k : Int)) = 13 \/ fE (rd f0 l (k : Int)) = 10 := by
   unfold fE at hk ⊢
   split
   ·exact .inl rfl
   ·split
    ·exact .inr rfl
    ·rename_i q1 q2; rw [if_neg q1, if_neg q2] at hk; exact absurd rfl hk
  rw [if_neg hk];rcases this with q | q
  ·rw [if_pos q, q]; rfl
  ·rw [if_neg (by omega), q]; rfl
 | none =>
  simp only [acN];rw [NI.q0];simp only [NI.b0, MS (show ¬ (l.length : Int) < (l.length : Int) by omega), cond_false, acv];by_cases hl : (Nj l).length > 1232
  ·rw [MR hl, if_pos hl]; rfl
  ·rw [MS hl, if_neg hl, RY l.length (acR _) (by rw [acN]; omega), acN]; rfl
end Go.AM
end
section
namespace Go.AM
abbrev PK := Int × Int × Int × Int × Int × Int × Int × Int × Int × Int × Int × Int × Int × List FF
abbrev p0 : PK := ((0 : Int), (0, (0, (0, (0, (0, (0, (0, (0, (0, (0, (0, (0, ([] : List FF))))))))))))))
abbrev PK.fs (p : PK) : List FF := p.2.2.2.2.2.2.2.2.2.2.2.2.2
abbrev PK.cut (p : PK) (l : List FF) : PK := (p.1, p.2.1, p.2.2.1, p.2.2.2.1, p.2.2.2.2.1, p.2.2.2.2.2.1, p.2.2.2.2.2.2.1, p.2.2.2.2.2.2.2.1, p.2.2.2.2.2.2.2.2.1, p.2.2.2.2.2.2.2.2.2.1, p.2.2.2.2.2.2.2.2.2.2.1, p.2.2.2.2.2.2.2.2.2.2.2.1, p.2.2.2.2.2.2.2.2.2.2.2.2.1, l)
def Ue (n low high : Int) : Bool := decide (low <= n) && decide (n <= high)
def TT (p : PK) : Bool := Ue p.1 0 3 && Ue p.2.1 0 7 && Ue p.2.2.1 0 7 && Ue p.2.2.2.1 0 255 && Ue p.2.2.2.2.1 (-128) 127 && Ue p.2.2.2.2.2.1 (-128) 127
def Qd (n : Int) (k : Nat) : Int := acy.wrap (I_ .u64 n (k : Int))
def Va (n : Int) : List Int := [Qd n 24, Qd n 16, Qd n 8, Qd n 0]
def by8 (n : Int) : List Int := [Qd n 56, Qd n 48, Qd n 40, Qd n 32, Qd n 24, Qd n 16, Qd n 8, Qd n 0]
def XD (a b c : Int) : Int := acy.wrap (KO .i64 (KO .i64 (I9 .i64 a 6) (I9 .i64 b 3)) c)
def Uy (p : PK) : List Int := [XD p.1 p.2.1 p.2.2.1, acy.wrap p.2.2.2.1, acy.wrap p.2.2.2.2.1, acy.wrap p.2.2.2.2.2.1] ++
 (Va (acH.wrap p.2.2.2.2.2.2.1) ++ (Va (acH.wrap p.2.2.2.2.2.2.2.1) ++ (Va (acH.wrap p.2.2.2.2.2.2.2.2.1) ++ (by8 p.2.2.2.2.2.2.2.2.2.1 ++ (by8 p.2.2.2.2.2.2.2.2.2.2.1 ++ (by8 p.2.2.2.2.2.2.2.2.2.2.2.1 ++ by8 p.2.2.2.2.2.2.2.2.2.2.2.2.1))))))
theorem TU (p : PK) : (Uy p).length = 48 := rfl
def Wj (p : PK) : Int := if TT p = true then PW p.fs else 13
def Zv (p : PK) : List Int := if Wj p = 0 then Uy p ++ Nj p.fs else []
def Oa (m : List Int) (bp : Nat) (g : Nat -> Int) : Nat -> List Int
 | 0 => m
 | i + 1 => (Oa m bp g i).set (bp + i) (g i)
theorem OI (m : List Int) (bp : Nat) (g : Nat -> Int) : ∀ i, (Oa m bp g i).length = m.length
 | 0 => rfl
 | i + 1 => by rw [Oa, adN, OI m bp g i]
theorem abl {bp bq : Nat} (hb : bp <= 48) (hq : bq <= 8) (hq0 : 1 <= bq) (n : Int) (f : List Int) (t : List Int) (t3 : Int) (m : List Int) (m1 m2 m3 m4 m5 m6 m7 m8 m9 m10 m11 m12 m13 : Int) (m14 : List FF) :
  MX.l0 .lim ((bp : Int), (bq : Int), n, (bq : Int), 0, f, t, t3, m, m1, m2, m3, m4, m5, m6, m7, m8, m9, m10, m11, m12, m13, m14, ()) =
   some (f, t, t3, m1, m2, m3, m4, m5, m6, m7, m8, m9, m10, m11, m12, m13, m14, Oa m bp (fun i => Qd n (8 * (bq - 1 - i))) bq, ()) := by
 have e := NP (f := MX.l0 .lim) (fun i => ((bp : Int), (bq : Int), n, (bq : Int), (i : Int), f, t, t3, Oa m bp (fun i => Qd n (8 * (bq - 1 - i))) i, m1, m2, m3, m4, m5, m6, m7, m8, m9, m10, m11, m12, m13, m14, ())) (n := bq) (fun i hi => by
  rw [MX.q0];have w1 : acw.wrap (8 * (acw.wrap ((acw.wrap ((bq : Int) - 1)) - (i : Int)))) = ((8 * (bq - 1 - i) : Nat) : Int) := by rw [wrap64 (n := (bq : Int) - 1) (by omega) (by omega), wrap64 (n := (bq : Int) - 1 - (i : Int)) (by omega) (by omega), wrap64 (by omega) (by omega)]; omega
  have w2 : ((bp : Int) + (i : Int)).toNat = bp + i := by omega
  simp only [MX.b0, MR (show (i : Int) < (bq : Int) by omega), Nb (show bq < 9223372036854775808 by omega), w1, MR (show (0 : Int) <= ((8 * (bq - 1 - i) : Nat) : Int) by omega), MZ (show (0 : Int) <= (i : Int) by omega) (show (i : Int) < (bq : Int) by omega), cond_true, PN i (by omega), w2];rfl)
 have e0 : MX.l0 .lim ((bp : Int), (bq : Int), n, (bq : Int), 0, f, t, t3, m, m1, m2, m3, m4, m5, m6, m7, m8, m9, m10, m11, m12, m13, m14, ()) = _ := e;rw [e0, MX.q0];simp only [MX.b0, MS (show ¬ (bq : Int) < (bq : Int) by omega), cond_false]
theorem abn {bp bq : Nat} (hb : bp <= 48) (hq : bq <= 8) (hq0 : 1 <= bq) (n : Int) (f : List Int) (t : List Int) (t3 : Int) (m : List Int) :
  MX.l2 .lim ((bp : Int), (bq : Int), n, (bq : Int), 0, f, t, t3, m, ()) = some (f, t, t3, Oa m bp (fun i => Qd n (8 * (bq - 1 - i))) bq, ()) := by
 have e := NP (f := MX.l2 .lim) (fun i => ((bp : Int), (bq : Int), n, (bq : Int), (i : Int), f, t, t3, Oa m bp (fun i => Qd n (8 * (bq - 1 - i))) i, ())) (n := bq) (fun i hi => by
  rw [MX.q2];have w1 : acw.wrap (8 * (acw.wrap ((acw.wrap ((bq : Int) - 1)) - (i : Int)))) = ((8 * (bq - 1 - i) : Nat) : Int) := by rw [wrap64 (n := (bq : Int) - 1) (by omega) (by omega), wrap64 (n := (bq : Int) - 1 - (i : Int)) (by omega) (by omega), wrap64 (by omega) (by omega)]; omega
  have w2 : ((bp : Int) + (i : Int)).toNat = bp + i := by omega
  simp only [MX.b2, MR (show (i : Int) < (bq : Int) by omega), Nb (show bq < 9223372036854775808 by omega), w1, MR (show (0 : Int) <= ((8 * (bq - 1 - i) : Nat) : Int) by omega), MZ (show (0 : Int) <= (i : Int) by omega) (show (i : Int) < (bq : Int) by omega), cond_true, PN i (by omega), w2];rfl)
 have e0 : MX.l2 .lim ((bp : Int), (bq : Int), n, (bq : Int), 0, f, t, t3, m, ()) = _ := e;rw [e0, MX.q2];simp only [MX.b2, MS (show ¬ (bq : Int) < (bq : Int) by omega), cond_false]
theorem Ya (n low high : Int) : OC.run .lim (n, low, high, ()) = some (Ue n low high) := rfl
theorem abm (f a : List Int) (x0 x1 x2 : Int) (ha : a = [x0, x1, x2]) (m : List Int) (m1 m2 m3 m4 m5 m6 m7 m8 m9 m10 m11 m12 m13 : Int) (m14 : List FF) :
  MX.l1 .lim (f, a, 0, m1, m2, m3, m4, m5, m6, m7, m8, m9, m10, m11, m12, m13, m14, m, ()) =
   some (f, m1, m2, m3, m4, m5, m6, m7, m8, m9, m10, m11, m12, m13, m14,
    Oa (Oa (Oa m 4 (fun i => Qd (acH.wrap x0) (8 * (4 - 1 - i))) 4) 8 (fun i => Qd (acH.wrap x1) (8 * (4 - 1 - i))) 4) 12 (fun i => Qd (acH.wrap x2) (8 * (4 - 1 - i))) 4, ()) := by
 subst ha;have step : ∀ (k : Nat) (hk : k < 3) (x : Int) (_ : rd 0 [x0, x1, x2] (k : Int) = x) (q : List Int), MX.l1 .lim (f, [x0, x1, x2], (k : Int), m1, m2, m3, m4, m5, m6, m7, m8, m9, m10, m11, m12, m13, m14, q, ()) =
   MX.l1 .lim (f, [x0, x1, x2], ((k + 1 : Nat) : Int), m1, m2, m3, m4, m5, m6, m7, m8, m9, m10, m11, m12, m13, m14, Oa q (4 + 4 * k) (fun i => Qd (acH.wrap x) (8 * (4 - 1 - i))) 4, ()) := by
  intro k hk x hx q;rw [MX.q1];have w1 : acw.wrap (4 + acw.wrap (4 * (k : Int))) = ((4 + 4 * k : Nat) : Int) := by rw [wrap64 (n := 4 * (k : Int)) (by omega) (by omega), wrap64 (by omega) (by omega)]; omega
  have w2 : acw.wrap (8 + acw.wrap (4 * (k : Int))) = ((8 + 4 * k : Nat) : Int) := by rw [wrap64 (n := 4 * (k : Int)) (by omega) (by omega), wrap64 (by omega) (by omega)]; omega
  have w3 : ((8 + 4 * k : Nat) : Int) - ((4 + 4 * k : Nat) : Int) = ((4 : Nat) : Int) := by omega
  have h := abl (bp := 4 + 4 * k) (bq := 4) (by omega) (by omega) (by omega) (acH.wrap x) f [x0, x1, x2] (k : Int) q m1 m2 m3 m4 m5 m6 m7 m8 m9 m10 m11 m12 m13 m14;simp only [MX.b1, MR (show (k : Int) < 3 by omega), MZ (show (0 : Int) <= (k : Int) by omega) (show (k : Int) < 3 by omega), w1, w2, w3, Nq (show (0 : Int) <= ((4 + 4 * k : Nat) : Int) by omega) (show ((4 + 4 * k : Nat) : Int) <= ((8 + 4 * k : Nat) : Int) by omega) (show ((8 + 4 * k : Nat) : Int) <= 48 by omega), Nb (show 4 < 9223372036854775808 by decide), cond_true, hx, h, acv, PN k (by omega)]
 have s0 := step 0 (by decide) x0 rfl m;have s1 := step 1 (by decide) x1 rfl (Oa m 4 (fun i => Qd (acH.wrap x0) (8 * (4 - 1 - i))) 4);have s2 := step 2 (by decide) x2 rfl (Oa (Oa m 4 (fun i => Qd (acH.wrap x0) (8 * (4 - 1 - i))) 4) 8 (fun i => Qd (acH.wrap x1) (8 * (4 - 1 - i))) 4);refine (s0.trans (s1.trans s2)).trans ?_;rw [MX.q1];simp only [MX.b1, MS (show ¬ ((2 + 1 : Nat) : Int) < 3 by decide), cond_false]
theorem abo (f a : List Int) (x0 x1 x2 x3 : Int) (ha : a = [x0, x1, x2, x3]) (m : List Int) :
  MX.l3 .lim (f, a, 0, m, ()) =
   some (f, Oa (Oa (Oa (Oa m 16 (fun i => Qd x0 (8 * (8 - 1 - i))) 8) 24 (fun i => Qd x1 (8 * (8 - 1 - i))) 8) 32 (fun i => Qd x2 (8 * (8 - 1 - i))) 8) 40 (fun i => Qd x3 (8 * (8 - 1 - i))) 8, ()) := by
 subst ha;have step : ∀ (k : Nat) (hk : k < 4) (x : Int) (_ : rd 0 [x0, x1, x2, x3] (k : Int) = x) (q : List Int), MX.l3 .lim (f, [x0, x1, x2, x3], (k : Int), q, ()) =
   MX.l3 .lim (f, [x0, x1, x2, x3], ((k + 1 : Nat) : Int), Oa q (16 + 8 * k) (fun i => Qd x (8 * (8 - 1 - i))) 8, ()) := by
  intro k hk x hx q;rw [MX.q3];have w1 : acw.wrap (16 + acw.wrap (8 * (k : Int))) = ((16 + 8 * k : Nat) : Int) := by rw [wrap64 (n := 8 * (k : Int)) (by omega) (by omega), wrap64 (by omega) (by omega)]; omega
  have w2 : acw.wrap (24 + acw.wrap (8 * (k : Int))) = ((24 + 8 * k : Nat) : Int) := by rw [wrap64 (n := 8 * (k : Int)) (by omega) (by omega), wrap64 (by omega) (by omega)]; omega
  have w3 : ((24 + 8 * k : Nat) : Int) - ((16 + 8 * k : Nat) : Int) = ((8 : Nat) : Int) := by omega
  have h := abn (bp := 16 + 8 * k) (bq := 8) (by omega) (by omega) (by omega) x f [x0, x1, x2, x3] (k : Int) q;simp only [MX.b3, MR (show (k : Int) < 4 by omega), MZ (show (0 : Int) <= (k : Int) by omega) (show (k : Int) < 4 by omega), w1, w2, w3, Nq (show (0 : Int) <= ((16 + 8 * k : Nat) : Int) by omega) (show ((16 + 8 * k : Nat) : Int) <= ((24 + 8 * k : Nat) : Int) by omega) (show ((24 + 8 * k : Nat) : Int) <= 48 by omega), Nb (show 8 < 9223372036854775808 by decide), cond_true, hx, h, acv, PN k (by omega)]
 have s0 := step 0 (by decide) x0 rfl m;have s1 := step 1 (by decide) x1 rfl (Oa m 16 (fun i => Qd x0 (8 * (8 - 1 - i))) 8);have s2 := step 2 (by decide) x2 rfl (Oa (Oa m 16 (fun i => Qd x0 (8 * (8 - 1 - i))) 8) 24 (fun i => Qd x1 (8 * (8 - 1 - i))) 8);have s3 := step 3 (by decide) x3 rfl (Oa (Oa (Oa m 16 (fun i => Qd x0 (8 * (8 - 1 - i))) 8) 24 (fun i => Qd x1 (8 * (8 - 1 - i))) 8) 32 (fun i => Qd x2 (8 * (8 - 1 - i))) 8);refine (s0.trans (s1.trans (s2.trans s3))).trans ?_;rw [MX.q3];simp only [MX.b3, MS (show ¬ ((3 + 1 : Nat) : Int) < 4 by decide), cond_false]
theorem Ud {l : List FF} : (QK l).length <= 1232 := by
 unfold QK;split
 ·rename_i h;unfold PW at h;split at h
  ·cases h
  ·split at h
   ·rename_i k hq;have hk := adu hq;simp only [adf, decide_eq_false_iff_not] at hk;exact absurd h hk
   ·split at h
    ·cases h
    ·omega
 ·simp
theorem Xp (x0 x1 x2 x3 : Int) (a b c d e f g : Nat -> Int) :
  ((Oa (Oa (Oa (Oa (Oa (Oa (Oa (((((acz 48 (0 : Int)).set 0 x0).set 1 x1).set 2 x2).set 3 x3) 4 a 4) 8 b 4) 12 c 4) 16 d 8) 24 e 8) 32 f 8) 40 g 8).drop 0).take 48 =
   [x0, x1, x2, x3] ++ ([a 0, a 1, a 2, a 3] ++ ([b 0, b 1, b 2, b 3] ++ ([c 0, c 1, c 2, c 3] ++ ([d 0, d 1, d 2, d 3, d 4, d 5, d 6, d 7] ++ ([e 0, e 1, e 2, e 3, e 4, e 5, e 6, e 7] ++ ([f 0, f 1, f 2, f 3, f 4, f 5, f 6, f 7] ++ [g 0, g 1, g 2, g 3, g 4, g 5, g 6, g 7])))))) := by kernel_rfl
theorem Xz {p : PK} (hl : FL p.fs) : MX.run .lim (p, ()) = some (Zv p, Wj p, ()) := by
 obtain ⟨a, b, c, d, e, g, r1, r2, r3, q1, q2, q3, q4, l⟩ := p;simp only [MX.run, Ya, acv];unfold Zv Wj TT;generalize Ue a 0 3 = c1;generalize Ue b 0 7 = c2;generalize Ue c 0 7 = c3;generalize Ue d 0 255 = c4;generalize Ue e (-128) 127 = c5;generalize Ue g (-128) 127 = c6;cases c1
 ·rfl
 cases c2
 ·rfl
 cases c3
 ·rfl
 cases c4
 ·rfl
 cases c5
 ·rfl
 cases c6
 ·rfl
 simp only [acC, acK, cond_true, cond_false, acv, ady, acQ, if_true];rw [Vy hl];simp only [acv];have hfl : (QK (PK.fs (a, b, c, d, e, g, r1, r2, r3, q1, q2, q3, q4, l))).length <= 1232 := Ud;show (bif !decide (PW l = 0) then some (([] : List Int), PW l, ()) else _) = some (if PW l = 0 then _ else [], PW l, ());by_cases h0 : PW l = 0
 ·rw [MR h0, if_pos h0];simp only [acC, cond_false];rw [abm _ ((((acz 3 (0 : Int)).set 0 r1).set 1 r2).set 2 r3) r1 r2 r3 rfl];simp only [acv];rw [abo _ (((((acz 4 (0 : Int)).set 0 q1).set 1 q2).set 2 q3).set 3 q4) q1 q2 q3 q4 rfl];simp only [acv];have hf : QK l = Nj l := by unfold QK; rw [if_pos h0]
  rw [cond_pos (MR (show _ <= maxStr by rw [acG, acX, OI, OI, OI, OI, OI, OI, OI]; simp only [adN, adM]; unfold maxStr; omega)), h0, Xp];have hf : QK (PK.fs (a, b, c, d, e, g, r1, r2, r3, q1, q2, q3, q4, l)) = Nj (PK.fs (a, b, c, d, e, g, r1, r2, r3, q1, q2, q3, q4, l)) := hf;rw [hf];rfl
 ·rw [MS h0, if_neg h0]; rfl
end Go.AM
end
section
namespace Go.AM
def sg (c : Int) : Int := if c > 127 then c - 256 else c
def rdP (s : List Int) (fs : List FF) : PK := (rd 0 s 0 / 64, rd 0 s 0 / 8 % 8, rd 0 s 0 % 8, rd 0 s 1, sg (rd 0 s 2), sg (rd 0 s 3), NW ((s.take 8).drop 4), NW ((s.take 12).drop 8), NW ((s.take 16).drop 12),
 NW ((s.take 24).drop 16), NW ((s.take 32).drop 24), NW ((s.take 40).drop 32), NW ((s.take 48).drop 40), fs)
def Uz (s : List Int) : Int := if s.length < 48 then 11 else if s.length > 1280 then 12 else (Tn (s.drop 48).length (s.drop 48) []).2
def Qm (s : List Int) : PK := if Uz s = 0 then rdP s (Tn (s.drop 48).length (s.drop 48) []).1 else p0
theorem aaE {c : Int} (h : B8 c) : acw.wrap (I_ .u8 c 6) = c / 64 := Ov (p := fun c => acw.wrap (I_ .u8 c 6) = c / 64) (by decide +kernel) h
theorem aaF {c : Int} (h : B8 c) : acw.wrap (I8 .u8 (I_ .u8 c 3) 7) = c / 8 % 8 := Ov (p := fun c => acw.wrap (I8 .u8 (I_ .u8 c 3) 7) = c / 8 % 8) (by decide +kernel) h
theorem aaG {c : Int} (h : B8 c) : acw.wrap (I8 .u8 c 7) = c % 8 := Ov (p := fun c => acw.wrap (I8 .u8 c 7) = c % 8) (by decide +kernel) h
theorem aaH {c : Int} (h : B8 c) : acw.wrap c = c := Ov (p := fun c => acw.wrap c = c) (by decide +kernel) h
theorem Z4 {c : Int} (h : B8 c) : acw.wrap (aeh.wrap c) = sg c := Ov (p := fun c => acw.wrap (aeh.wrap c) = sg c) (by decide +kernel) h
theorem abk {t : List Int} (hb : Bs t) (hl : t.length = 4) : acO.wrap (NW t) = NW t /\ Va (acH.wrap (NW t)) = t := by
 have hv := R_ hb 4 (by omega);rw [acE (by omega)] at hv;refine ⟨by rw [Pj]; omega, ?_⟩;rw [show acH.wrap (NW t) = NW t by rw [Pm]; omega]
 match t, hl with
 | [a, b, c, d], _ =>
  have h1 := hb a (by simp); have h2 := hb b (by simp); have h3 := hb c (by simp); have h4 := hb d (by simp);have e : NW [a, b, c, d] = ((a * 256 + b) * 256 + c) * 256 + d := by simp [NW]
  have s1 := Oc (NW [a, b, c, d]) 0 24 .u64 (by decide);have s2 := Oc (NW [a, b, c, d]) 0 16 .u64 (by decide);have s3 := Oc (NW [a, b, c, d]) 0 8 .u64 (by decide);have s4 := Oc (NW [a, b, c, d]) 0 0 .u64 (by decide);unfold Va Qd;simp only [s1, s2, s3, s4];simp only [OH, e];congr 1
  ·omega
  congr 1
  ·omega
  congr 1
  ·omega
  congr 1;omega
theorem Vj {s : List Int} {a b : Nat} (h : b <= s.length) : ((s.take b).drop a).length = b - a := by rw [acD, acG, adx h]
theorem Ym {s : List Int} (hs : Bs s) (hl : s.length < 9223372036854775808) : O5.run .lim (s, ()) = some (Qm s, Uz s, ()) := by
 simp only [O5.run, Nb hl, cond_true];unfold Qm Uz;by_cases h1 : s.length < 48
 ·rw [MR (show (s.length : Int) < 48 by omega), if_pos h1]; rfl
 rw [MS (show ¬ (s.length : Int) < 48 by omega), if_neg h1];by_cases h2 : s.length > 1280
 ·rw [MR (show (s.length : Int) > 1280 by omega), if_pos h2]; rfl
 rw [MS (show ¬ (s.length : Int) > 1280 by omega), if_neg h2];have hc : cut s 48 (s.length : Int) = s.drop 48 := Vb (a := 48) rfl;simp only [cond_false, Nq (show (0 : Int) <= 48 by omega) (show (48 : Int) <= (s.length : Int) by omega) (acP _), cond_true, hc, aaA (hs.drop 48) (show (s.drop 48).length < 9223372036854775808 by rw [acD]; omega), acv];generalize Tn (s.drop 48).length (s.drop 48) [] = r;obtain ⟨fs, e⟩ := r;simp only;by_cases h0 : e = 0
 ·rw [MR h0, if_pos h0];have rb : ∀ k : Nat, k < 48 -> B8 (rd 0 s (k : Int)) := fun k hk => hs _ (NY (by omega) (by omega))
  have r0 := rb 0 (by decide); have r1 := rb 1 (by decide); have r2 := rb 2 (by decide); have r3 := rb 3 (by decide);have v : ∀ a b : Nat, a <= b -> b <= 48 -> b - a <= 8 -> Np.run .lim ((s.take b).drop a, ()) = some (NW ((s.take b).drop a)) := fun a b _ hb hq => Q7 ((hs.take b).drop a) (by rw [Vj (by omega)]; omega)
  have u : ∀ a b : Nat, b = a + 4 -> b <= 48 -> acO.wrap (NW ((s.take b).drop a)) = NW ((s.take b).drop a) := fun a b h hb => (abk ((hs.take b).drop a) (by rw [Vj (by omega)]; omega)).1
  have c1 : cut s 4 8 = (s.take 8).drop 4 := PV rfl rfl;have c2 : cut s 8 12 = (s.take 12).drop 8 := PV rfl rfl;have c3 : cut s 12 16 = (s.take 16).drop 12 := PV rfl rfl;have c4 : cut s 16 24 = (s.take 24).drop 16 := PV rfl rfl;have c5 : cut s 24 32 = (s.take 32).drop 24 := PV rfl rfl;have c6 : cut s 32 40 = (s.take 40).drop 32 := PV rfl rfl;have c7 : cut s 40 48 = (s.take 48).drop 40 := PV rfl rfl;have k : ∀ a b : Int, 0 <= a -> a <= b -> b <= 48 -> sK a b (s.length : Int) = true := fun a b x y z => Nq x y (by omega)
  have i : ∀ a : Int, 0 <= a -> a < 48 -> inB a (s.length : Int) = true := fun a x y => MZ x (by omega)
  simp only [acC, cond_false, i 0 (by decide) (by decide), i 1 (by decide) (by decide), i 2 (by decide) (by decide), i 3 (by decide) (by decide), cond_true, k 4 8 (by decide) (by decide) (by decide), k 8 12 (by decide) (by decide) (by decide), k 12 16 (by decide) (by decide) (by decide), k 16 24 (by decide) (by decide) (by decide), k 24 32 (by decide) (by decide) (by decide), k 32 40 (by decide) (by decide) (by decide), k 40 48 (by decide) (by decide) (by decide),
   c1, c2, c3, c4, c5, c6, c7, v 4 8 (by decide) (by decide) (by decide), v 8 12 (by decide) (by decide) (by decide), v 12 16 (by decide) (by decide) (by decide), v 16 24 (by decide) (by decide) (by decide), v 24 32 (by decide) (by decide) (by decide), v 32 40 (by decide) (by decide) (by decide), v 40 48 (by decide) (by decide) (by decide), acv, u 4 8 rfl (by decide), u 8 12 rfl (by decide), u 12 16 rfl (by decide)]
  have q0 : B8 (rd 0 s 0) := r0;have q1 : B8 (rd 0 s 1) := r1;have q2 : B8 (rd 0 s 2) := r2;have q3 : B8 (rd 0 s 3) := r3;simp only [aaE q0, aaF q0, aaG q0, aaH q1, Z4 q2, Z4 q3, h0];rfl
 ·rw [MS h0, if_neg h0]; rfl
structure Was (s : List Int) : Prop where
 l0 : 48 <= s.length
 l1 : s.length <= 1280
 eq : Qm s = rdP s (Qm s).fs
 st : s = s.take 48 ++ Nj (Qm s).fs
 ok : ∀ f ∈ (Qm s).fs, V4 f
 few : (Qm s).fs.length <= 16
theorem was {s : List Int} (hs : Bs s) (h : Uz s = 0) : Was s := by
 have h1 : 48 <= s.length := by
  unfold Uz at h;split at h
  ·cases h
  ·omega
 have h2 : s.length <= 1280 := by
  unfold Uz at h;rw [if_neg (by omega)] at h;split at h
  ·cases h
  ·omega
 have h3 : (Tn (s.drop 48).length (s.drop 48) []).2 = 0 := by
  unfold Uz at h
  rwa [if_neg (by omega), if_neg (by omega)] at h
 obtain ⟨l, k1, k2, k3, k4⟩ := Yz _ _ [] (acR _) (hs.drop 48) h3;have hr : Qm s = rdP s l := by unfold Qm; rw [if_pos h, k1]; rfl
 have hf : (Qm s).fs = l := by rw [hr]; rfl
 refine ⟨h1, h2, by rw [hf, hr], by rw [hf, <- k2, ac6], by rw [hf]; exact k3, by rw [hf]; simpa using k4 (by simp)⟩
end Go.AM
end
section
namespace Go.AM
def findF (l : List FF) (kind : Int) : List Int := ((acJ l.length).filter fun k : Nat => decide ((rd f0 l (k : Int)).1 = kind)).map fun k : Nat => (k : Int)
def Rw (l : List FF) (kind : Int) (n : Nat) : List Int := ((acJ n).filter fun k : Nat => decide ((rd f0 l (k : Int)).1 = kind)).map fun k : Nat => (k : Int)
theorem Tv (l : List FF) (kind : Int) (n : Nat) : (Rw l kind n).length <= n := by
 unfold Rw;rw [List.length_map];exact Nat.le_trans (List.length_filter_le _ _) (by simp)
theorem UH (l : List FF) (kind : Int) (n : Nat) : Rw l kind (n + 1) = if (rd f0 l (n : Int)).1 = kind then Rw l kind n ++ [(n : Int)] else Rw l kind n := by
 unfold Rw;rw [adp, adY, ado];by_cases h : (rd f0 l (n : Int)).1 = kind
 ·rw [if_pos h, adE (by simpa using h)]; rfl
 ·rw [if_neg h, adD (by simpa using h)]; simp
theorem Tc {l : List FF} (kind : Int) (hl : l.length <= 140737488351232) (h2 : l.length < 8796093022208) : NG.run .lim (l, kind, ()) = some (findF l kind) := by
 have e := NP (f := NG.l0 .lim) (fun k => (kind, l, (l.length : Int), (k : Int), Rw l kind k, ())) (n := l.length) (fun k hk => by
  rw [NG.q0];have hn := Tv l kind k;simp only [NG.b0, MR (show (k : Int) < (l.length : Int) by omega), MZ (show (0 : Int) <= (k : Int) by omega) (show (k : Int) < (l.length : Int) by omega), cond_true, PN k (by omega), UH];by_cases h : (rd f0 l (k : Int)).1 = kind
  ·rw [MR h, if_pos h];simp only [cond_true];rw [cond_pos (MR (show (Rw l kind k).length + [(k : Int)].length < 8796093022208 by simp; omega))]
  ·rw [MS h, if_neg h]; rfl)
 have e0 : NG.l0 .lim (kind, l, (l.length : Int), 0, ([] : List Int), ()) = _ := e;simp only [NG.run, Nb (show l.length < 9223372036854775808 by omega), cond_true, e0];rw [NG.q0];simp only [NG.b0, MS (show ¬ (l.length : Int) < (l.length : Int) by omega), cond_false, acv];rfl
def TS (l : List FF) (kind : Int) : Option Nat := (acJ l.length).find? fun k : Nat => decide ((rd f0 l (k : Int)).1 = kind)
theorem Ru {α : Type} (p : α -> Bool) : ∀ l : List α, l.find? p = (l.filter p).head?
 | [] => rfl
 | a :: l => by
  cases h : p a with
  | true => rw [List.find?_cons_of_pos h, adE h]; rfl
  | false => rw [List.find?_cons_of_neg (by simp [h]), adD (by simp [h]), Ru p l]
theorem Qv (l : List FF) (kind : Int) : (TS l kind = none /\ findF l kind = []) \/ ∃ k r, TS l kind = some k /\ findF l kind = (k : Int) :: r /\ k < l.length /\ (rd f0 l (k : Int)).1 = kind := by
 unfold TS findF;rw [Ru];cases h : (acJ l.length).filter (fun k : Nat => decide ((rd f0 l (k : Int)).1 = kind)) with
 | nil => exact .inl ⟨rfl, rfl⟩
 | cons k r =>
  have hm : k ∈ (acJ l.length).filter (fun k : Nat => decide ((rd f0 l (k : Int)).1 = kind)) := by rw [h]; exact .head _
  obtain ⟨h1, h2⟩ := ad6.1 hm;exact .inr ⟨k, _, rfl, rfl, acY.1 h1, by simpa using h2⟩
theorem QB (l : List FF) (kind : Int) : (findF l kind).length <= l.length := Tv l kind l.length
def Om (l : List FF) (kind : Int) : List Int × Int :=
 if (findF l kind).length = 0 then ([], 19) else if (findF l kind).length = 1 then ((rd f0 l (rd 0 (findF l kind) 0)).2, 0) else ([], 24)
theorem Xg {l : List FF} {kind : Int} (h : (findF l kind).length ≠ 0) : inB 0 ((findF l kind).length : Int) = true /\ inB (rd 0 (findF l kind) 0) (l.length : Int) = true := by
 refine ⟨MZ (by omega) (by omega), ?_⟩;rcases Qv l kind with ⟨_, q⟩ | ⟨k, r, _, q, hk, _⟩
 ·rw [q] at h; exact absurd rfl h
 ·rw [q];exact MZ (show (0 : Int) <= (k : Int) by omega) (show (k : Int) < (l.length : Int) by omega)
theorem Xf {l : List FF} (kind : Int) (hl : l.length < 8796093022208) : O6.run .lim (l, kind, ()) = some ((Om l kind).1, (Om l kind).2, ()) := by
 have hn := QB l kind;simp only [O6.run, Tc kind (by omega) hl, acv, Nb (show (findF l kind).length < 9223372036854775808 by omega), cond_true];unfold Om;by_cases h0 : (findF l kind).length = 0
 ·rw [MR (show ((findF l kind).length : Int) = 0 by omega), if_pos h0]; rfl
 ·rw [MS (show ¬ ((findF l kind).length : Int) = 0 by omega), if_neg h0];obtain ⟨i1, i2⟩ := Xg h0;by_cases h1 : (findF l kind).length = 1
  ·rw [MR (show ((findF l kind).length : Int) = 1 by omega), if_pos h1];simp only [cond_true, cond_false, i1, i2]
  ·rw [MS (show ¬ ((findF l kind).length : Int) = 1 by omega), if_neg h1]; rfl
end Go.AM
end
section
namespace Go.AM
theorem WI {α : Type} {s : List α} {b : Nat} {j : Int} (hj : j = (b : Int)) : cut s 0 j = s.take b := by subst hj; rfl
end Go.AM
end
section
namespace Go.AM
theorem aat : Bs [] := fun x h => by cases h
end Go.AM
end
section
namespace Go.AM
theorem UG {f : FF} (h : V4 f) (x : List Int) : N7 (OM f ++ x) = 4 + f.2.length /\ ¬ RH (OM f ++ x) /\ WM (OM f ++ x) = f /\ (OM f ++ x).drop (N7 (OM f ++ x)) = x := by
 have h1 := h.k0; have h2 := h.k1; have h3 := h.l0; have h4 := h.l4; have h5 := h.l1;have hl := Pz f;have e4 : (OM f ++ x).take 4 = twoS f.1 ++ twoS ((f.2.length : Int) + 4) := by
  unfold OM;rw [acU, ada (by simp [twoS]), acE (by simp [twoS])]
 have eL : N7 (OM f ++ x) = 4 + f.2.length := by
  unfold N7;rw [e4, adq (by simp [twoS]), adI (by simp [twoS]), adv, val_two (by omega) (by omega)];omega
 have e2 : (OM f ++ x).take 2 = twoS f.1 := by
  have : (OM f ++ x).take 2 = ((OM f ++ x).take 4).take 2 := by rw [adA]; rfl
  rw [this, e4, ada (by simp [twoS]), acE (by simp [twoS])]
 have eT : (OM f ++ x).take (4 + f.2.length) = OM f := by rw [<- hl, List.take_left]
 refine ⟨eL, ?_, ?_, ?_⟩
 ·unfold RH;rw [eL, acB, hl];omega
 ·unfold WM;rw [eL, e2, eT, val_two h1 h2];unfold OM;rw [adq (by simp [twoS]), adI (by simp [twoS]), adv]
 ·rw [eL, <- hl, ad8]
theorem Yx : ∀ (l : List FF) (n : Nat) (acc : List FF), (∀ f ∈ l, V4 f) -> (Nj l).length <= n -> acc.length + l.length <= 16 -> Tn n (Nj l) acc = (acc ++ l, 0) := by
 intro l
 induction l with
 | nil =>
  intro n acc _ _ _;have e : Nj [] = [] := rfl;rw [e];cases n with
  | zero => simp [Tn]
  | succ n => simp [Tn]
 | cons f l ih =>
  intro n acc hf hn hl;have hfo := hf f (.head _);have he : Nj (f :: l) = OM f ++ Nj l := by simp [Nj]
  rw [he] at hn ⊢
  obtain ⟨p1, p2, p3, p4⟩ := UG hfo (Nj l);have hlen := Pz f;cases n with
  | zero => rw [acB] at hn; omega
  | succ n =>
   have hne : ¬ (OM f ++ Nj l = []) := fun q => by
    have := congrArg aeg q;rw [acB, hlen] at this;simp at this
   rw [adi] at hl;rw [Tn, if_neg hne, if_neg p2, if_neg (by omega), p3, p4];have := ih n (acc ++ [f]) (fun g hg => hf g (.tail _ hg)) (by rw [acB] at hn; omega) (by simp; omega);rw [this, acU]; rfl
theorem T_ {n : Int} (h0 : 0 <= n) (h1 : n < 4294967296) : NW (Va (acH.wrap n)) = n := by
 rw [show acH.wrap n = n by rw [Pm]; omega];have s1 := Oc n 0 24 .u64 (by decide);have s2 := Oc n 0 16 .u64 (by decide);have s3 := Oc n 0 8 .u64 (by decide);have s4 := Oc n 0 0 .u64 (by decide);unfold Va Qd NW;simp only [s1, s2, s3, s4, OH, adL, adT];omega
theorem Si {n : Int} (h0 : 0 <= n) (h1 : n < 18446744073709551616) : NW (by8 n) = n := by
 have s1 := Oc n 0 56 .u64 (by decide);have s2 := Oc n 0 48 .u64 (by decide);have s3 := Oc n 0 40 .u64 (by decide);have s4 := Oc n 0 32 .u64 (by decide);have s5 := Oc n 0 24 .u64 (by decide);have s6 := Oc n 0 16 .u64 (by decide);have s7 := Oc n 0 8 .u64 (by decide);have s8 := Oc n 0 0 .u64 (by decide);unfold by8 Qd NW;simp only [s1, s2, s3, s4, s5, s6, s7, s8, OH, adL, adT];omega
structure POk (p : PK) : Prop where
 hd : TT p = true
 a : 0 <= p.2.2.2.2.2.2.1 /\ p.2.2.2.2.2.2.1 < 4294967296
 b : 0 <= p.2.2.2.2.2.2.2.1 /\ p.2.2.2.2.2.2.2.1 < 4294967296
 c : 0 <= p.2.2.2.2.2.2.2.2.1 /\ p.2.2.2.2.2.2.2.2.1 < 4294967296
 d : 0 <= p.2.2.2.2.2.2.2.2.2.1 /\ p.2.2.2.2.2.2.2.2.2.1 < 18446744073709551616
 e : 0 <= p.2.2.2.2.2.2.2.2.2.2.1 /\ p.2.2.2.2.2.2.2.2.2.2.1 < 18446744073709551616
 f : 0 <= p.2.2.2.2.2.2.2.2.2.2.2.1 /\ p.2.2.2.2.2.2.2.2.2.2.2.1 < 18446744073709551616
 g : 0 <= p.2.2.2.2.2.2.2.2.2.2.2.2.1 /\ p.2.2.2.2.2.2.2.2.2.2.2.2.1 < 18446744073709551616
theorem X4 : ∀ a : Nat, a < 4 -> ∀ b : Nat, b < 8 -> ∀ c : Nat, c < 8 -> XD a b c / 64 = a /\ XD a b c / 8 % 8 = b /\ XD a b c % 8 = c := by decide +kernel
theorem Vq : ∀ n : Nat, n < 256 -> sg (acy.wrap ((n : Int) - 128)) = (n : Int) - 128 := by decide +kernel
theorem Xk {p : PK} (h : POk p) (x : List Int) (fs : List FF) : rdP (Uy p ++ x) fs = PK.cut p fs := by
 obtain ⟨a, b, c, d, e, g, r1, r2, r3, q1, q2, q3, q4, l⟩ := p;obtain ⟨h0, h1, h2, h3, h4, h5, h6, h7⟩ := h;unfold TT Ue at h0;simp only [acT, decide_eq_true_eq] at h0 h1 h2 h3 h4 h5 h6 h7;obtain ⟨⟨⟨⟨⟨ha, hb⟩, hc⟩, hd⟩, he⟩, hg⟩ := h0;have hB := X4 a.toNat (by omega) b.toNat (by omega) c.toNat (by omega);rw [ac9 ha.1, ac9 hb.1, ac9 hc.1] at hB;have he' := Vq (e + 128).toNat (by omega);rw [ac9 (by omega), show e + 128 - 128 = e by omega] at he';have hg' := Vq (g + 128).toNat (by omega);rw [ac9 (by omega), show g + 128 - 128 = g by omega] at hg';have hd' : acy.wrap d = d := by rw [OH]; omega
 have v1 := T_ h1.1 h1.2; have v2 := T_ h2.1 h2.2; have v3 := T_ h3.1 h3.2;have v4 := Si h4.1 h4.2; have v5 := Si h5.1 h5.2; have v6 := Si h6.1 h6.2; have v7 := Si h7.1 h7.2;show (XD a b c / 64, XD a b c / 8 % 8, XD a b c % 8, acy.wrap d, sg (acy.wrap e), sg (acy.wrap g), NW (Va (acH.wrap r1)), NW (Va (acH.wrap r2)), NW (Va (acH.wrap r3)), NW (by8 q1), NW (by8 q2), NW (by8 q3), NW (by8 q4), fs) = (a, b, c, d, e, g, r1, r2, r3, q1, q2, q3, q4, fs);rw [hB.1, hB.2.1, hB.2.2, hd', he', hg', v1, v2, v3, v4, v5, v6, v7]
theorem VP {p : PK} (h : POk p) (hf : ∀ f ∈ p.fs, V4 f) (h16 : p.fs.length <= 16) (hl : (Nj p.fs).length <= 1232) : Uz (Uy p ++ Nj p.fs) = 0 /\ Qm (Uy p ++ Nj p.fs) = p := by
 have hd : (Uy p ++ Nj p.fs).drop 48 = Nj p.fs := ad8 (l₁ := Uy p);have hlen : (Uy p ++ Nj p.fs).length = 48 + (Nj p.fs).length := by rw [acB, TU]
 have ht := Yx p.fs (Nj p.fs).length [] hf (acR _) (by simpa using h16);have he : Uz (Uy p ++ Nj p.fs) = 0 := by
  unfold Uz;rw [if_neg (by omega), if_neg (by omega), hd, ht]
 refine ⟨he, ?_⟩;unfold Qm;rw [if_pos he, hd, ht, Xk h];rfl
theorem Z_ (p : PK) : Bs (Uy p) := fun x hx => by
 unfold Uy Va by8 Qd XD at hx;simp only [adb, ac_, ac3, or_false] at hx;rcases hx with (h | h | h | h) | (h | h | h | h) | (h | h | h | h) | (h | h | h | h) | (h | h | h | h | h | h | h | h) | (h | h | h | h | h | h | h | h) | (h | h | h | h | h | h | h | h) | h | h | h | h | h | h | h | h <;> (rw [h]; exact QA _)
theorem X8 {l : List FF} (h : ∀ f ∈ l, Bs f.2) : Bs (Nj l) := fun x hx => by
 unfold Nj at hx;obtain ⟨t, ht, hx⟩ := List.mem_flatten.1 hx;obtain ⟨f, hf, rfl⟩ := adP.1 ht;unfold OM at hx;rcases adb.1 hx with hx | hx
 ·rcases adb.1 hx with hx | hx
  ·exact Xx _ x hx
  ·exact Xx _ x hx
 ·exact h f hf x hx
end Go.AM
end
section
namespace Go.AM
end Go.AM
end
section
namespace Go.AM
def RD (r : RR) (k : Nat) : Int := if k = 0 then (rd r0 r.1 0).2.2 else (rd r0 r.1 ((k - 1 : Nat) : Int)).2.2
theorem WQ {c : Nat -> Bool} {n : Nat} : (acJ n).any c = ((acJ n).find? c).isSome := by rw [adJ, List.any_eq_true, List.find?_isSome]
theorem U7 {r : RR} (hl : r.1.length < NV) (hk : ∀ k ∈ r.1, k.2.1.length < NV) : Oo.run .lim (r, ()) = some (WR r) := by
 have hl63 : r.1.length < 9223372036854775808 := hl;simp only [Oo.run, Nb hl63, acL, cond_true];unfold WR;by_cases h : 1 <= r.1.length /\ r.1.length <= 8
 ·have hn : (decide ((r.1.length : Int) < 1) || decide ((r.1.length : Int) > 8)) = false := by rw [MS (show ¬ (r.1.length : Int) < 1 by omega), MS (show ¬ (r.1.length : Int) > 8 by omega)]; rfl
  rw [cond_neg hn, MZ (by decide) (by omega), cond_true, MR h, ac4];have e := PD (f := Oo.l0 .lim) (fun j => ((r.2 - ((r.1.length - j : Nat) : Int)) % 4294967296, r.1, (r.1.length : Int), (j : Int), false, RD r j, ())) r.1.length (badR r) (fun j => some (.inl (false, RD r j, ()))) (fun k hk' => by
   have hkl := hk _ (NY (d := r0) (xs := r.1) (i := (k : Int)) (by omega) (by omega));have WV : (rd r0 r.1 (k : Int)).2.1.length < 9223372036854775808 := hkl;rw [Oo.q0];simp only [Oo.b0];rw [cond_pos (MR (show (k : Int) < (r.1.length : Int) by omega)), MZ (by omega) (show (k : Int) < (r.1.length : Int) by omega), cond_true, Nb WV, cond_true];have e1 : decide (((rd r0 r.1 (k : Int)).2.1.length : Int) = 32) = decide ((rd r0 r.1 (k : Int)).2.1.length = 32) := by
    by_cases q : (rd r0 r.1 (k : Int)).2.1.length = 32
    ·rw [MR q, MR (by omega)]
    ·rw [MS q, MS (by omega)]
   have e2 : decide ((rd r0 r.1 (k : Int)).2.2 < RD r k) = (decide (0 < k) && decide ((rd r0 r.1 (k : Int)).2.2 < (rd r0 r.1 ((k - 1 : Nat) : Int)).2.2)) := by
    unfold RD;by_cases q : k = 0
    ·subst q; rw [if_pos rfl, MS (show ¬ 0 < 0 by omega), acW]; exact MS (Int.lt_irrefl _)
    ·rw [if_neg q, MR (show 0 < k by omega), ac4]
   have e3 : ((!(decide (((rd r0 r.1 (k : Int)).2.1.length : Int) = 32))) || (!(decide ((rd r0 r.1 (k : Int)).1 = (r.2 - ((r.1.length - k : Nat) : Int)) % 4294967296))) || (decide ((rd r0 r.1 (k : Int)).2.2 < RD r k))) = badR r k := by rw [e1, e2]; rfl
   have e4 : acO.wrap ((r.2 - ((r.1.length - k : Nat) : Int)) % 4294967296 + 1) = (r.2 - ((r.1.length - (k + 1) : Nat) : Int)) % 4294967296 := by rw [Pj]; omega
   have e5 : (rd r0 r.1 (k : Int)).2.2 = RD r (k + 1) := by unfold RD; rw [if_neg (by omega)]; rfl
   have e3' : (((!(decide (((((rd ((0 : Int), (([] : List Int), (0 : Int))) r.1 (k : Int)).2).1).length : Int) = 32))) || (!(decide (((rd ((0 : Int), (([] : List Int), (0 : Int))) r.1 (k : Int)).1) = (r.2 - ((r.1.length - k : Nat) : Int)) % 4294967296)))) || (decide ((((rd ((0 : Int), (([] : List Int), (0 : Int))) r.1 (k : Int)).2).2) < RD r k))) = badR r k := e3;rw [e3', e4, PN k (by omega)]
   first | rfl | (congr 1; rw [<- e5]))
  have hw : acO.wrap (r.2 - acO.wrap (r.1.length : Int)) = (r.2 - ((r.1.length - 0 : Nat) : Int)) % 4294967296 := by rw [Pj, Pj]; omega
  have e0 : Oo.l0 .lim ((r.2 - ((r.1.length - 0 : Nat) : Int)) % 4294967296, r.1, (r.1.length : Int), 0, false, ((rd ((0 : Int), (([] : List Int), (0 : Int))) r.1 0).2).2, ()) = _ := e;rw [hw, e0, WQ];cases hq : (acJ r.1.length).find? (badR r) with
  | some k => rfl
  | none =>
   simp only;rw [Oo.q0];simp only [Oo.b0];rw [cond_neg (MS (by omega))]; rfl
 ·rw [cond_pos (by
   rw [adl, decide_eq_true_eq, decide_eq_true_eq]; omega), MS h, acW]
theorem Xm (x y : RK) : (decide (x.1 = y.1) && (decide (x.2.1 = y.2.1) && decide (x.2.2 = y.2.2))) = decide (x = y) := by
 obtain ⟨a, b, c⟩ := x;obtain ⟨a', b', c'⟩ := y;rw [adJ];simp only [acT, decide_eq_true_eq, Prod.mk.injEq]
def TF (a b : RR) : Bool := decide (a.2 = b.2) && decide (a.1 = b.1)
theorem Y_ {a b : List RK} (ha' : a.length < 4611686018427387904) (hb' : b.length < 4611686018427387904) : MW.run .lim (a, b, ()) = some (decide (a = b)) := by
 have ha : a.length < 9223372036854775808 := by omega
 have hb : b.length < 9223372036854775808 := by omega
 simp only [MW.run, Nb ha, Nb hb, cond_true];by_cases hl : a.length = b.length
 ·rw [cond_neg (by rw [MR (show (a.length : Int) = (b.length : Int) by omega)]; rfl)];have e := QT (f := MW.l0 .lim) (fun k => (a, b, (a.length : Int), (k : Int), ())) a.length (fun k => !decide (rd r0 a (k : Int) = rd r0 b (k : Int))) (some (.inl (false, ()))) (fun k hk => by
   rw [MW.q0];simp only [MW.b0];rw [cond_pos (MR (show (k : Int) < (a.length : Int) by omega)), MZ (by omega) (show (k : Int) < (a.length : Int) by omega), cond_true, MZ (by omega) (show (k : Int) < (b.length : Int) by omega), cond_true, Xm, PN k (by omega)])
  have e0 : MW.l0 .lim (a, b, (a.length : Int), 0, ()) = _ := e;rw [e0, UE hl];by_cases h : a = b
  ·rw [MR h, acC, cond_false, MW.q0];simp only [MW.b0];rw [cond_neg (MS (by omega))]; rfl
  ·rw [MS h]; rfl
 ·rw [cond_pos (by rw [MS (show ¬ (a.length : Int) = (b.length : Int) by omega)]; rfl), MS (fun h => hl (by rw [h]))]
theorem Ul {a b : RR} (ha : a.1.length < 4611686018427387904) (hb : b.1.length < 4611686018427387904) : P9.run .lim (a, b, ()) = some (TF a b) := by
 simp only [P9.run];unfold TF;by_cases h : a.2 = b.2
 ·rw [MR h, cond_true, Y_ ha hb]; rfl
 ·rw [MS h, cond_false]; rfl
theorem TW {a b : RR} (ha' : a.1.length < 4611686018427387904) (hb' : b.1.length < 4611686018427387904) : Nl.run .lim (a, b, ()) = some (TF a b) := by
 have ha : a.1.length < 9223372036854775808 := by omega
 have hb : b.1.length < 9223372036854775808 := by omega
 simp only [Nl.run, Nb ha, Nb hb, acL, cond_true];unfold TF;by_cases h : a.2 = b.2
 ·rw [MR h, acC, ade, ac4];by_cases hl : a.1.length = b.1.length
  ·rw [cond_neg (by rw [MR (show (a.1.length : Int) = (b.1.length : Int) by omega)]; rfl)];have e := QT (f := Nl.l0 .lim) (fun k => ((k : Int), a.1, a.2, b.1, b.2, ())) a.1.length (fun k => !decide (rd r0 a.1 (k : Int) = rd r0 b.1 (k : Int))) (some (.inl (false, ()))) (fun k hk => by
    rw [Nl.q0];simp only [Nl.b0, Nb ha, cond_true];rw [cond_pos (MR (show (k : Int) < (a.1.length : Int) by omega)), MZ (by omega) (show (k : Int) < (a.1.length : Int) by omega), cond_true, MZ (by omega) (show (k : Int) < (b.1.length : Int) by omega), cond_true, Xm, PN k (by omega)])
   have e0 : Nl.l0 .lim (0, a.1, a.2, b.1, b.2, ()) = _ := e;rw [e0, UE hl];by_cases h : a.1 = b.1
   ·rw [MR h, acC, cond_false, Nl.q0];simp only [Nl.b0, Nb ha, cond_true];rw [cond_neg (MS (by omega))]; rfl
   ·rw [MS h]; rfl
  ·rw [cond_pos (by rw [MS (show ¬ (a.1.length : Int) = (b.1.length : Int) by omega)]; rfl), MS (fun h => hl (by rw [h]))]
 ·rw [cond_pos (by rw [MS h]; rfl), MS h, acW]
abbrev SV := RR × (Int × (Int × (Int × (Int × (Int × (Int × (Int × Int)))))))
def SOk (x : SV) : Prop := x.1.1.length < NV /\ ∀ k ∈ x.1.1, k.2.1.length < NV
def WT (x : SV) : Bool := ((((WR x.1 && (decide (x.2.1 > 0))) && (decide (x.2.1 < 16))) && (decide (x.2.2.1 >= (-128)))) && (decide (x.2.2.1 < 128)))
theorem VA {x : SV} (h : SOk x) : P_.run .lim (x, ()) = some (WT x) /\ Oe.run .lim (x, ()) = some (WT x) := by
 refine ⟨?_, ?_⟩
 ·simp only [P_.run, U7 h.1 h.2, acv];rfl
 ·simp only [Oe.run, X_ h.1 h.2, acv];congr 1;unfold WT;rw [adJ];simp only [acT, decide_eq_true_eq];constructor <;> rintro ⟨⟨⟨⟨a, b⟩, c⟩, d⟩, e⟩ <;> exact ⟨⟨⟨⟨a, by omega⟩, by omega⟩, by omega⟩, by omega⟩
def SQ (a b : SV) : Bool := ((((TF a.1 b.1 && (((((decide (a.2.1 = b.2.1)) && (decide (a.2.2.1 = b.2.2.1))) && (decide (a.2.2.2.1 = b.2.2.2.1))) && (decide (a.2.2.2.2.1 = b.2.2.2.2.1))) && (decide (a.2.2.2.2.2.1 = b.2.2.2.2.2.1)))) && (decide (a.2.2.2.2.2.2.1 = b.2.2.2.2.2.2.1))) && (decide (a.2.2.2.2.2.2.2.1 = b.2.2.2.2.2.2.2.1))) && (decide (a.2.2.2.2.2.2.2.2 = b.2.2.2.2.2.2.2.2)))
theorem SS {x y : SV} (h : x.1.1.length < 4611686018427387904) (k : y.1.1.length < 4611686018427387904) : O4.run .lim (x, y, ()) = some (SQ x y) /\ Ob.run .lim (x, y, ()) = some (SQ x y) := by
 refine ⟨?_, ?_⟩
 ·simp only [O4.run, Ul h k, acv];rfl
 ·simp only [Ob.run, TW h k, acv];congr 1;unfold SQ;simp only [Bool.and_assoc]
theorem Un (x : SV) : SQ x x = true := by
 unfold SQ TF;simp
end Go.AM
end
section
namespace Go.AM
theorem N8 {n : Int} (h0 : 0 <= n) (h1 : n < 18446744073709551616) {k : Nat} {m : List Int} (hk : k < m.length) (hm : m.length <= 8) :
  MQ.l0 .lim (n, (k : Int), m, ()) = MQ.l0 .lim (n / 256, (k : Int) - 1, m.set k (acy.wrap n), ()) := by
 have e1 : acH.wrap (n.tdiv 256) = n / 256 := by rw [acM h0, Pm]; omega
 have e2 : acy.wrap (n.tmod 256) = acy.wrap n := by rw [acF h0, OH, OH]; omega
 rw [MQ.q0];simp only [MQ.b0, e1, e2];rw [cond_pos (MR (show (k : Int) >= 0 by omega)), MZ (by omega) (by omega), cond_true, wrap64 (by omega) (by omega), acA]
theorem SL (n : Int) (m : List Int) : MQ.l0 .lim (n, -1, m, ()) = some (m, ()) := by rw [MQ.q0]; rfl
theorem YP {n : Int} (h0 : 0 <= n) (h1 : n < 65536) : MQ.run .lim (n, 2, ()) = some (twoS n) := by
 show (MQ.l0 .lim (n, ((1 : Nat) : Int), [0, 0], ())).bind _ = _;rw [N8 h0 (by omega) (by simp) (by simp)];show (MQ.l0 .lim (n / 256, ((0 : Nat) : Int), [0, acy.wrap n], ())).bind _ = _;rw [N8 (by omega) (by omega) (by simp) (by simp)];show (MQ.l0 .lim (n / 256 / 256, -1, [acy.wrap (n / 256), acy.wrap n], ())).bind _ = _;rw [SL];unfold twoS;rw [Zn]; rfl
theorem O9 (n : Int) (k : Nat) (hk : k <= 64) : Qd n k = acy.wrap (n / 2 ^ k) := by unfold Qd; rw [Oc n 0 k .u64 hk]
theorem aav {n : Int} (h0 : 0 <= n) (h1 : n < 18446744073709551616) : MQ.run .lim (n, 4, ()) = some (Va n) := by
 show (MQ.l0 .lim (n, ((3 : Nat) : Int), [0, 0, 0, 0], ())).bind _ = _;rw [N8 h0 h1 (by simp) (by simp)];show (MQ.l0 .lim (n / 256, ((2 : Nat) : Int), [0, 0, 0, acy.wrap n], ())).bind _ = _;rw [N8 (by omega) (by omega) (by simp) (by simp)];show (MQ.l0 .lim (n / 256 / 256, ((1 : Nat) : Int), [0, 0, acy.wrap (n / 256), acy.wrap n], ())).bind _ = _;rw [N8 (by omega) (by omega) (by simp) (by simp)];show (MQ.l0 .lim (n / 256 / 256 / 256, ((0 : Nat) : Int), [0, acy.wrap (n / 256 / 256), acy.wrap (n / 256), acy.wrap n], ())).bind _ = _;rw [N8 (by omega) (by omega) (by simp) (by simp)];show (MQ.l0 .lim (n / 256 / 256 / 256 / 256, -1, [acy.wrap (n / 256 / 256 / 256), acy.wrap (n / 256 / 256), acy.wrap (n / 256), acy.wrap n], ())).bind _ = _;rw [SL];unfold Va;rw [O9 n 24 (by decide), O9 n 16 (by decide), O9 n 8 (by decide), O9 n 0 (by decide)];have e1 : n / 256 / 256 / 256 = n / 2 ^ 24 := by show _ = n / 16777216; omega
 have e2 : n / 256 / 256 = n / 2 ^ 16 := by show _ = n / 65536; omega
 have e3 : n / 2 ^ 0 = n := by show n / 1 = n; omega
 rw [e1, e2, e3]; rfl
theorem Vm {n : Int} (h0 : 0 <= n) (h1 : n < 18446744073709551616) : MQ.run .lim (n, 8, ()) = some (by8 n) := by
 show (MQ.l0 .lim (n, ((7 : Nat) : Int), [0, 0, 0, 0, 0, 0, 0, 0], ())).bind _ = _;rw [N8 h0 h1 (by simp) (by simp)];have d1 : 0 <= n / 256 /\ n / 256 < 18446744073709551616 := by omega
 have e1 : n / 256 = n / 2 ^ 8 := rfl;generalize hb1 : n / 256 = b1 at *;show (MQ.l0 .lim (b1, ((6 : Nat) : Int), [0, 0, 0, 0, 0, 0, 0, acy.wrap n], ())).bind _ = _;rw [N8 d1.1 d1.2 (by simp) (by simp)];have d2 : 0 <= b1 / 256 /\ b1 / 256 < 18446744073709551616 := by omega
 have e2 : b1 / 256 = n / 2 ^ 16 := by show _ = n / 65536; omega
 generalize hb2 : b1 / 256 = b2 at *;show (MQ.l0 .lim (b2, ((5 : Nat) : Int), [0, 0, 0, 0, 0, 0, acy.wrap b1, acy.wrap n], ())).bind _ = _;rw [N8 d2.1 d2.2 (by simp) (by simp)];have d3 : 0 <= b2 / 256 /\ b2 / 256 < 18446744073709551616 := by omega
 have e3 : b2 / 256 = n / 2 ^ 24 := by show _ = n / 16777216; omega
 generalize hb3 : b2 / 256 = b3 at *;show (MQ.l0 .lim (b3, ((4 : Nat) : Int), [0, 0, 0, 0, 0, acy.wrap b2, acy.wrap b1, acy.wrap n], ())).bind _ = _;rw [N8 d3.1 d3.2 (by simp) (by simp)];have d4 : 0 <= b3 / 256 /\ b3 / 256 < 18446744073709551616 := by omega
 have e4 : b3 / 256 = n / 2 ^ 32 := by show _ = n / 4294967296; omega
 generalize hb4 : b3 / 256 = b4 at *;show (MQ.l0 .lim (b4, ((3 : Nat) : Int), [0, 0, 0, 0, acy.wrap b3, acy.wrap b2, acy.wrap b1, acy.wrap n], ())).bind _ = _;rw [N8 d4.1 d4.2 (by simp) (by simp)];have d5 : 0 <= b4 / 256 /\ b4 / 256 < 18446744073709551616 := by omega
 have e5 : b4 / 256 = n / 2 ^ 40 := by show _ = n / 1099511627776; omega
 generalize hb5 : b4 / 256 = b5 at *;show (MQ.l0 .lim (b5, ((2 : Nat) : Int), [0, 0, 0, acy.wrap b4, acy.wrap b3, acy.wrap b2, acy.wrap b1, acy.wrap n], ())).bind _ = _;rw [N8 d5.1 d5.2 (by simp) (by simp)];have d6 : 0 <= b5 / 256 /\ b5 / 256 < 18446744073709551616 := by omega
 have e6 : b5 / 256 = n / 2 ^ 48 := by show _ = n / 281474976710656; omega
 generalize hb6 : b5 / 256 = b6 at *;show (MQ.l0 .lim (b6, ((1 : Nat) : Int), [0, 0, acy.wrap b5, acy.wrap b4, acy.wrap b3, acy.wrap b2, acy.wrap b1, acy.wrap n], ())).bind _ = _;rw [N8 d6.1 d6.2 (by simp) (by simp)];have d7 : 0 <= b6 / 256 /\ b6 / 256 < 18446744073709551616 := by omega
 have e7 : b6 / 256 = n / 2 ^ 56 := by show _ = n / 72057594037927936; omega
 generalize hb7 : b6 / 256 = b7 at *;show (MQ.l0 .lim (b7, ((0 : Nat) : Int), [0, acy.wrap b6, acy.wrap b5, acy.wrap b4, acy.wrap b3, acy.wrap b2, acy.wrap b1, acy.wrap n], ())).bind _ = _;rw [N8 d7.1 d7.2 (by simp) (by simp)];show (MQ.l0 .lim (b7 / 256, -1, [acy.wrap b7, acy.wrap b6, acy.wrap b5, acy.wrap b4, acy.wrap b3, acy.wrap b2, acy.wrap b1, acy.wrap n], ())).bind _ = _;rw [SL];unfold by8;rw [O9 n 56 (by decide), O9 n 48 (by decide), O9 n 40 (by decide), O9 n 32 (by decide), O9 n 24 (by decide), O9 n 16 (by decide), O9 n 8 (by decide), O9 n 0 (by decide), <- e1, <- e2, <- e3, <- e4, <- e5, <- e6, <- e7];have e0 : n / 2 ^ 0 = n := by show n / 1 = n; omega
 rw [e0]; rfl
theorem U6 {l : List FF} (hl : FL l) : Nh.run .lim (l, ()) = some (QK l, PW l, ()) := by
 obtain ⟨h1, h2⟩ := hl;simp only [Nh.run, Nb h1, cond_true];by_cases h16 : l.length > 16
 ·rw [MR (show (l.length : Int) > 16 by omega)];have : PW l = 18 := by unfold PW; rw [if_pos h16]
  unfold QK;rw [this]; rfl
 rw [MS (show ¬ (l.length : Int) > 16 by omega)];have e := PD (f := Nh.l0 .lim) (fun k => (l, O_ l k, ((min (Nj (l.take k)).length 1233 : Nat) : Int), (k : Int), ())) l.length (fun k : Nat => !decide (fE (rd f0 l (k : Int)) = 0))
  (fun k => if fE (rd f0 l (k : Int)) = 13 then some (.inl (([] : List Int), 13, ())) else some (.inr (.inl (([] : List Int), 10, ())))) (fun k hk => by
  have hm := NY (d := f0) (xs := l) (i := (k : Int)) (by omega) (by omega);have hb := h2 _ hm;rw [Nh.q0];generalize hg : rd f0 l (k : Int) = f at hm hb;simp only [Nh.b0, Nb h1, MR (show (k : Int) < (l.length : Int) by omega), MZ (show (0 : Int) <= (k : Int) by omega) (show (k : Int) < (l.length : Int) by omega), cond_true, hg, Nb (show f.2.length < 9223372036854775808 by omega), acL];unfold fE;by_cases hk1 : f.1 < 0 \/ f.1 >= 65536
  ·rw [if_pos hk1];have : ((decide (f.1 < 0)) || (decide (f.1 > 65535))) = true := by rw [adl, decide_eq_true_eq, decide_eq_true_eq]; omega
   simp only [this, cond_true];rfl
  ·rw [if_neg hk1];have : ((decide (f.1 < 0)) || (decide (f.1 > 65535))) = false := by rw [MS (show ¬ f.1 < 0 by omega), MS (show ¬ f.1 > 65535 by omega)]; rfl
   simp only [this, cond_false];have h3 : (f.2.length : Int).tmod 4 = ((f.2.length % 4 : Nat) : Int) := by rw [acF (by omega)]; omega
   by_cases hk2 : f.2.length < 12 \/ f.2.length % 4 ≠ 0
   ·rw [if_pos hk2];have : ((decide ((f.2.length : Int) < 12)) || (!(decide ((f.2.length : Int).tmod 4 = 0)))) = true := by
     rw [h3];rcases hk2 with q | q
     ·rw [MR (show (f.2.length : Int) < 12 by omega)]; rfl
     ·rw [MS (show ¬ ((f.2.length % 4 : Nat) : Int) = 0 by omega)]; simp
    simp only [this, cond_true];rfl
   ·rw [if_neg hk2];have : ((decide ((f.2.length : Int) < 12)) || (!(decide ((f.2.length : Int).tmod 4 = 0)))) = false := by rw [h3, MS (show ¬ (f.2.length : Int) < 12 by omega), MR (show ((f.2.length % 4 : Nat) : Int) = 0 by omega)]; rfl
    simp only [this, cond_false, decide_true, acC, cond_false];have es := QJ hk;have el : (Nj (l.take (k + 1))).length = (Nj (l.take k)).length + (4 + f.2.length) := by rw [es, acB, Pz, hg]
    have ew : mn (acw.wrap ((acw.wrap (((min (Nj (l.take k)).length 1233 : Nat) : Int) + 4)) + (f.2.length : Int))) 1233 = ((min (Nj (l.take (k + 1))).length 1233 : Nat) : Int) := by rw [OU, wrap64 (n := ((min (Nj (l.take k)).length 1233 : Nat) : Int) + 4) (by omega) (by omega), wrap64 (by omega) (by omega)]; omega
    simp only [ew];by_cases hl2 : (Nj (l.take (k + 1))).length > 1232
    ·have e3 : O_ l (k + 1) = O_ l k := by rw [O_, if_pos hl2]
     rw [cond_neg (MS (by omega)), e3, PN k (by omega)]
    ·have e3 : O_ l (k + 1) = O_ l k ++ OM f := by rw [O_, if_neg hl2, hg]
     have eo := RY (l := l) k (by omega) (by omega);have ol : (O_ l k).length <= 1232 := by rw [eo]; omega
     have e4 : acH.wrap (acw.wrap ((f.2.length : Int) + 4)) = (f.2.length : Int) + 4 := by rw [wrap64 (by omega) (by omega), Pm]; omega
     have e5 : acH.wrap f.1 = f.1 := by rw [Pm]; omega
     rw [cond_pos (MR (by omega)), e4, e5, YP (by omega) (by omega), acv, cond_pos (MR (by rw [OX]; unfold maxStr; omega)), YP (by omega) (by omega), acv,
      cond_pos (MR (by rw [acB, OX, OX]; unfold maxStr; omega)), cond_pos (MR (by rw [acB, acB, OX, OX]; unfold maxStr; omega)), PN k (by omega), e3]
     unfold OM;simp only [acU])
 have e0 : Nh.l0 .lim (l, ([] : List Int), 0, 0, ()) = _ := e;rw [cond_false, e0];unfold QK PW;rw [if_neg h16];cases hq : (acJ l.length).find? (fun k : Nat => !decide (fE (rd f0 l (k : Int)) = 0)) with
 | some k =>
  have hk := adu hq;simp only [adf, decide_eq_false_iff_not] at hk;simp only;have : fE (rd f0 l (k : Int)) = 13 \/ fE (rd f0 l (k : Int)) = 10 := by
   unfold fE at hk ⊢
   split
   ·exact .inl rfl
   ·split
    ·exact .inr rfl
    ·rename_i q1 q2; rw [if_neg q1, if_neg q2] at hk; exact absurd rfl hk
  rw [if_neg hk];rcases this with q | q
  ·rw [if_pos q, q]; rfl
  ·rw [if_neg (by omega), q]; rfl
 | none =>
  simp only [acN];rw [Nh.q0];simp only [Nh.b0, Nb h1, cond_true, MS (show ¬ (l.length : Int) < (l.length : Int) by omega), cond_false, acv];by_cases hl : (Nj l).length > 1232
  ·rw [cond_pos (MR (by omega)), if_pos hl]; rfl
  ·rw [cond_neg (MS (by omega)), if_neg hl, RY l.length (acR _) (by rw [acN]; omega), acN]; rfl
theorem YD {α : Type} (r0 r1 r2 r3 r4 r5 : Bool) (E K : Option α) : ((some r0).bind fun r => ((bif !!r then some r1 else some false)).bind fun r1 => ((bif !(!r || !r1) then some r2 else some false)).bind fun r2 => ((bif !((!r || !r1) || !r2) then some r3 else some false)).bind fun r3 =>
  ((bif !(((!r || !r1) || !r2) || !r3) then some r4 else some false)).bind fun r4 => ((bif !((((!r || !r1) || !r2) || !r3) || !r4) then some r5 else some false)).bind fun r5 =>
  bif (((((!r || !r1) || !r2) || !r3) || !r4) || !r5) then E else K) = bif (((((r0 && r1) && r2) && r3) && r4) && r5) then K else E := by
 cases r0 <;> cases r1 <;> cases r2 <;> cases r3 <;> cases r4 <;> cases r5 <;> rfl
theorem rb0 : ∀ a : Nat, a < 4 -> ∀ b : Nat, b < 8 -> ∀ c : Nat, c < 8 -> acy.wrap (acw.wrap (acw.wrap (acw.wrap ((a : Int) * 64) + acw.wrap ((b : Int) * 8)) + (c : Int))) = XD a b c := by decide +kernel
theorem Yc {n a b : Int} : Ue n a b = true ↔ a <= n /\ n <= b := by unfold Ue; rw [acT, decide_eq_true_eq, decide_eq_true_eq]
structure HU (p : PK) : Prop where
 a : 0 <= p.2.2.2.2.2.2.2.2.2.1 /\ p.2.2.2.2.2.2.2.2.2.1 < 18446744073709551616
 b : 0 <= p.2.2.2.2.2.2.2.2.2.2.1 /\ p.2.2.2.2.2.2.2.2.2.2.1 < 18446744073709551616
 c : 0 <= p.2.2.2.2.2.2.2.2.2.2.2.1 /\ p.2.2.2.2.2.2.2.2.2.2.2.1 < 18446744073709551616
 d : 0 <= p.2.2.2.2.2.2.2.2.2.2.2.2.1 /\ p.2.2.2.2.2.2.2.2.2.2.2.2.1 < 18446744073709551616
theorem uB (n : Int) : 0 <= acH.wrap n /\ acH.wrap n < 18446744073709551616 := by rw [Pm]; omega
theorem VQ {p : PK} (hl : FL p.fs) (hu : HU p) : NS.run .lim (p, ()) = some (Zv p, Wj p, ()) := by
 have hw : ∀ n a b, Nu.run .lim (n, a, b, ()) = some (Ue n a b) := fun _ _ _ => rfl
 have hf : Nh.run .lim (p.2.2.2.2.2.2.2.2.2.2.2.2.2, ()) = some (QK p.fs, PW p.fs, ()) := U6 hl;simp only [NS.run, hw];refine (YD _ _ _ _ _ _ _ _).trans ?_;show (bif TT p then _ else _) = _;cases hok : TT p with
 | false =>
  have : Wj p = 13 := by unfold Wj; rw [hok]; rfl
  unfold Zv;rw [this]; rfl
 | true =>
  rw [cond_true, hf, acv];have hE : Wj p = PW p.fs := by unfold Wj; rw [if_pos hok]
  simp only;unfold Zv;rw [hE];by_cases h0 : PW p.fs = 0
  ·rw [cond_neg (by rw [MR h0]; rfl), if_pos h0, h0];have hS : QK p.fs = Nj p.fs := by unfold QK; rw [if_pos h0]
   have hlen := Ud (l := p.fs);rw [hS] at hlen;have hh := hok;unfold TT at hh;simp only [acT, Yc] at hh;obtain ⟨⟨⟨⟨⟨a1, a2⟩, a3⟩, a4⟩, a5⟩, a6⟩ := hh;obtain ⟨x, hx⟩ := ac1 a1.1;obtain ⟨y, hy⟩ := ac1 a2.1;obtain ⟨z, hz⟩ := ac1 a3.1;have hb := rb0 x (by omega) y (by omega) z (by omega);have hb : acy.wrap (acw.wrap (acw.wrap (acw.wrap (p.1 * 64) + acw.wrap (p.2.1 * 8)) + p.2.2.1)) = XD p.1 p.2.1 p.2.2.1 := by rw [hx, hy, hz]; exact hb
   have l4 : ∀ n, (Va n).length = 4 := fun n => rfl
   have l8 : ∀ n, (by8 n).length = 8 := fun n => rfl
   simp only [hb, aav (uB _).1 (uB _).2, Vm hu.a.1 hu.a.2, Vm hu.b.1 hu.b.2, Vm hu.c.1 hu.c.2, Vm hu.d.1 hu.d.2, acv, hS];have hL : ∀ a : List Int, a.length <= 2000 -> a.length <= maxStr := fun a h => by unfold maxStr; omega
   iterate 7 rw [cond_pos (MR (by simp only [acB, adi, ad5, l4, l8]; decide))]
   rw [cond_pos (MR (by simp only [acB, adi, ad5, l4, l8]; unfold maxStr; omega))];unfold Uy;simp only [acU]
  ·rw [cond_pos (by rw [MS h0]; rfl), if_neg h0]
end Go.AM
end
section
set_option maxRecDepth 100000
namespace Go.AM
abbrev RQ := PK × List Int × List Int × Int
abbrev q0 : RQ := (p0, ([], ([], 0)))
def PO (l : List FF) : List FF := match TS l 1028 with | some k => l.take k | none => l
def Zz (l : List FF) : Int :=
 if (Om l 260).2 ≠ 0 then (Om l 260).2 else if (Om l 516).2 ≠ 0 then (Om l 516).2 else
 if (Om l 260).1.length < 32 \/ (Om l 260).1.length > 64 \/ (Om l 516).1.length > 256 then 12 else 0
def Yp (s : List Int) : Int :=
 if Uz s ≠ 0 then Uz s else if (Qm s).2.1 ≠ 4 \/ (Qm s).2.2.1 ≠ 3 then 23 else Zz (PO (Qm s).fs)
theorem WO {l : List FF} {kind : Int} {j : Nat} (h : j < (findF l kind).length) : 0 <= rd 0 (findF l kind) (j : Int) /\ rd 0 (findF l kind) (j : Int) < (l.length : Int) := by
 have hm := NY (d := 0) (xs := findF l kind) (i := (j : Int)) (by omega) (by omega);unfold findF at hm ⊢
 obtain ⟨k, hk, he⟩ := adP.1 hm;have := acY.1 (ad6.1 hk).1;rw [<- he]; omega
def P5 (l : List FF) (c : List Int) (j : Nat) : Int := min 8 (1 + ((((findF l 772).take j).filter fun i => decide (((rd f0 l i).2.length : Int) = (c.length : Int))).length : Int))
def WX (l : List FF) (c : List Int) : Int := P5 l c (findF l 772).length
theorem WW (l : List FF) (c : List Int) (j : Nat) : 1 <= P5 l c j /\ P5 l c j <= 8 := by unfold P5; omega
theorem UN {l : List FF} {c : List Int} {j : Nat} (h : j < (findF l 772).length) : P5 l c (j + 1) = bif decide (((rd f0 l (rd 0 (findF l 772) (j : Int))).2.length : Int) = (c.length : Int)) then mn (P5 l c j + 1) 8 else P5 l c j := by
 unfold P5;rw [Q5 (d := 0) h, adY, acB, OU];cases e : decide (((rd f0 l (rd 0 (findF l 772) (j : Int))).2.length : Int) = (c.length : Int)) with
 | true => simp only [ad4, e, if_true, cond_true]; simp; omega
 | false => simp only [ad4, e, cond_false]; simp
theorem Xt {l : List FF} (p : PK) (u c : List Int) (hl : ∀ f ∈ l, f.2.length < 65536) (hc : c.length < 65536) : ∀ (d j : Nat), (findF l 772).length - j = d -> j <= (findF l 772).length -> (findF l 772).length < 100 ->
  NQ.l0 .lim (l, ((findF l 772).length : Int), (j : Int), 0, 0, 0, 0, 0, 0, 0, 0, 0, 0, 0, 0, 0, [], [], 0, p.1, p.2.1, p.2.2.1, p.2.2.2.1, p.2.2.2.2.1, p.2.2.2.2.2.1, p.2.2.2.2.2.2.1, p.2.2.2.2.2.2.2.1, p.2.2.2.2.2.2.2.2.1, p.2.2.2.2.2.2.2.2.2.1, p.2.2.2.2.2.2.2.2.2.2.1, p.2.2.2.2.2.2.2.2.2.2.2.1, p.2.2.2.2.2.2.2.2.2.2.2.2.1, p.2.2.2.2.2.2.2.2.2.2.2.2.2, u, c, P5 l c j, findF l 772, ()) =
  some (0, 0, 0, 0, 0, 0, 0, 0, 0, 0, 0, 0, 0, [], [], 0, p.1, p.2.1, p.2.2.1, p.2.2.2.1, p.2.2.2.2.1, p.2.2.2.2.2.1, p.2.2.2.2.2.2.1, p.2.2.2.2.2.2.2.1, p.2.2.2.2.2.2.2.2.1, p.2.2.2.2.2.2.2.2.2.1, p.2.2.2.2.2.2.2.2.2.2.1, p.2.2.2.2.2.2.2.2.2.2.2.1, p.2.2.2.2.2.2.2.2.2.2.2.2.1, p.2.2.2.2.2.2.2.2.2.2.2.2.2, u, c, WX l c, ()) := by
 intro d
 induction d with
 | zero =>
  intro j h1 h2 h3;have hj : j = (findF l 772).length := by omega
  rw [NQ.q0];simp only [NQ.b0];rw [cond_neg (MS (show ¬ (j : Int) < ((findF l 772).length : Int) by omega)), hj]; rfl
 | succ d ih =>
  intro j h1 h2 h3;obtain ⟨i1, i2⟩ := WO (l := l) (kind := 772) (j := j) (by omega);have hm := hl _ (NY (d := f0) i1 i2);have hc63 : c.length < 9223372036854775808 := by omega
  have hm63 : (rd f0 l (rd 0 (findF l 772) (j : Int))).2.length < 9223372036854775808 := by omega
  have hb := WW l c j;have hw : acw.wrap (P5 l c j + 1) = P5 l c j + 1 := wrap64 (by omega) (by omega);have a := ih (j + 1) (by omega) (by omega) h3;rw [NQ.q0];simp only [NQ.b0, hw, PN j (show j < 4611686018427387904 by omega)];rw [cond_pos (MR (show (j : Int) < ((findF l 772).length : Int) by omega)), MZ (show (0 : Int) <= (j : Int) by omega) (show (j : Int) < ((findF l 772).length : Int) by omega), cond_true, MZ i1 i2, cond_true, Nb hm63, cond_true, Nb hc63, cond_true];rw [UN (by omega)] at a;rw [<- a];cases decide (((rd f0 l (rd 0 (findF l 772) (j : Int))).2.length : Int) = (c.length : Int)) with
  | true => rfl
  | false => rfl
noncomputable def YR (p : PK) (fs : List FF) : Option (RQ × Int × Unit) :=
  (O6.run .lim (fs, 260, ())).bind fun (r8, r9, ()) =>
  bif !(decide (r9 = 0)) then
   some (q0, r9, ())
  else
   (O6.run .lim (fs, 516, ())).bind fun (r10, r11, ()) =>
   bif !(decide (r11 = 0)) then
   some (q0, r11, ())
   else
   bif vT (r8.length : Int) then
   bif ((!(!(decide ((r8.length : Int) < 32)))) || (vT (r8.length : Int))) then
   bif ((!(!((decide ((r8.length : Int) < 32)) || (decide ((r8.length : Int) > 64))))) || (vT (r10.length : Int))) then
   bif (((decide ((r8.length : Int) < 32)) || (decide ((r8.length : Int) > 64))) || (decide ((r10.length : Int) > 256))) then
    some (q0, 12, ())
   else
    (NG.run .lim (fs, 772, ())).bind fun r12 =>
    bif vT (r12.length : Int) then
    (NQ.l0 .lim (fs, (r12.length : Int), 0, 0, 0, 0, 0, 0, 0, 0, 0, 0, 0, 0, 0, 0, ([] : List Int), ([] : List Int), 0, p.1, p.2.1, p.2.2.1, p.2.2.2.1, p.2.2.2.2.1, p.2.2.2.2.2.1, p.2.2.2.2.2.2.1, p.2.2.2.2.2.2.2.1, p.2.2.2.2.2.2.2.2.1, p.2.2.2.2.2.2.2.2.2.1, p.2.2.2.2.2.2.2.2.2.2.1, p.2.2.2.2.2.2.2.2.2.2.2.1, p.2.2.2.2.2.2.2.2.2.2.2.2.1, p.2.2.2.2.2.2.2.2.2.2.2.2.2, r8, r10, 1, r12, ())).bind fun (Q9, Uh, UU, Ui, UW, Xa, VF, VG, Xb, V6, V7, V8, VH, V9, Ye, Yf, Xc, Xd, Xe, XF, VI, Vg, V_, VJ, VK, VL, Yg, Yh, Yi, Yj, Yk, m64, Zg, ()) =>
    some (((Xc, (Xd, (Xe, (XF, (VI, (Vg, (V_, (VJ, (VK, (VL, (Yg, (Yh, (Yi, Yj))))))))))))), (Yk, (m64, Zg))), 0, ()) else none else none else none else none
theorem Ur (p : PK) {l : List FF} (hf : l.length <= 16) (hl : ∀ f ∈ l, f.2.length < 65536) : ∃ r, YR p l = some (r, Zz l, ()) /\ (Zz l = 0 -> r = (p, ((Om l 260).1, ((Om l 516).1, WX l (Om l 516).1)))) := by
 have o1 := Xf (l := l) 260 (by omega);have o2 := Xf (l := l) 516 (by omega);have hlen : ∀ k : Int, (Om l k).1.length < 65536 := fun k => by
  unfold Om;split
  ·simp
  ·rename_i h;split
   ·obtain ⟨i1, i2⟩ := Xg h;simp only [inB, acT, decide_eq_true_eq] at i2;exact hl _ (NY i2.1 i2.2)
   ·simp
 unfold YR Zz;rw [o1, acv];simp only;by_cases h0 : (Om l 260).2 = 0
 case neg => rw [cond_pos (by rw [MS h0]; rfl), if_pos h0]; exact ⟨_, rfl, fun h => absurd h h0⟩
 rw [cond_neg (by rw [MR h0]; rfl), if_neg (fun h => h h0), o2, acv];simp only;by_cases h1 : (Om l 516).2 = 0
 case neg => rw [cond_pos (by rw [MS h1]; rfl), if_pos h1]; exact ⟨_, rfl, fun h => absurd h h1⟩
 rw [cond_neg (by rw [MR h1]; rfl), if_neg (fun h => h h1)];have l1 := hlen 260;have l2 := hlen 516;generalize (Om l 260).1 = u at l1 ⊢
 generalize (Om l 516).1 = c at l2 ⊢
 simp only [Nb (show u.length < 9223372036854775808 by omega), Nb (show c.length < 9223372036854775808 by omega), acL, cond_true];by_cases h2 : u.length < 32 \/ u.length > 64 \/ c.length > 256
 ·rw [cond_pos (by simp only [adl, decide_eq_true_eq]; omega), if_pos h2];exact ⟨_, rfl, fun h => by cases h⟩
 ·rw [cond_neg (by simp only [adg, decide_eq_false_iff_not]; omega), if_neg h2, Tc 772 (by omega) (by omega), acv, Nb (show (findF l 772).length < 9223372036854775808 by have := QB l 772; omega), cond_true];have a3 := Xt (l := l) p u c hl (by omega) _ 0 rfl (by omega) (by have := QB l 772; omega);have a0 : P5 l c 0 = 1 := by unfold P5; rw [adU]; rfl
  rw [a0] at a3;have a3 : NQ.l0 .lim (l, ((findF l 772).length : Int), 0, _) = _ := a3;rw [a3];exact ⟨_, rfl, fun _ => rfl⟩
theorem Uo {s : List Int} (hs : Bs s) (hl : s.length < 9223372036854775808) : ∃ r, NQ.run .lim (s, ()) = some (r, Yp s, ()) /\ (Yp s = 0 -> r = (Qm s, ((Om (PO (Qm s).fs) 260).1, ((Om (PO (Qm s).fs) 516).1, WX (PO (Qm s).fs) (Om (PO (Qm s).fs) 516).1)))) := by
 simp only [NQ.run, Ym hs hl, acv];unfold Yp;by_cases h0 : Uz s = 0
 case neg => rw [cond_pos (by rw [MS h0]; rfl), if_pos h0]; exact ⟨_, rfl, fun h => absurd h h0⟩
 rw [cond_neg (by rw [MR h0]; rfl), if_neg (fun h => h h0)];have w := was hs h0;have hfew := w.few;have hok := w.ok;generalize Qm s = p at hfew hok ⊢
 by_cases h1 : p.2.1 ≠ 4 \/ p.2.2.1 ≠ 3
 ·rw [cond_pos (by simp only [adl, adf, decide_eq_false_iff_not]; omega), if_pos h1];exact ⟨_, rfl, fun h => by cases h⟩
 rw [cond_neg (by simp only [adg, adX, decide_eq_true_eq]; omega), if_neg h1];have hfs : p.2.2.2.2.2.2.2.2.2.2.2.2.2.length <= 16 := hfew;have abp := QB p.fs 1028;have hl' : ∀ f ∈ p.fs, f.2.length < 65536 := fun f hf => by have := (hok f hf).l1; omega
 have e : NG.run .lim (p.2.2.2.2.2.2.2.2.2.2.2.2.2, 1028, ()) = some (findF p.fs 1028) := Tc 1028 (by omega) (by omega);rw [e, acv, Nb (show (findF p.fs 1028).length < 9223372036854775808 by omega), cond_true];unfold PO;rcases Qv p.fs 1028 with ⟨q1, q2⟩ | ⟨k, r, q1, q2, hkl, hkd⟩
 ·rw [q1, q2];rw [cond_neg (show decide ((([] : List Int).length : Int) > 0) = false from rfl)];exact Ur p hfew hl'
 ·rw [q1, q2];have hkl' : k < p.2.2.2.2.2.2.2.2.2.2.2.2.2.length := hkl;rw [cond_pos (MR (show (((k : Int) :: r).length : Int) > 0 by simp only [adi]; omega)), MZ (show (0 : Int) <= 0 by omega) (show (0 : Int) < (((k : Int) :: r).length : Int) by simp only [adi]; omega), cond_true,
   show rd 0 ((k : Int) :: r) 0 = (k : Int) from rfl, Nq (show (0 : Int) <= 0 by omega) (show (0 : Int) <= (k : Int) by omega) (show (k : Int) <= (p.2.2.2.2.2.2.2.2.2.2.2.2.2.length : Int) by omega), cond_true]
  have hc : cut p.2.2.2.2.2.2.2.2.2.2.2.2.2 0 (k : Int) = p.fs.take k := WI rfl;rw [hc];exact Ur p (by rw [acG]; omega) (fun f hf => hl' f (ac0 hf))
end Go.AM
end
section
set_option maxRecDepth 100000
namespace Go.AM
abbrev OT := Int × List Int × List Int × List Int × Int × Int
def Z8 (x : SV) : SV := (x.1, (x.2.1, (x.2.2.1, (x.2.2.2.1, (x.2.2.2.2.1, (x.2.2.2.2.2.1, (x.2.2.2.2.2.2.1, (x.2.2.2.2.2.2.2.1, (acH.wrap (x.2.2.2.2.2.2.2.2 + 1))))))))))
def aaU (x : SV) : SV := (x.1, (x.2.1, (x.2.2.1, (x.2.2.2.1, (x.2.2.2.2.1, (x.2.2.2.2.2.1, (x.2.2.2.2.2.2.1, ((acH.wrap (x.2.2.2.2.2.2.2.1 + 1)), x.2.2.2.2.2.2.2.2))))))))
abbrev Z7 : OT := (0, ([], ([], ([], (0, 0)))))
theorem aau : Pq.run .lim ([78, 84, 83, 78], ()) = some 1314149198 := by
 have ht : Pg.run .lim ([78, 84, 83, 78], [65, 66, 67, 68, 69, 70, 71, 72, 73, 74, 75, 76, 77, 78, 79, 80, 81, 82, 83, 84, 85, 86, 87, 88, 89, 90], ()) = some [] := by decide
 have hv := Q7 (s := [78, 84, 83, 78]) (fun x hx => by simp only [ac_, ac3, or_false] at hx; rcases hx with rfl | rfl | rfl | rfl <;> decide) (by decide);simp only [Pq.run, ht, hv, acv];rfl
abbrev UY (t : Int) (u : List Int) : PK := (0, (4, (4, (0, (0, (0, (0, (0, (1314149198, (0, (t, (0, (0, [(260, u)])))))))))))))
theorem VN {t : Int} {u : List Int} (hu : V4 (260, u)) (hl : u.length <= 64) : MX.run .lim (UY t u, ()) = some (Uy (UY t u) ++ Nj [(260, u)], 0, ()) := by
 have e : Wj (UY t u) = 0 := by
  unfold Wj;rw [if_pos (show TT (UY t u) = true from rfl)];refine Ve (l := [(260, u)]) (fun f hf => ?_) (by simp) ?_
  ·rw [ac5.1 hf]; exact hu
  ·rw [Rh, Pz]; show 4 + u.length <= 1232; omega
 have h := Xz (p := UY t u) ⟨by show (1 : Nat) < _; decide, fun f hf => by rw [ac5.1 hf]; show u.length <= _; omega⟩;rw [h, e];unfold Zv;rw [if_pos e]
theorem WU {v : VV} {x : SV} {s : List Int} {recv QG : Int} {draws : List (List Int)} (hs : Bs s) (hl : s.length < 9223372036854775808) (h : Yp s ≠ 0) :
  NK.run .lim (v, x, s, recv, QG, draws, ()) = some (v, Z8 x, Z7, ()) := by
 obtain ⟨r, hr, _⟩ := Uo hs hl;simp only [NK.run, hr, acv];rw [cond_pos (by rw [MS h]; rfl)];rfl
theorem Vh {l : List FF} {kind : Int} (h : (Om l kind).2 = 0) : (kind, (Om l kind).1) ∈ l := by
 unfold Om at h ⊢
 by_cases h0 : (findF l kind).length = 0
 ·rw [if_pos h0] at h; cases h
 rw [if_neg h0] at h ⊢
 by_cases h1 : (findF l kind).length = 1
 ·rw [if_pos h1];rcases Qv l kind with ⟨_, q⟩ | ⟨k, r, _, q, hk, he⟩
  ·rw [q] at h0; exact absurd rfl h0
  ·have e : rd 0 (findF l kind) 0 = (k : Int) := by rw [q]; rfl
   have hm : rd f0 l (k : Int) ∈ l := NY (by omega) (by omega);rw [e];have : (kind, (rd f0 l (k : Int)).2) = rd f0 l (k : Int) := by rw [<- he]
   rw [this]; exact hm
 ·rw [if_neg h1] at h; cases h
theorem Ua {l : List FF} {f : FF} (h : f ∈ PO l) : f ∈ l := by
 unfold PO at h;split at h
 ·exact ac0 h
 ·exact h
structure SR (s : List Int) : Prop where
 e0 : Uz s = 0
 md : (Qm s).2.1 = 4 /\ (Qm s).2.2.1 = 3
 u : V4 (260, (Om (PO (Qm s).fs) 260).1)
 ul : 32 <= (Om (PO (Qm s).fs) 260).1.length /\ (Om (PO (Qm s).fs) 260).1.length <= 64
 c : V4 (516, (Om (PO (Qm s).fs) 516).1)
 cl : (Om (PO (Qm s).fs) 516).1.length <= 256
theorem aaw {s : List Int} (hs : Bs s) (h : Yp s = 0) : SR s := by
 unfold Yp at h;by_cases h0 : Uz s = 0
 case neg => rw [if_pos h0] at h; exact absurd h h0
 rw [if_neg (fun k => k h0)] at h;split at h
 ·cases h
 rename_i h1;unfold Zz at h;split at h
 ·rename_i k; exact absurd h k
 rename_i h2;split at h
 ·rename_i k; exact absurd h k
 rename_i h3;split at h
 ·cases h
 rename_i h4;have w := (was hs h0).ok;exact ⟨h0, by omega, w _ (Ua (Vh (by omega))), by omega, w _ (Ua (Vh (by omega))), by omega⟩
theorem Yb {v : VV} {x : SV} {s : List Int} {recv QG : Int} {draws : List (List Int)} (hs : Bs s) (hl : s.length < 9223372036854775808) (h : Yp s = 0)
  (ho : Po.run .lim (v, x.1, (Om (PO (Qm s).fs) 516).1, ()) = some ((Rz v x.1 (Om (PO (Qm s).fs) 516).1).1, (Rz v x.1 (Om (PO (Qm s).fs) 516).1).2, ()))
  (hn : (Rz v x.1 (Om (PO (Qm s).fs) 516).1).2 ≠ 0) :
  NK.run .lim (v, x, s, recv, QG, draws, ()) = some (v, aaU x, (2, ((Om (PO (Qm s).fs) 260).1, (s, (Uy (UY (Qm s).2.2.2.2.2.2.2.2.2.2.2.2.1 (Om (PO (Qm s).fs) 260).1) ++ Nj [(260, (Om (PO (Qm s).fs) 260).1)], (recv, QG))))), ()) := by
 obtain ⟨r, hr, hr2⟩ := Uo hs hl;have he := hr2 h;subst he;have q := aaw hs h;have hw := VN (t := (Qm s).2.2.2.2.2.2.2.2.2.2.2.2.1) q.u q.ul.2;simp only [NK.run, hr, h, acv, ho];rw [cond_neg (by decide), cond_neg (MS hn), cond_pos (by rw [MS hn]; rfl)];simp only [aau, acv, hw];rfl
theorem awB {n : Nat} {x : Int} (h : B8 x) : Bs (acz n x) := fun y hy => by rw [(ad2.1 hy).2]; exact h
abbrev YH : List Int := acz 32 107
abbrev awZ : List Int := acz 104 0
theorem Zr : Nc.l0 .lim ([], 0, ()) = some (YH, ()) := by
 have e := NP (f := Nc.l0 .lim) (fun j => (acz j (107 : Int), (j : Int), ())) (n := 32) (fun k hk => by
  rw [Nc.q0];have hl : ∀ x : Int, decide ((acz k x).length + [x].length <= maxStr) = true := fun x => MR (by unfold maxStr; simp; omega)
  simp only [Nc.b0, MR (show (k : Int) < 32 by omega), cond_true, hl, PN k (by omega)];rw [List.replicate_succ'])
 refine (show Nc.l0 .lim ([], 0, ()) = Nc.l0 .lim (acz 32 (107 : Int), ((32 : Nat) : Int), ()) from e).trans ?_;rw [Nc.q0];rfl
abbrev Zx : SV := (([(1, (YH, 0))], 2), (1, (0, (0, (0, (0, (0, (0, 0))))))))
abbrev awV : VV := (false, [])
abbrev V5 : PK := (0, (4, (3, (0, (0, (0, (0, (0, (0, (0, (0, (0, (0, [(260, YH), (516, awZ)])))))))))))))
abbrev YI : List Int := Uy V5 ++ Nj V5.fs
theorem ZV : Ot.run .lim (YH, 0, ()) = some (Zx.1, 0, ()) := rfl
theorem TN : ∀ f ∈ V5.fs, V4 f := fun f hf => by
 have hf : f ∈ [((260 : Int), YH), (516, awZ)] := hf;simp only [ac_, ac3, or_false] at hf;rcases hf with rfl | rfl
 ·exact ⟨by decide, by decide, by decide, by decide, by decide, awB (by decide)⟩
 ·exact ⟨by decide, by decide, by decide, by decide, by decide, awB (by decide)⟩
theorem TM : (Nj V5.fs).length = 144 := by decide +kernel
theorem X3 : NS.run .lim (V5, ()) = some (YI, 0, ()) := by
 have e : Wj V5 = 0 := by
  unfold Wj;rw [if_pos (show TT V5 = true from rfl)];exact Ve TN (by decide) (by rw [TM]; decide)
 have h := VQ (p := V5) ⟨by show (2 : Nat) < _; decide, fun f hf => by have := (TN f hf).l1; omega⟩ ⟨by decide, by decide, by decide, by decide⟩;rw [h, e];unfold Zv;rw [if_pos e]
theorem Sr : Uz YI = 0 /\ Qm YI = V5 := VP ⟨rfl, by decide, by decide, by decide, by decide, by decide, by decide, by decide⟩ TN (by decide) (by rw [TM]; decide)
theorem ZW : Bs YI := (Z_ _).app (X8 fun f hf => (TN f hf).b)
theorem ZX : YI.length = 192 := by rw [acB, TU, TM]
theorem Sm : Om (PO V5.fs) 260 = (YH, 0) /\ Om (PO V5.fs) 516 = (awZ, 0) := by decide +kernel
theorem aaC : Yp YI = 0 := by
 unfold Yp;rw [Sr.1, Sr.2];unfold Zz;rw [Sm.1, Sm.2];rfl
theorem Sv : Nc.run .lim () = some true := by
 have h1 := WU (v := awV) (x := Zx) (s := []) (recv := 1) (QG := 2) (draws := []) aat (by decide) (by decide);have hc : Rz awV Zx.1 awZ = ((0, ([], [])), 19) := by
  unfold Rz;rw [if_neg (by decide), if_pos (by decide)]
 have h2 := Yb (v := awV) (x := Zx) (s := YI) (recv := 1) (QG := 2) (draws := []) ZW (by rw [ZX]; decide) aaC
  (by
   rw [Sr.2, Sm.2];exact WH ⟨by decide, fun k hk => nomatch hk⟩ rfl (fun k hk => nomatch hk) ⟨by decide, fun k hk => by rw [ac5.1 hk]; rfl, fun k hk => by rw [ac5.1 hk]; exact awB (by decide)⟩ (Oy (by decide)) (awB (by decide)))
  (by rw [Sr.2, Sm.2, hc]; decide)
 rw [Sr.2, Sm.1] at h2;have hlen : (Uy (UY V5.2.2.2.2.2.2.2.2.2.2.2.2.1 YH) ++ Nj [(260, YH)]).length = 84 := by rw [acB, TU, Rh, Pz]; rfl
 simp only [Nc.run, Zr, ZV, acv];have h1 : NK.run .lim (WJ, Zx, ([] : List Int), 1, 2, ([] : List (List Int)), ()) = _ := h1;have h2 : NK.run .lim (WJ, Zx, YI, 1, 2, ([] : List (List Int)), ()) = _ := h2;rw [h1];simp only [acv, X3];rw [h2];simp only [acv, hlen];rfl
theorem YS {x : SV} (h : Ty.ok (.lst (.pair (.int .u32) (.pair .str (.int .i64)))) x.1.1) : SOk x := ⟨Oy (by have : x.1.1.length <= 140737488351232 := h.1; omega), fun k hk => Oy (by have : k.2.1.length <= 140737488351232 := (h.2 k hk).2.1.1; omega)⟩
theorem Xu {x y : SV} (hx : SOk x) (hy : SOk y) : NJ.run .lim (x, y, ()) = some true := by
 have hx1 : x.1.1.length < 9223372036854775808 := hx.1;have hy1 : y.1.1.length < 9223372036854775808 := hy.1;simp only [NJ.run, Nb hx1, Nb hy1, acL, cond_true];by_cases hl : x.1.1.length > 100 \/ y.1.1.length > 100
 ·rw [cond_pos (by simp only [adl, decide_eq_true_eq]; omega), Sv]; rfl
 rw [cond_neg (by simp only [adg, decide_eq_false_iff_not]; omega)];obtain ⟨f1, f2⟩ := VA hx;obtain ⟨s1, s2⟩ := SS (x := x) (y := y) (by omega) (by omega);obtain ⟨s3, _⟩ := SS (x := x) (y := x) (by omega) (by omega);simp only [f1, f2, s1, s2, s3, Un, acv, beq_self_eq_true, cond_true, acQ, Sv]
theorem Tj : ∀ x, oks [.ag RP, .ag RP] x -> NJ.run .lim x = some true := by
 intro x h
 match x with
 | (x, y, ()) =>
  obtain ⟨h1, h2, _⟩ := h;exact Xu (YS h1.1.1) (YS h2.1.1)
end Go.AM
end
