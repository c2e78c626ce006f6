import Derived.Test.YtbpfiolmmdmapaaGreatPart3

/-! The functions that the laws of this seat reach, as plain functions, and what these answer; no condition. -/
set_option linter.unusedSimpArgs false
set_option linter.unusedVariables false
set_option linter.unusedSectionVars false

section
set_option maxRecDepth 100000
namespace Go.AM
abbrev AS := CK × List (List Int) × List Int × List Int × Int × Int × Int × Int × Int
abbrev HD := Int × List Int × List Int × PK × Int × Int
def BR (s : List Int) : Bool := (decide (12 <= s.length) && decide (s.length <= 256)) && decide (s.length % 4 = 0)
theorem W9 {s : List Int} (h : s.length < 9223372036854775808) : iO.run .lim (s, ()) = some (BR s) := by
 have e1 : decide ((s.length : Int) >= 12) = decide (12 <= s.length) := decide_eq_decide.2 (by omega);have e2 : decide ((s.length : Int) <= 256) = decide (s.length <= 256) := decide_eq_decide.2 (by omega);have e3 : decide ((s.length : Int).tmod 4 = 0) = decide (s.length % 4 = 0) := decide_eq_decide.2 (by rw [Int.tmod_eq_emod_of_nonneg (by omega)]; omega);simp only [iO.run, aF h, Bool.or_true, cond_true, e1, e2, e3];rfl
theorem UR {s : List Int} (h : s.length < 9223372036854775808) : rX.run .lim (s, ()) = some (BR s) := by
 have e1 : decide ((s.length : Int) >= 12) = decide (12 <= s.length) := decide_eq_decide.2 (by omega);have e2 : decide ((s.length : Int) <= 256) = decide (s.length <= 256) := decide_eq_decide.2 (by omega);have e3 : decide (fO .i64 (s.length : Int) 3 = 0) = decide (s.length % 4 = 0) := decide_eq_decide.2 (by rw [XL]; omega);simp only [rX.run, aF h, Bool.or_true, cond_true, e1, e2, e3];rfl
theorem W_ {l : List (List Int)} {s : List Int} : ((List.range l.length).any fun k => decide (rd [] l (k : Int) = s)) = decide (s ∈ l) := by
 by_cases h : s ∈ l
 ·rw [au h];obtain ⟨i, hi, rfl⟩ := List.mem_iff_getElem.1 h;exact List.any_eq_true.2 ⟨i, List.mem_range.2 hi, au (jo hi)⟩
 ·rw [aA h];refine List.any_eq_false.2 fun i hi q => h ?_
  have hi := List.mem_range.1 hi;have q := of_decide_eq_true q;rw [jo hi] at q;rw [<- q]; exact List.getElem_mem hi
theorem Xa {l : List (List Int)} {s : List Int} (hl : l.length < 4611686018427387904) : bT.run .lim (l, s, ()) = some (decide (s ∈ l)) := by
 have h63 : l.length < 9223372036854775808 := by omega
 have e := lD (f := bT.l0 .lim) (fun k => (l, s, (k : Int), ())) l.length (fun k => decide (rd [] l (k : Int) = s)) (some (.inl (true, ()))) (fun k hk => by
  rw [bT.q0];simp only [bT.b0, aF h63, au (show (k : Int) < (l.length : Int) by omega), aG (show (0 : Int) <= (k : Int) by omega) (show (k : Int) < (l.length : Int) by omega), cond_true, nX k (by omega)])
 have e0 : bT.l0 .lim (l, s, 0, ()) = _ := e;simp only [bT.run, e0, W_];cases decide (s ∈ l) with
 | true => rfl
 | false =>
  rw [cond_false, bT.q0];simp only [bT.b0, aF h63, aA (show ¬ (l.length : Int) < (l.length : Int) by omega), cond_true, cond_false, Option.bind_some]
def NS (l : List (List Int)) : Int :=
 if l.length > 8 then 18 else if ((List.range l.length).any fun k : Nat => !BR (rd [] l (k : Int))) = true then 12 else if ((List.range l.length).any fun k : Nat => decide (rd [] l (k : Int) ∈ l.take k)) = true then 24 else 0
theorem Rl {l : List (List Int)} (hl : l.length < 9223372036854775808) (hs : ∀ s ∈ l, s.length < 9223372036854775808) : aW.run .lim (l, ()) = some (NS l) := by
 simp only [aW.run, aF hl, cond_true];unfold NS;by_cases h8 : l.length > 8
 ·rw [au (show (l.length : Int) > 8 by omega), if_pos h8]; rfl
 rw [aA (show ¬ (l.length : Int) > 8 by omega), if_neg h8, cond_false];have e := lD (f := aW.l0 .lim) (fun k => (l, (k : Int), ())) l.length (fun k => !BR (rd [] l (k : Int))) (some (.inl (12, ()))) (fun k hk => by
  rw [aW.q0];have hm := hs _ (fH (d := ([] : List Int)) (xs := l) (i := (k : Int)) (by omega) (by omega));simp only [aW.b0, aF hl, au (show (k : Int) < (l.length : Int) by omega), aG (show (0 : Int) <= (k : Int) by omega) (show (k : Int) < (l.length : Int) by omega), cond_true, W9 hm, Option.bind_some, nX k (by omega)])
 have e0 : aW.l0 .lim (l, 0, ()) = _ := e;rw [e0];cases h1 : (List.range l.length).any fun k : Nat => !BR (rd [] l (k : Int)) with
 | true => rfl
 | false =>
  rw [if_neg (by decide), cond_false, aW.q0];simp only [aW.b0, aF hl, aA (show ¬ (l.length : Int) < (l.length : Int) by omega), cond_true, cond_false, Option.bind_some];have e := lD (f := aW.l1 .lim) (fun k => (l, (k : Int), ())) l.length (fun k => decide (rd [] l (k : Int) ∈ l.take k)) (some (.inl (24, ()))) (fun k hk => by
   rw [aW.q1];have hc : cut l 0 (k : Int) = l.take k := rfl;have ht : (l.take k).length < 4611686018427387904 := by rw [List.length_take]; omega
   simp only [aW.b1, aF hl, au (show (k : Int) < (l.length : Int) by omega), aG (show (0 : Int) <= (k : Int) by omega) (show (k : Int) < (l.length : Int) by omega), aT (show (0 : Int) <= 0 by omega) (show (0 : Int) <= (k : Int) by omega) (show (k : Int) <= (l.length : Int) by omega), cond_true, hc, Xa ht, Option.bind_some, nX k (by omega)])
  have e1 : aW.l1 .lim (l, 0, ()) = _ := e;rw [e1];cases h2 : (List.range l.length).any fun k : Nat => decide (rd [] l (k : Int) ∈ l.take k) with
  | true => rfl
  | false =>
   rw [if_neg (by decide), cond_false, aW.q1];simp only [aW.b1, aF hl, aA (show ¬ (l.length : Int) < (l.length : Int) by omega), cond_true, cond_false, Option.bind_some]
structure Rn (l : List (List Int)) : Prop where
 few : l.length <= 8
 may : ∀ s ∈ l, BR s = true
 nod : l.Nodup
theorem PX {l : List (List Int)} : NS l = 0 ↔ Rn l := by
 unfold NS;by_cases h8 : l.length > 8
 ·rw [if_pos h8]; exact ⟨fun h => absurd h (by decide), fun h => absurd h.few (by omega)⟩
 rw [if_neg h8];by_cases h1 : ((List.range l.length).any fun k : Nat => !BR (rd [] l (k : Int))) = true
 ·rw [if_pos h1];refine ⟨fun h => absurd h (by decide), fun h => ?_⟩;obtain ⟨k, hk, q⟩ := List.any_eq_true.1 h1;have hk := List.mem_range.1 hk;rw [jo hk, h.may _ (List.getElem_mem hk)] at q;cases q
 rw [if_neg h1];by_cases h2 : ((List.range l.length).any fun k : Nat => decide (rd [] l (k : Int) ∈ l.take k)) = true
 ·rw [if_pos h2];refine ⟨fun h => absurd h (by decide), fun h => ?_⟩;obtain ⟨k, hk, q⟩ := List.any_eq_true.1 h2;have hk := List.mem_range.1 hk;have q := of_decide_eq_true q;rw [jo hk] at q;obtain ⟨j, hj, e⟩ := List.mem_iff_getElem.1 q;have hj' : j < k := by rw [List.length_take] at hj; omega
  rw [List.getElem_take] at e;exact absurd e (List.pairwise_iff_getElem.1 h.nod j k (by omega) hk hj')
 rw [if_neg h2];refine ⟨fun _ => ⟨by omega, fun s hs => ?_, ?_⟩, fun _ => rfl⟩
 ·obtain ⟨k, hk, rfl⟩ := List.mem_iff_getElem.1 hs;cases hm : BR l[k] with
  | true => rfl
  | false => exact absurd (List.any_eq_true.2 ⟨k, List.mem_range.2 hk, by rw [jo hk, hm]; rfl⟩) h1
 ·refine List.pairwise_iff_getElem.2 fun i j hi hj hij e => h2 ?_
  refine List.any_eq_true.2 ⟨j, List.mem_range.2 hj, au ?_⟩;rw [jo hj, <- e];exact List.mem_iff_getElem.2 ⟨i, by rw [List.length_take]; omega, List.getElem_take⟩
structure UU (x : AS) : Prop where
 k : KOk x.1
 kb : Bs x.1.2.1 /\ Bs x.1.2.2
 j : x.2.1.length < 9223372036854775808
 js : ∀ s ∈ x.2.1, s.length < 9223372036854775808
 jb : ∀ s ∈ x.2.1, Bs s
 u : x.2.2.1.length < 9223372036854775808
def Lp (x : AS) : Bool := (Rj x.1 && decide (NS x.2.1 = 0)) && (if x.2.2.1 = [] then decide (x.2.2.2.1 = []) && decide (x.2.2.2.2.1 = 0) else decide (x.2.2.1.length = 32))
theorem Hz {x : AS} (h : UU x) : dM.run .lim (x, ()) = some (Lp x) := by
 simp only [dM.run, UQ h.k, Option.bind_some, Rl h.j h.js, aF h.u];unfold Lp;have e32 : decide ((x.2.2.1.length : Int) = 32) = decide (x.2.2.1.length = 32) := decide_eq_decide.2 (by omega);cases hk : Rj x.1 with
 | false => rfl
 | true =>
  by_cases hj : NS x.2.1 = 0
  ·rw [au hj];by_cases hu : x.2.2.1 = []
   ·rw [if_pos hu, au hu, hj]; rfl
   ·rw [if_neg hu, aA hu, hj, e32]; rfl
  ·rw [aA hj];show (Option.bind (some (NS x.2.1)) _) = _;rw [Option.bind_some, aA hj]; rfl
theorem NU {l : List (List Int)} (h : l.length < 9223372036854775808) : bJ.run .lim (l, l, ()) = some true := by rw [NR l l h h, au rfl]
theorem Jm {x : AS} (h : x.2.1.length < 9223372036854775808) : cu.run .lim (x, x, ()) = some true := by simp only [cu.run, decide_true, Bool.and_self, cond_true, NU h, Option.bind_some]
theorem NV (a : PK) : Hw a a = true := (Q_ a a).2 rfl
theorem Lr {x : HD} (h : x.2.2.2.1.fs.length < 9223372036854775808) : gU.run .lim (x, x, ()) = some true := by
 have e := Rf h h;rw [NV] at e;simp only [gU.run, decide_true, Bool.and_self, cond_true, e, Option.bind_some]
theorem Xb {v : VV} (hv : okV v) {x : AS} (hx : UU x) {s : List Int} (hs : s.length < 9223372036854775808) : ∃ r, iE.run .lim (v, x, s, ()) = some r /\ (r = true -> pq v = true /\ Lp x = true /\ s.length <= 4000) := by
 obtain ⟨r, er⟩ := NK v hv;have ef := WL v hv;simp only [iE.run, er, Option.bind_some, vG ef, vG (Hz hx), aF hs, Bool.or_true, cond_true];refine ⟨_, rfl, fun q => ?_⟩;simp only [Bool.and_eq_true, decide_eq_true_eq] at q;exact ⟨q.1.1.2.2, q.1.2.2, by omega⟩
end Go.AM
end
section
set_option maxRecDepth 100000
namespace Go.AM
theorem UW {J : List (List Int)} {s : List Int} (h : J.length < 4611686018427387904) : dD.run .lim (J, s, ()) = some (decide (s ∈ J)) := by
 have h63 : J.length < 9223372036854775808 := by omega
 have e := lY (f := aY.l0 .lim) (fun k => (J, s, (J.length : Int), (k : Int), ())) J.length (fun k : Nat => decide (s = rd [] J (k : Int))) (fun k => some (.inl ((k : Int), ()))) (fun k hk => by
  rw [aY.q0];simp only [aY.b0, au (show (k : Int) < (J.length : Int) by omega), aG (show (0 : Int) <= (k : Int) by omega) (show (k : Int) < (J.length : Int) by omega), cond_true, nX k (by omega)])
 have e0 : aY.l0 .lim (J, s, (J.length : Int), 0, ()) = _ := e;simp only [dD.run, aY.run, aF h63, cond_true, e0];cases hq : (List.range J.length).find? (fun k : Nat => decide (s = rd [] J (k : Int))) with
 | some k =>
  have h1 := List.find?_some hq;have h2 := List.mem_range.1 (List.mem_of_find?_eq_some hq);have h1 : s = rd [] J (k : Int) := of_decide_eq_true h1;rw [jo h2] at h1;have hm : s ∈ J := by rw [h1]; exact List.getElem_mem h2
  simp only [Option.bind_some, au (show (k : Int) >= 0 by omega), au hm]
 | none =>
  have hm : ¬ s ∈ J := fun hm => by
   obtain ⟨i, hi, e⟩ := List.mem_iff_getElem.1 hm;have := List.find?_eq_none.1 hq i (List.mem_range.2 hi);rw [jo hi, e] at this;exact this (by simp)
  simp only;rw [aY.q0];simp only [aY.b0, aA (show ¬ (J.length : Int) < (J.length : Int) by omega), cond_false, Option.bind_some, aA hm];rfl
def EY (J : List (List Int)) (f : FF) : Bool := ((decide (f.1 = 516) && BR f.2) && decide (J.length < 8)) && !decide (f.2 ∈ J)
def zl (J : List (List Int)) (f : FF) : List (List Int) := bif EY J f then J ++ [f.2] else J
def sQ (J : List (List Int)) (t : List FF) : List (List Int) := t.foldl zl J
theorem UY {J : List (List Int)} {f : FF} (h : Rn J) : Rn (zl J f) := by
 unfold zl;cases hc : EY J f with
 | false => exact h
 | true =>
  unfold EY at hc;simp only [Bool.and_eq_true, decide_eq_true_eq, Bool.not_eq_true', decide_eq_false_iff_not] at hc;refine ⟨by simp; omega, fun s hs => ?_, ?_⟩
  ·rcases List.mem_append.1 hs with hs | hs
   ·exact h.may s hs
   ·rw [List.mem_singleton.1 hs]; exact hc.1.1.2
  ·refine List.nodup_append.2 ⟨h.nod, by simp, fun x hx y hy e => ?_⟩;rw [List.mem_singleton.1 hy] at e;exact hc.2 (e ▸ hx)
theorem Ls : ∀ {t : List FF} {J : List (List Int)}, Rn J -> Rn (sQ J t)
 | [], _, h => h
 | f :: t, _, h => Ls (t := t) (UY h)
theorem UZ {J : List (List Int)} {f : FF} (h : J.length <= 8) : (zl J f).length <= 8 := by
 unfold zl;cases hc : EY J f with
 | false => exact h
 | true =>
  unfold EY at hc;simp only [Bool.and_eq_true, decide_eq_true_eq] at hc;rw [cond_true, List.length_append];have := hc.1.2;simp; omega
theorem Lu : ∀ {t : List FF} {J : List (List Int)}, J.length <= 8 -> (sQ J t).length <= 8
 | [], _, h => h
 | f :: t, _, h => Lu (t := t) (UZ h)
theorem NW {t : List FF} {J : List (List Int)} {j : Nat} (h : j < t.length) : sQ J (t.take (j + 1)) = zl (sQ J (t.take j)) (rd f0 t (j : Int)) := by
 unfold sQ;rw [List.take_add_one, List.getElem?_eq_getElem h, jo h, Option.toList_some, List.foldl_append]; rfl
theorem Xc {t : List FF} (h : t.length <= 16) (z) : dI.l0 .lim (t, (t.length : Int), 0, z) = (match mg t 1028 with | some k => some (.inl ((k : Int), z)) | none => some (.inr z)) := by
 have e := lY (f := dI.l0 .lim) (fun j => (t, (t.length : Int), (j : Int), z)) t.length (fun j : Nat => decide ((rd f0 t (j : Int)).1 = 1028)) (fun j => some (.inl ((j : Int), z))) (fun k hk => by
  rw [dI.q0];have hr : kJ.run .lim (rd ((0 : Int), ([] : List Int)) t (k : Int), ()) = some (decide ((rd f0 t (k : Int)).1 = 1028)) := rfl;simp only [dI.b0, au (show (k : Int) < (t.length : Int) by omega), aG (show (0 : Int) <= (k : Int) by omega) (show (k : Int) < (t.length : Int) by omega), cond_true, hr, Option.bind_some, nX k (by omega)])
 have e0 : dI.l0 .lim (t, (t.length : Int), 0, z) = _ := e;rw [e0];unfold mg;cases hq : (List.range t.length).find? (fun k : Nat => decide ((rd f0 t (k : Int)).1 = 1028)) with
 | some k => rfl
 | none =>
  simp only;rw [dI.q0];simp only [dI.b0, aA (show ¬ (t.length : Int) < (t.length : Int) by omega), cond_false]
theorem Xd {t : List FF} (h : t.length <= 16) (hb : ∀ f ∈ t, f.2.length < 9223372036854775808) (a0 : Int) (a1 : List Int) (a2 : List Int) (a3 : List Int) (a4 : List Int) (a5 : Int) (a6 : Int) (a7 : Int) (a8 : Int) (a9 : Int) (a10 : Int) (a11 : List Int) (a12 : List Int) (Vm : Int) (Xe : Int) (Xf : Int) (a16 : Int) (a17 : Int) (Xg : Int) (Xh : Int) (a20 : Int) (a21 : Int) (a22 : Int) (a23 : Int) (a24 : Int) (a25 : Int) (a26 : (List (Int × List Int))) (a27 : Int) (a28 : Int) (a29 : Int) (a30 : List Int) (a31 : List Int) (a32 : List Int) (a33 : List Int) (a34 : Int) (a35 : Int) (a36 : Int) (a37 : Int) (a38 : Int) (a39 : Int) (a40 : List Int) (a41 : List Int) (a42 : Int) (a43 : Int) (a44 : Int) (a45 : Int) (a46 : Int) (a47 : Int) (a48 : Int) (a49 : Int) (a50 : Int) (a51 : Int) (a52 : Int) (a53 : Int) (a54 : Int) (a55 : Int) (a56 : Int) {J : List (List Int)} (hJ : J.length <= 8) : dI.l1 .lim (t, (t.length : Int), 0, a0, a1, a2, a3, a4, a5, a6, a7, a8, a9, a10, a11, a12, Vm, Xe, Xf, a16, a17, Xg, Xh, a20, a21, a22, a23, a24, a25, a26, a27, a28, a29, a30, a31, a32, a33, a34, a35, a36, a37, a38, a39, a40, a41, a42, a43, a44, a45, a46, a47, a48, a49, a50, a51, a52, a53, a54, a55, a56, J, ()) = some (a29, a30, a31, a32, a33, a34, a35, a36, a37, a38, a39, a40, a41, a42, a43, a44, a45, a46, a47, a48, a49, a50, a51, a52, a53, a54, a55, a56, a0, a1, a2, a3, a4, a5, a6, a7, a8, a9, a10, a11, a12, Vm, Xe, Xf, a16, a17, Xg, Xh, a20, a21, a22, a23, a24, a25, a26, a27, a28, sQ J t, ()) := by
 have e := dS (f := dI.l1 .lim) (fun j => (t, (t.length : Int), (j : Int), a0, a1, a2, a3, a4, a5, a6, a7, a8, a9, a10, a11, a12, Vm, Xe, Xf, a16, a17, Xg, Xh, a20, a21, a22, a23, a24, a25, a26, a27, a28, a29, a30, a31, a32, a33, a34, a35, a36, a37, a38, a39, a40, a41, a42, a43, a44, a45, a46, a47, a48, a49, a50, a51, a52, a53, a54, a55, a56, sQ J (t.take j), ())) (n := t.length) (fun j hj => by
  rw [dI.q1, NW hj];have hf := hb _ (fH (d := f0) (xs := t) (i := (j : Int)) (by omega) (by omega));have hl := Lu (t := t.take j) hJ;generalize sQ J (t.take j) = K at hl;have hd : decide ((K.length : Int) < 8) = decide (K.length < 8) := decide_eq_decide.2 (by omega);simp only [dI.b1, au (show (j : Int) < (t.length : Int) by omega), aG (show (0 : Int) <= (j : Int) by omega) (show (j : Int) < (t.length : Int) by omega), cond_true, nX j (by omega), aF (show K.length < 9223372036854775808 by omega), Bool.or_true];have hg : rd ((0 : Int), ([] : List Int)) t (j : Int) = rd f0 t (j : Int) := rfl;rw [hg];generalize rd f0 t (j : Int) = f at hf;simp only [vG (UR hf), Option.bind_some, hd, vG (UW (J := K) (s := f.2) (by omega))];unfold zl EY;have hroom : decide (K.length + [f.2].length < 4398046511104) = true := au (by simp; omega);simp only [hroom, cond_true];cases decide (f.1 = 516) <;> cases BR f.2 <;> cases decide (K.length < 8) <;> cases decide (f.2 ∈ K) <;> rfl)
 have e0 : dI.l1 .lim (t, (t.length : Int), 0, a0, a1, a2, a3, a4, a5, a6, a7, a8, a9, a10, a11, a12, Vm, Xe, Xf, a16, a17, Xg, Xh, a20, a21, a22, a23, a24, a25, a26, a27, a28, a29, a30, a31, a32, a33, a34, a35, a36, a37, a38, a39, a40, a41, a42, a43, a44, a45, a46, a47, a48, a49, a50, a51, a52, a53, a54, a55, a56, J, ()) = _ := e;rw [e0, dI.q1, List.take_length];simp only [dI.b1, aA (show ¬ (t.length : Int) < (t.length : Int) by omega), cond_false]
end Go.AM
end
section
set_option maxRecDepth 100000
namespace Go.AM
theorem Ro {v : VV} (hv : okV v) (hf : pq v = true) (hvb : vB v) {s key : List Int} (hs : Bs s) (hl : s.length < 9223372036854775808) (hk : key.length < dX) (hkb : Bs key) :
  iF.run .lim (v, s, key, ()) = some ((kF v s key).1, (kF v s key).2, ()) := by
 simp only [iF.run, PE hs hl, Option.bind_some];unfold kF;by_cases h0 : NI s = 0
 case neg => rw [aA h0, if_neg h0]; rfl
 rw [au h0, if_pos h0];have w := was hs h0;have hfew := w.few;have hok := w.ok;have hwb := NJ hs h0;have hsl : s.length = 48 + (aX (iy s).fs).length := by
  have := congrArg List.length w.st;rw [List.length_append, List.length_take, Nat.min_eq_left w.l0] at this;exact this
 have hs48 := w.l1;generalize iy s = r at hfew hok hwb hsl;have hfs : r.2.2.2.2.2.2.2.2.2.2.2.2.2.length <= 16 := hfew;have hflen := Af r.fs 1028;simp only [Bool.not_true, cond_false, aF (show r.2.2.2.2.2.2.2.2.2.2.2.2.2.length < 9223372036854775808 by omega), cond_true, Option.bind_some, aF (show (findF r.fs 1028).length < 9223372036854775808 by omega)];rw [YS hfew];rcases vF r.fs 1028 with ⟨q1, q2⟩ | ⟨k, l, q1, q2, hkl, hkd⟩
 ·simp only [q1, q2]; rfl
 have hmem : rd f0 r.fs (k : Int) ∈ r.fs := fH (by omega) (by omega);have hfo := hok _ hmem;have hal : 0 < (findF r.fs 1028).length := by rw [q2]; simp
 have hat : rd 0 (findF r.fs 1028) 0 = (k : Int) := by rw [q2]; rfl
 have hkl' : k < r.2.2.2.2.2.2.2.2.2.2.2.2.2.length := hkl;simp only [q1, Option.bind_some, aA (show ¬ ((findF r.fs 1028).length : Int) = 0 by omega), cond_false, aA (show ¬ (k : Int) < 0 by omega), aT (show (0 : Int) <= 0 by omega) (show (0 : Int) <= (k : Int) by omega) (Int.le_refl _), au (show (k : Int) <= (r.2.2.2.2.2.2.2.2.2.2.2.2.2.length : Int) by omega), Bool.and_self, cond_true,
  aG (show (0 : Int) <= (k : Int) by omega) (show (k : Int) < (r.2.2.2.2.2.2.2.2.2.2.2.2.2.length : Int) by omega), aG (show (0 : Int) <= 0 by omega) (show (0 : Int) < ((findF r.fs 1028).length : Int) by omega), hat]
 have hbb : Bs (rd f0 r.fs (k : Int)).2 := hfo.b;have hbl : (rd f0 r.fs (k : Int)).2.length < 65532 := hfo.l1;have sp := UK hbb (by omega);have sp : nY.run .lim ((rd ((0 : Int), ([] : List Int)) r.2.2.2.2.2.2.2.2.2.2.2.2.2 (k : Int)).2, ()) = _ := sp;obtain ⟨sB1, sB2, sL1, sL2⟩ := aaq hbb;simp only [sp, Option.bind_some];generalize xH (rd f0 r.fs (k : Int)).2 = g at sB1 sB2 sL1 sL2;obtain ⟨aH, sealed, e⟩ := g;simp only at sB1 sB2 sL1 sL2 ⊢
 by_cases he : e = 0
 case neg => rw [aA he, if_neg he]; rfl
 rw [au he, if_pos he];have hcz : cut r.2.2.2.2.2.2.2.2.2.2.2.2.2 0 (k : Int) = r.2.2.2.2.2.2.2.2.2.2.2.2.2.take k := nG rfl;have hw := hwb k;have hw : aK.run .lim ((r.1, r.2.1, r.2.2.1, r.2.2.2.1, r.2.2.2.2.1, r.2.2.2.2.2.1, r.2.2.2.2.2.2.1, r.2.2.2.2.2.2.2.1, r.2.2.2.2.2.2.2.2.1, r.2.2.2.2.2.2.2.2.2.1, r.2.2.2.2.2.2.2.2.2.2.1, r.2.2.2.2.2.2.2.2.2.2.2.1, r.2.2.2.2.2.2.2.2.2.2.2.2.1, r.2.2.2.2.2.2.2.2.2.2.2.2.2.take k), ()) = some (s.take (48 + (aX (r.fs.take k)).length), 0, ()) := hw;have hle := K_ r.fs k;generalize hN : 48 + (aX (r.fs.take k)).length = N at hw;have hNs : N <= s.length := by omega
 have hcn : cut s 0 (N : Int) = s.take N := nG rfl;have T : WQ key [s.take N, aH] sealed := ⟨hk, hkb, by simp [dX], fun t ht => by
  simp only [List.mem_cons, List.not_mem_nil, or_false] at ht;rcases ht with rfl | rfl
  ·rw [List.length_take]; exact nJ (by omega)
  ·exact nJ (by omega), nJ (by omega)⟩
 have op := UD hv T sB2;have op : fB.run .lim ((v.1, v.2), key, [s.take N, aH], sealed, ()) = _ := op;simp only [Bool.not_true, cond_false, hcz, hw, Option.bind_some, op, hcn, aT (show (0 : Int) <= 0 by omega) (show (0 : Int) <= (N : Int) by omega) (show (N : Int) <= (s.length : Int) by omega), cond_true];by_cases ho : (h_ v key [s.take N, aH] sealed).2 = 0
 case neg => rw [aA ho, if_neg ho]; rfl
 rw [au ho, if_pos ho];obtain ⟨_, ol, _, oB⟩ := Lj hf hvb ho;generalize (h_ v key [s.take N, aH] sealed).1 = p at ol oB;simp only [Bool.not_true, cond_false, XH oB (show p.length < 9223372036854775808 by omega), Option.bind_some];by_cases ht : (EG p.length p []).2 = 0
 case neg => rw [aA ht, if_neg ht]; rfl
 rw [au ht, if_pos ht];simp only [Bool.not_true, cond_false, aT (show (0 : Int) <= 0 by omega) (show (0 : Int) <= (k : Int) by omega) (show (k : Int) <= (r.2.2.2.2.2.2.2.2.2.2.2.2.2.length : Int) by omega), cond_true]
end Go.AM
end
section
set_option maxRecDepth 100000
namespace Go.AM
abbrev h00 : HD := (0, ([], ([], ((0, (0, (0, (0, (0, (0, (0, (0, (0, (0, (0, (0, (0, ([] : List FF)))))))))))))), (0, 0)))))
abbrev XM : PK := (0, (0, (0, (0, (0, (0, (0, (0, (0, (0, (0, (0, (0, ([] : List FF))))))))))))))
abbrev PK.orig (p : PK) : Int := p.2.2.2.2.2.2.2.2.2.2.1
def XO (a b : Int) : Int :=
 IntKind.i64.wrap (IntKind.i64.wrap (IntKind.i64.wrap (0 + iI .i64 a 1) + iI .i64 b 1) + iI .i64 (IntKind.i64.wrap (IntKind.i64.wrap (0 + fO .i64 a 1) + fO .i64 b 1)) 1)
theorem Xi (a b : Int) : dG.run .lim ([a, b], ()) = some (XO a b) := by
 have s1 : dG.l0 .lim ([a, b], 2, 0, 0, 0, ()) = dG.l0 .lim ([a, b], 2, 1, IntKind.i64.wrap (0 + iI .i64 a 1), IntKind.i64.wrap (0 + fO .i64 a 1), ()) := by rw [dG.q0]; rfl
 have s2 : ∀ m m1, dG.l0 .lim ([a, b], 2, 1, m, m1, ()) = dG.l0 .lim ([a, b], 2, 2, IntKind.i64.wrap (m + iI .i64 b 1), IntKind.i64.wrap (m1 + fO .i64 b 1), ()) := fun m m1 => by rw [dG.q0]; rfl
 have s3 : ∀ m m1, dG.l0 .lim ([a, b], 2, 2, m, m1, ()) = some (m, m1, ()) := fun m m1 => by rw [dG.q0]; rfl
 simp only [dG.run];rw [cond_pos (show ay (([a, b] : List Int).length : Int) = true from rfl)];show (Option.bind (dG.l0 .lim ([a, b], 2, 0, 0, 0, ())) _) = _;rw [s1, s2, s3]; rfl
def measS (a b c d : Int) : Int × Int :=
 (XO (IntKind.i64.wrap (IntKind.u64.wrap (b - a))) (IntKind.i64.wrap (IntKind.u64.wrap (c - d))), IntKind.i64.wrap (IntKind.u64.wrap (IntKind.u64.wrap (d - a) - IntKind.u64.wrap (c - b))))
theorem Xj (a b c d : Int) : jw.run .lim (a, b, c, d, ()) = some (measS a b c d) := by
 have d1 : ∀ x y, oO.run .lim (x, y, ()) = some (IntKind.i64.wrap (IntKind.u64.wrap (x - y))) := fun _ _ => rfl
 simp only [jw.run, d1, Option.bind_some, Xi];rfl
theorem PY (n : Int) : kH.run .lim (n, ()) = some (IntKind.u64.wrap (n + 1)) := rfl
theorem U0 (x : AS) : qO.run .lim (x, ()) = some ((x.1, (x.2.1, (([] : List Int), (([] : List Int), (0, x.2.2.2.2.2))))) : AS) := rfl
noncomputable def wO (v : VV) (x : AS) (s : List Int) (t4 : Int) : AS × HD :=
 if x.2.2.1 = [] \/ ¬ NI s = 0 \/ ¬ (iy s).2.1 = 4 \/ ¬ (iy s).2.2.1 = 4 then (x, h00) else
 match mg (iy s).fs 1028 with
 | none => if (Ag (iy s).fs 260).2 = 0 /\ (Ag (iy s).fs 260).1 = x.2.2.1 then ((x.1, x.2.1, x.2.2.1, x.2.2.2.1, x.2.2.2.2.1, x.2.2.2.2.2.1, x.2.2.2.2.2.2.1, IntKind.u64.wrap (x.2.2.2.2.2.2.2.1 + 1), x.2.2.2.2.2.2.2.2), (1, x.2.2.1, x.2.2.2.1, XM, 0, 0)) else (x, h00)
 | some k => if (Ag ((iy s).fs.take k) 260).2 = 0 /\ (Ag ((iy s).fs.take k) 260).1 = x.2.2.1 then
   if ¬ (kF v s x.1.2.2).2 = 0 \/ ¬ (kF v s x.1.2.2).1.1.orig = x.2.2.2.2.1 \/ (kF v s x.1.2.2).1.1.2.2.2.1 > 15 then (x, h00)
   else if (kF v s x.1.2.2).1.1.2.2.2.1 = 0 then ((x.1, x.2.1, [], [], 0, x.2.2.2.2.2.1, x.2.2.2.2.2.2.1, x.2.2.2.2.2.2.2.1, IntKind.u64.wrap (x.2.2.2.2.2.2.2.2 + 1)), (2, x.2.2.1, x.2.2.2.1, (kF v s x.1.2.2).1.1, 0, 0))
   else ((x.1, sQ x.2.1 (kF v s x.1.2.2).1.2.2, [], [], 0, x.2.2.2.2.2.1, IntKind.u64.wrap (x.2.2.2.2.2.2.1 + 1), x.2.2.2.2.2.2.2.1, x.2.2.2.2.2.2.2.2), (3, x.2.2.1, x.2.2.2.1, (kF v s x.1.2.2).1.1, measS x.2.2.2.2.1 (kF v s x.1.2.2).1.1.2.2.2.2.2.2.2.2.2.2.2.1 (kF v s x.1.2.2).1.1.2.2.2.2.2.2.2.2.2.2.2.2.1 t4))
  else (x, h00)
theorem PZ {v : VV} {s key : List Int} (hf : pq v = true) (hvb : vB v) (h : (kF v s key).2 = 0) : (kF v s key).1.2.2.length <= 16 /\ ∀ f ∈ (kF v s key).1.2.2, Vg f := by
 obtain ⟨_, k, aH, sealed, _, y2, y3⟩ := Lm h;obtain ⟨_, ol, _, oB⟩ := Lj hf hvb y2;obtain ⟨l, k1, _, k3, k4⟩ := Py _ _ [] (Nat.le_refl _) oB (by rw [y3]);rw [y3] at k1;have k1 : (kF v s key).1.2.2 = [] ++ l := k1;rw [k1];exact ⟨k4 (by decide), k3⟩
theorem P5 {v : VV} (hv : okV v) (hf : pq v = true) (hvb : vB v) {x : AS} (hx : UU x) (h8 : x.2.1.length <= 8) {s : List Int} (hs : Bs s) (hl : s.length < 9223372036854775808) (t4 : Int) :
  dI.run .lim (v, x, s, t4, ()) = some ((wO v x s t4).1, (wO v x s t4).2, ()) := by
 simp only [dI.run, PE hs hl, Option.bind_some];unfold wO;by_cases h1 : x.2.2.1 = [] \/ ¬ NI s = 0 \/ ¬ (iy s).2.1 = 4 \/ ¬ (iy s).2.2.1 = 4
 ·rw [if_pos h1, cond_pos (by
   rcases h1 with h | h | h | h
   ·rw [au h]; simp
   ·rw [aA h]; simp
   ·rw [aA h]; simp
   ·rw [aA h]; simp)]
 rw [if_neg h1];simp only [not_or, Decidable.not_not] at h1;obtain ⟨hu, h0, R_, hmode⟩ := h1;rw [aA hu, au h0, au R_, au hmode];have w := was hs h0;have hfew := w.few;have Xk := Ro hv hf hvb (key := x.1.2.2) hs hl hx.k.b hx.kb.2;have hin := PZ (v := v) (s := s) (key := x.1.2.2) hf hvb;generalize kF v s x.1.2.2 = o at Xk hin;generalize iy s = r at hfew;have hfs : r.2.2.2.2.2.2.2.2.2.2.2.2.2.length <= 16 := hfew;simp only [Bool.not_true, Bool.or_false, cond_false, aF (show r.2.2.2.2.2.2.2.2.2.2.2.2.2.length < 9223372036854775808 by omega), cond_true];rw [Xc hfs];have on := UJ (l := r.fs) 260 (by omega);have on : qh.run .lim (r.2.2.2.2.2.2.2.2.2.2.2.2.2, 260, ()) = _ := on;have clo : aB.run .lim (x.2.1, ()) = some x.2.1 := qW (by omega);cases hq : mg r.2.2.2.2.2.2.2.2.2.2.2.2.2 1028 with
 | none =>
  have hq : mg r.fs 1028 = none := hq;simp only [hq, Option.bind_some, on, PY];by_cases ho : (Ag r.fs 260).2 = 0 /\ (Ag r.fs 260).1 = x.2.2.1
  ·rw [if_pos ho, au ho.1, au ho.2]; rfl
  ·rw [if_neg ho, cond_pos (by
    by_cases q : (Ag r.fs 260).2 = 0
    ·rw [aA (fun h => ho ⟨q, h⟩)]; simp
    ·rw [aA q]; simp)]
 | some k =>
  have hq : mg r.fs 1028 = some k := hq;have hk : k < r.fs.length := by
   rcases vF r.fs 1028 with ⟨q, _⟩ | ⟨k', l, q, _, hk, _⟩
   ·rw [hq] at q; cases q
   ·rw [hq] at q; cases q; exact hk
  have hk' : k < r.2.2.2.2.2.2.2.2.2.2.2.2.2.length := hk;have hc : cut r.2.2.2.2.2.2.2.2.2.2.2.2.2 0 (k : Int) = r.fs.take k := nG rfl;have ht : (r.fs.take k).length <= 16 := by rw [List.length_take]; omega
  have ot := UJ (l := r.fs.take k) 260 (by omega);simp only [hq, Option.bind_some, au (show (k : Int) >= 0 by omega), cond_true, aT (show (0 : Int) <= 0 by omega) (show (0 : Int) <= (k : Int) by omega) (show (k : Int) <= (r.2.2.2.2.2.2.2.2.2.2.2.2.2.length : Int) by omega), hc, ot];by_cases ho : (Ag (r.fs.take k) 260).2 = 0 /\ (Ag (r.fs.take k) 260).1 = x.2.2.1
  case neg =>
   rw [if_neg ho, cond_pos (by
    by_cases q : (Ag (r.fs.take k) 260).2 = 0
    ·rw [aA (fun h => ho ⟨q, h⟩)]; simp
    ·rw [aA q]; simp)]
  rw [if_pos ho, au ho.1, au ho.2];have Xk : iF.run .lim ((v.1, v.2), s, x.1.2.2, ()) = _ := Xk;simp only [Bool.and_self, Bool.not_true, cond_false, Xk, Option.bind_some];by_cases h2 : ¬ o.2 = 0 \/ ¬ o.1.1.orig = x.2.2.2.2.1 \/ o.1.1.2.2.2.1 > 15
  ·rw [if_pos h2, cond_pos (by
    rcases h2 with h | h | h
    ·rw [aA h]; simp
    ·rw [aA h]; simp
    ·rw [au h]; simp)]
  rw [if_neg h2];simp only [not_or, Decidable.not_not] at h2;obtain ⟨e0, e1, e2⟩ := h2;have e1 : o.1.1.2.2.2.2.2.2.2.2.2.2.1 = x.2.2.2.2.1 := e1;rw [au e0, au e1, aA e2];obtain ⟨i1, i2⟩ := hin e0;simp only [Bool.not_true, Bool.or_self, cond_false, U0, Option.bind_some, PY];by_cases h3 : o.1.1.2.2.2.1 = 0
  ·rw [au h3, if_pos h3]; rfl
  rw [aA h3, if_neg h3];simp only [cond_false, Xj, Option.bind_some, clo, aF (show o.1.2.2.length < 9223372036854775808 by omega), cond_true];rw [Xd i1 (fun f hf => Nat.lt_of_lt_of_le (i2 f hf).l1 (by decide)) (hJ := h8)];rfl
end Go.AM
end
section
set_option maxRecDepth 100000
namespace Go.AM
theorem U1 (e : Int) (b : Bool) : lG.run .lim (e, b, ()) = some (b, e, ()) := rfl
theorem NY {n : Nat} (h : n <= 140737488355328) : strings_Repeat.run .lim ([0], (n : Int), ()) = some (List.replicate n 0) := by
 show FD ([0], (n : Int), ()) = _;unfold FD;simp only [Int.toNat_natCast];rw [au (show (0 : Int) <= (n : Int) by omega), Nat.ble_eq_true_of_le (show [(0 : Int)].length * n <= 140737488355328 by simp; omega), Ah]; rfl
def aar (a : Bool) (e : Int) (b : Bool) (f : Int) : Int := bif a then (bif b then 0 else f) else e
theorem YT (u aH : List Int) (t1 : Int) (b1 b2 : Bool) (z) : gZ.l0 .lim (u, aH, t1, (b1, 10, ()), (b2, 19, ()), z) = some (u, aH, t1, aar b1 10 b2 19, z) := by
 rw [gZ.q0];simp only [gZ.b0];cases b1 <;> cases b2 <;> rfl
theorem YU (u aH : List Int) (t1 : Int) {c n : Nat} (hc : c <= 1000) (hn : n <= 1000) (a0 : Bool) (a1 : (List (List Int × (List (List Int) × (List Int × List Int))))) (a2 : Int) (a3 : List Int) (a4 : List Int) (a5 : List (List Int)) (a6 : List Int) (a7 : List Int) (a8 : Int) (a9 : Int) (a10 : Int) (a11 : Int) (a12 : Int) (Vm : Bool) (Xe : Int) (Xf : List Int) (a16 : List Int) (a17 : List Int) (Xg : List Int) (Xh : Int) (a20 : Int) (a21 : Int) (a22 : Int) (a23 : Int) {l : List FF} (hl : l.length <= 1000) : gZ.l1 .lim (u, aH, t1, ((4 + c : Nat) : Int), (n : Int), 0, a0, a1, a2, a3, a4, a5, a6, a7, a8, a9, a10, a11, a12, Vm, Xe, Xf, a16, a17, Xg, Xh, a20, a21, a22, a23, l, ()) = some (u, aH, t1, a0, a1, a2, a3, a4, a5, a6, a7, a8, a9, a10, a11, a12, Vm, Xe, Xf, a16, a17, Xg, Xh, a20, a21, a22, a23, l ++ List.replicate n (772, List.replicate c 0), ()) := by
 have hz := NY (n := c) (by omega);have hw : IntKind.i64.wrap (((4 + c : Nat) : Int) - 4) = (c : Int) := by rw [wrap64 (by omega) (by omega)]; omega
 have e := dS (f := gZ.l1 .lim) (fun j => (u, aH, t1, ((4 + c : Nat) : Int), (n : Int), (j : Int), a0, a1, a2, a3, a4, a5, a6, a7, a8, a9, a10, a11, a12, Vm, Xe, Xf, a16, a17, Xg, Xh, a20, a21, a22, a23, l ++ List.replicate j (772, List.replicate c 0), ())) (n := n) (fun j hj => by
  rw [gZ.q1];simp only [gZ.b1, au (show (j : Int) < (n : Int) by omega), cond_true, hw, hz, Option.bind_some, nX j (by omega)];rw [cond_pos (au (by simp; omega)), List.append_assoc, <- List.replicate_succ'])
 have e0 : gZ.l1 .lim (u, aH, t1, ((4 + c : Nat) : Int), (n : Int), 0, a0, a1, a2, a3, a4, a5, a6, a7, a8, a9, a10, a11, a12, Vm, Xe, Xf, a16, a17, Xg, Xh, a20, a21, a22, a23, l, ()) = _ := (congrArg (gZ.l1 .lim) (by rw [List.replicate_zero, List.append_nil]; rfl)).trans e;rw [e0, gZ.q1];simp only [gZ.b1, aA (show ¬ (n : Int) < (n : Int) by omega), cond_false]
def holdN (k c : Nat) : Nat := min (8 - k) (1156 / (4 + c) - 1)
def NZ (u c : List Int) (n : Nat) : List FF := [(260, u), (516, c)] ++ List.replicate n (772, List.replicate c.length 0)
def Jo (u c : List Int) (n : Nat) (t1 : Int) : PK := ((0 : Int), (4, (3, (0, (0, (0, (0, (0, (0, (0, (0, (0, (t1, NZ u c n)))))))))))))
noncomputable def Jp (v : VV) (x : AS) (u aH : List Int) (t1 : Int) : VV × AS × List Int × Int :=
 if ¬ u.length = 32 then (v, x, [], 10) else
 match x.2.1 with
 | [] => (v, x, [], 19)
 | c :: rest =>
  if (qm v (Jo u c (holdN (rest.length + 1) c.length) t1) x.1.2.1 aH []).2.2 = 0 then
   ((qm v (Jo u c (holdN (rest.length + 1) c.length) t1) x.1.2.1 aH []).1, (x.1, rest, u, (qm v (Jo u c (holdN (rest.length + 1) c.length) t1) x.1.2.1 aH []).2.1, t1, IntKind.u64.wrap (x.2.2.2.2.2.1 + 1), x.2.2.2.2.2.2.1, x.2.2.2.2.2.2.2.1, x.2.2.2.2.2.2.2.2), (qm v (Jo u c (holdN (rest.length + 1) c.length) t1) x.1.2.1 aH []).2.1, 0)
  else (v, x, [], (qm v (Jo u c (holdN (rest.length + 1) c.length) t1) x.1.2.1 aH []).2.2)
theorem U2 (k c : Nat) : holdN k c <= 8 := by unfold holdN; omega
theorem U3 {k c : Nat} (hk : k <= 8) (hc : c <= 256) : mn (IntKind.i64.wrap (8 - (k : Int))) (IntKind.i64.wrap ((IntKind.i64.wrap ((1156 : Int).tdiv (IntKind.i64.wrap (4 + (c : Int))))) - 1)) = (holdN k c : Int) := by
 have h1 : IntKind.i64.wrap (8 - (k : Int)) = ((8 - k : Nat) : Int) := by rw [wrap64 (by omega) (by omega)]; omega
 have h2 : IntKind.i64.wrap (4 + (c : Int)) = ((4 + c : Nat) : Int) := by rw [wrap64 (by omega) (by omega)]; omega
 have h3 : (1156 : Int).tdiv ((4 + c : Nat) : Int) = ((1156 / (4 + c) : Nat) : Int) := by rw [Int.tdiv_eq_ediv_of_nonneg (by omega)]; rfl
 have h4 : 1156 / (4 + c) <= 1156 := Nat.div_le_self _ _;have h5 : 1 <= 1156 / (4 + c) := (Nat.le_div_iff_mul_le (by omega)).2 (by omega);rw [h1, h2, h3, wrap64 (n := ((1156 / (4 + c) : Nat) : Int)) (by omega) (by omega), wrap64 (by omega) (by omega)];unfold holdN;rw [fG];generalize 1156 / (4 + c) = q at h4 h5;omega
theorem Xl {u c : List Int} {n : Nat} (hn : n <= 8) (hu : u.length <= 140737488351232) (hc : c.length <= 140737488351232) : FL (NZ u c n) /\ (NZ u c n).length = 2 + n := by
 have e : (NZ u c n).length = 2 + n := by unfold NZ; simp; omega
 refine ⟨⟨by omega, fun f hf => ?_⟩, e⟩;unfold NZ at hf;simp only [List.cons_append, List.nil_append, List.mem_cons, List.mem_replicate] at hf;rcases hf with rfl | rfl | ⟨_, rfl⟩
 ·exact hu
 ·exact hc
 ·simpa using hc
theorem U4 {v : VV} (hv : okV v) (hf : pq v = true) {x : AS} (hx : UU x) (hj : Rn x.2.1) {u aH : List Int} (hu : u.length <= 140737488351232) (hn : aH.length < dX) (t1 : Int) :
  gZ.run .lim (v, x, u, aH, t1, ()) = some ((Jp v x u aH t1).1, (Jp v x u aH t1).2.1, (Jp v x u aH t1).2.2.1, (Jp v x u aH t1).2.2.2, ()) := by
 simp only [gZ.run, aF (y9 hu), aF hx.j, cond_true, U1, Option.bind_some];rw [YT];unfold Jp;by_cases h1 : u.length = 32
 case neg => rw [if_pos h1, aA (show ¬ (u.length : Int) = 32 by omega)]; rfl
 rw [if_neg (not_not_intro h1), au (show (u.length : Int) = 32 by omega)];obtain ⟨ky, j, q⟩ := x;have h8 := hj.few;have hm := hj.may;have hkb := hx.kb.1;have hkl := hx.k.a;simp only at h8 hm hkb hkl ⊢
 cases j with
 | nil => rfl
 | cons c rest =>
  have hc := hm c (.head _);have hcl : 12 <= c.length /\ c.length <= 256 := by
   unfold BR at hc;simp only [Bool.and_eq_true, decide_eq_true_eq] at hc;exact hc.1
  have h8 : rest.length + 1 <= 8 := h8;have hl : (c :: rest).length = rest.length + 1 := rfl;rw [au (show ((c :: rest).length : Int) > 0 by rw [hl]; omega)];have hr : rd ([] : List Int) (c :: rest) 0 = c := rfl;have hN := U3 (k := rest.length + 1) (c := c.length) h8 hcl.2;have hNl := U2 (c :: rest).length c.length;have hw4 : IntKind.i64.wrap (4 + (c.length : Int)) = ((4 + c.length : Nat) : Int) := by rw [wrap64 (by omega) (by omega)]; omega
  have hi0 : inB 0 ((c :: rest).length : Int) = true := aG (by omega) (by rw [hl]; omega);have hsc : ay (c.length : Int) = true := aF (by omega);have hsj : ay ((c :: rest).length : Int) = true := aF (by rw [hl]; omega);rw [<- hl, hw4] at hN;simp only [aar, cond_true, Option.bind_some, decide_true, Bool.not_true, cond_false, hi0, hr, hsc, hsj, hN, hw4, aA (show ¬ ((4 + c.length : Nat) : Int) = 0 by omega), Bool.not_false];rw [YU (c := c.length) (n := holdN (c :: rest).length c.length) (l := [(260, u), (516, c)]) (hc := by omega) (hn := by omega) (hl := by simp)];obtain ⟨fl, fn⟩ := Xl (u := u) (c := c) hNl hu (show c.length <= 140737488351232 by omega);have nm := UL hv hf (p := Jo u c (holdN (c :: rest).length c.length) t1) (key := ky.2.1) (aH := aH) (inner := []) fl (by show (NZ u c _).length <= _; rw [fn]; omega) hkl hkb hn ⟨by decide, fun f hf => nomatch hf⟩;have nm : qN.run .lim ((v.1, v.2), (0, (4, (3, (0, (0, (0, (0, (0, (0, (0, (0, (0, (t1, [(260, u), (516, c)] ++ List.replicate (holdN (c :: rest).length c.length) (772, List.replicate c.length 0)))))))))))))), ky.2.1, aH, ([] : List FF), ()) = _ := nm;simp only [Option.bind_some, nm, <- hl];generalize qm v (Jo u c (holdN (c :: rest).length c.length) t1) ky.2.1 aH [] = M;obtain ⟨w, s, e⟩ := M;simp only;by_cases h2 : e = 0
  case neg => rw [aA h2, if_neg h2]; rfl
  have hcut : cut (c :: rest) 1 ((c :: rest).length : Int) = rest := by
   show ((c :: rest).take (Int.toNat _)).drop 1 = _;rw [Int.toNat_natCast, List.take_length]; rfl
  have clo : aB.run .lim (rest, ()) = some rest := qW (by omega);rw [au h2, if_pos h2];simp only [Bool.not_true, cond_false, aT (show (0 : Int) <= 1 by omega) (show (1 : Int) <= ((c :: rest).length : Int) by rw [hl]; omega) (Int.le_refl _), cond_true, hcut, clo, Option.bind_some];rfl
end Go.AM
end
section
set_option maxRecDepth 100000
namespace Go.AM
abbrev tC : List Int := List.replicate 32 107
abbrev Ju : List Int := List.replicate 16 107
abbrev xI : List Int := List.replicate 104 0
abbrev Rq : VV := (false, [])
theorem U5 : okV Rq := ⟨by decide, fun k hk => nomatch hk⟩
theorem LC : Bs tC := UN (by decide)
theorem U6 : Bs xI := UN (by decide)
abbrev bwX : AS := ((15, (tC, tC)), ([xI], ([], ([], (0, (0, (0, (0, 0))))))))
theorem YV : aP.l0 .lim ([], 0, ()) = some (tC, ()) := by
 have e := dS (f := aP.l0 .lim) (fun j => (List.replicate j (107 : Int), (j : Int), ())) (n := 32) (fun k hk => by
  rw [aP.q0];have hl : ∀ x : Int, decide ((List.replicate k x).length + [x].length <= maxStr) = true := fun x => au (by unfold maxStr; simp; omega)
  simp only [aP.b0, au (show (k : Int) < 32 by omega), cond_true, hl, nX k (by omega)];rw [List.replicate_succ'])
 refine (show aP.l0 .lim ([], 0, ()) = aP.l0 .lim (List.replicate 32 (107 : Int), ((32 : Nat) : Int), ()) from e).trans ?_;rw [aP.q0];rfl
theorem Xm {v w : VV} {p : PK} {key aH sealed : List Int} (hd : QU p = true) (hff : findF p.fs 1028 = []) (hf : ∀ f ∈ p.fs, Vg f) (h16 : p.fs.length + 1 <= 16) (hl : (aX p.fs).length + 40 <= 1232) (hn : aH.length = 16) (hnb : Bs aH)
  (hs : jc v key [RG p ++ aX p.fs, aH] [] = (w, sealed, 0)) (hsl : sealed.length = 16) (hsb : Bs sealed) : qm v p key aH [] = (w, RG p ++ aX (p.fs ++ [(1028, jd aH sealed)]), 0) := by
 have hp : sZ sealed.length = 0 := by rw [hsl]; rfl
 have hal : (jd aH sealed).length = 36 := by rw [Ai hn, hp, hsl]
 have hG : Vg (1028, jd aH sealed) := ⟨by show (0 : Int) <= 1028; decide, by show (1028 : Int) < 65536; decide, by show 12 <= (jd aH sealed).length; omega, by show (jd aH sealed).length % 4 = 0; omega, by show (jd aH sealed).length < 65532; omega, WW hnb hsb⟩;have w1 : LM p = 0 := by unfold LM; rw [if_pos hd]; exact Jh hf (by omega) (by omega)
 have w2 : Hf p = RG p ++ aX p.fs := by unfold Hf; rw [if_pos w1]
 have ha : oW v key aH (RG p ++ aX p.fs) [] = (w, (1028, jd aH sealed), 0) := by
  unfold oW;rw [if_pos hn, if_neg (show ¬ (RG p ++ aX p.fs).length > 1280 by rw [List.length_append, Ji]; omega), if_pos (show qQ [] = 0 from rfl)];have h : qR [] = [] := rfl;rw [h, hs, if_pos rfl]
 have he : aX (p.fs ++ [(1028, jd aH sealed)]) = aX p.fs ++ BQ (1028, jd aH sealed) := by simp [aX]
 have hfl : (aX (p.fs ++ [(1028, jd aH sealed)])).length = (aX p.fs).length + 40 := by rw [he, List.length_append, y7]; show _ + (4 + (jd aH sealed).length) = _; omega
 have w3 : LM (PK.cut p (p.fs ++ [(1028, jd aH sealed)])) = 0 := by
  unfold LM;rw [if_pos (show QU (PK.cut p (p.fs ++ [(1028, jd aH sealed)])) = true from hd)];refine Jh (l := p.fs ++ [(1028, jd aH sealed)]) (fun f hq => ?_) (by simp; omega) (by omega);rcases List.mem_append.1 hq with hq | hq
  ·exact hf f hq
  ·rw [List.mem_singleton.1 hq]; exact hG
 have w4 : Hf (PK.cut p (p.fs ++ [(1028, jd aH sealed)])) = RG p ++ aX (p.fs ++ [(1028, jd aH sealed)]) := by unfold Hf; rw [if_pos w3]; rfl
 unfold qm;rw [hff, if_neg (by decide), if_pos w1, w2, ha, if_pos rfl, if_pos w3, w4]
abbrev U7 : PK := Jo tC xI 7 5
noncomputable abbrev Y9 : List Int := RG U7 ++ aX U7.fs
noncomputable abbrev XP : List Int := EP tC [Y9, Ju] []
theorem Xn : jc Rq tC [Y9, Ju] [] = (Rq, XP, 0) := by
 show (Rq, vw tC [Y9, Ju] []) = _;unfold vw;rw [if_pos (show sF tC [Y9, Ju] = 0 from rfl), if_neg (show ¬ ([] : List Int).length > 65536 by decide)]
theorem YW : ∀ f ∈ U7.fs, Vg f := fun f hf => by
 have hf : f ∈ [(260, tC), (516, xI)] ++ List.replicate 7 ((772 : Int), List.replicate xI.length (0 : Int)) := hf;simp only [List.cons_append, List.nil_append, List.mem_cons, List.mem_replicate] at hf;rcases hf with rfl | rfl | ⟨_, rfl⟩
 ·exact ⟨by decide, by decide, by decide, by decide, by decide, LC⟩
 ·exact ⟨by decide, by decide, by decide, by decide, by decide, U6⟩
 ·exact ⟨by decide, by decide, by decide, by decide, by decide, U6⟩
theorem P6 : (aX U7.fs).length = 900 := by decide +kernel
noncomputable abbrev bwT : List Int := RG U7 ++ aX (U7.fs ++ [(1028, jd Ju XP)])
theorem Xo : qm Rq U7 tC Ju [] = (Rq, bwT, 0) :=
 Xm (by decide) (by decide +kernel) YW (by decide) (by rw [P6]; decide) (by decide) (UN (by decide)) Xn (Ae tC [Y9, Ju] []) (PO _ _ _)
theorem P7 : bwT.length = 988 := by
 have hsl : XP.length = 16 := Ae tC [Y9, Ju] [];have hp : sZ XP.length = 0 := by rw [hsl]; rfl
 have hal : (jd Ju XP).length = 36 := by rw [Ai (by decide), hp, hsl]
 have he : aX (U7.fs ++ [(1028, jd Ju XP)]) = aX U7.fs ++ BQ (1028, jd Ju XP) := by simp [aX]
 rw [List.length_append, Ji, he, List.length_append, P6, y7];show 48 + (900 + (4 + (jd Ju XP).length)) = _;omega
theorem U8 (e : List UInt8) : (Lib.compact [e]).length = 1 := rfl
theorem Rt (c : List Int) : iq.run .lim ([c], ()) = some false := by
 have s1 : iq.l0 .lim ([c], 1, 0, [c], [], ()) = iq.l0 .lim ([c], 1, 1, [c], [c], ()) := by rw [iq.q0]; rfl
 have s2 : iq.l0 .lim ([c], 1, 1, [c], [c], ()) = some ([c], [c], ()) := by rw [iq.q0]; rfl
 have hs : wL [c] = [FC (Yn c)] := by unfold wL; rw [List.map_cons, List.map_nil, List.mergeSort_singleton]; rfl
 have hc : (nC (wL [c])).length = 1 := by rw [hs]; unfold nC; rw [List.length_map]; exact U8 _
 simp only [iq.run];rw [cond_pos (show ay (([c] : List (List Int)).length : Int) = true from rfl)];show (Option.bind (iq.l0 .lim ([c], 1, 0, [c], [], ())) _) = _;rw [s1, s2];simp only [Option.bind_some, hc];rw [hs];rfl
theorem Xp : gq.run .lim ([xI], ()) = some 0 := by
 have hm : qL.run .lim (xI, ()) = some false := by
  simp only [qL.run, UR (s := xI) (by decide), Option.bind_some];decide
 have s1 : gq.l0 .lim ([xI], 1, 0, [xI], (true, 18, ()), ()) = gq.l0 .lim ([xI], 1, 1, [xI], (true, 18, ()), ()) := by
  rw [gq.q0];have hr : rd ([] : List Int) [xI] 0 = xI := rfl;simp only [gq.b0, au (show (0 : Int) < 1 by decide), cond_true, hr, hm, Option.bind_some, cond_false];rfl
 have s2 : gq.l0 .lim ([xI], 1, 1, [xI], (true, 18, ()), ()) = some (.inr ([xI], (true, 18, ()), ())) := by rw [gq.q0]; rfl
 have s3 : gq.l1 .lim ((true, 18, ()), (true, 12, ()), (true, 24, ()), ()) = some (0, ()) := by rw [gq.q1]; rfl
 simp only [gq.run, U1, Option.bind_some];rw [cond_pos (show ay (([xI] : List (List Int)).length : Int) = true from rfl)];show (Option.bind (gq.l0 .lim ([xI], 1, 0, [xI], (true, 18, ()), ())) _) = _;rw [s1, s2];simp only [Option.bind_some, Rt, Bool.not_false, s3]
theorem Ru : jv.run .lim ((15, (tC, tC)), [xI], ()) = some (bwX, 0, ()) := by
 have hk := WZ (k := (15, (tC, tC))) ⟨by decide, by decide⟩;have hfk : Rj (15, (tC, tC)) = true := by decide
 rw [hfk] at hk;have clo : aB.run .lim ([xI], ()) = some [xI] := qW (by decide);have s1 : jv.l0 .lim ((true, 13, ()), (true, 19, ()), 15, tC, tC, [xI], 0, [], [], [], [], 0, 0, 0, 0, 0, ()) = some (0, 15, tC, tC, [xI], 0, [], [], [], [], 0, 0, 0, 0, 0, ()) := by
  rw [jv.q0];simp only [jv.b0, cond_true, Xp, Option.bind_some];rfl
 simp only [jv.run, hk, U1, Option.bind_some];rw [cond_pos (show ay (([xI] : List (List Int)).length : Int) = true from rfl)];show (Option.bind (jv.l0 .lim ((true, 13, ()), (true, 19, ()), 15, tC, tC, [xI], 0, [], [], [], [], 0, 0, 0, 0, 0, ())) _) = _;rw [s1];simp only [Option.bind_some, decide_true, Bool.not_true, cond_false, clo]
theorem YX : UU bwX := ⟨⟨by decide, by decide⟩, ⟨LC, LC⟩, by decide, fun s hs => by rw [List.mem_singleton.1 hs]; decide, fun s hs => by rw [List.mem_singleton.1 hs]; exact U6, by decide⟩
theorem bwX_j : Rn [xI] := ⟨by decide, fun s hs => by rw [List.mem_singleton.1 hs]; decide, by simp⟩
noncomputable abbrev bwY : AS := ((15, (tC, tC)), ([], (tC, (bwT, (5, (1, (0, (0, 0))))))))
theorem YZ : UU bwY := ⟨⟨by decide, by decide⟩, ⟨LC, LC⟩, by decide, fun s hs => (by cases hs), fun s hs => (by cases hs), by decide⟩
theorem Xq : Jp Rq bwX tC Ju 5 = (Rq, bwY, bwT, 0) := by
 unfold Jp;rw [if_neg (not_not_intro (by decide))];show (if (qm Rq U7 tC Ju []).2.2 = 0 then _ else _) = _;have e : Jo tC xI (holdN (([] : List (List Int)).length + 1) xI.length) 5 = U7 := rfl;simp only [e, Xo];rfl
theorem Xr : Jp Rq bwY tC Ju 6 = (Rq, bwY, [], 19) := by
 unfold Jp;rw [if_neg (not_not_intro (by decide))]
theorem P8 : aP.run .lim () = some true := by
 have a1 := U4 (v := Rq) U5 rfl YX bwX_j (u := tC) (aH := Ju) (by decide) (by decide) 5;have a2 := U4 (v := Rq) U5 rfl YZ ⟨by decide, fun s hs => (by cases hs), .nil⟩ (u := tC) (aH := Ju) (by decide) (by decide) 6;rw [Xq] at a1;rw [Xr] at a2;have hc : cut tC 0 16 = Ju := by decide
 have hcb : dR 0 16 (tC.length : Int) = true := by decide
 have hb : Nat.blt 104 70368744177664 = true := rfl;simp only [aP.run, YV, Option.bind_some, hb, cond_true, Ru, hcb, hc, a1, a2];have h5 : ay ((bwT.length : Nat) : Int) = true := by rw [P7]; decide
 rw [h5, P7];decide
end Go.AM
end
section
set_option maxRecDepth 100000
namespace Go.AM
def LD (s key : List Int) (q : KK) : Bool := (((decide (q.1 = key)) && (decide ((q.2.1.length : Int) = 2))) && (decide (((rd ([] : List Int) q.2.1 0).length : Int) <= (s.length : Int)))) && (decide (cut s 0 ((rd ([] : List Int) q.2.1 0).length : Int) = rd ([] : List Int) q.2.1 0))
theorem Xt {v : VV} (hv : okV v) {s : List Int} (hs : s.length < 9223372036854775808) (a0 : Int) (a1 key : List Int) (z) :
  aV.l0 .lim (s, v.2, (v.2.length : Int), 0, a0, a1, key, z) = bif (List.range v.2.length).any (fun k : Nat => LD s key (rd k0 v.2 (k : Int))) then some (.inl (true, ())) else some (.inr ()) := by
 have h63 := hv.1;have e := lD (f := aV.l0 .lim) (fun k => (s, v.2, (v.2.length : Int), (k : Int), a0, a1, key, z)) v.2.length (fun k : Nat => LD s key (rd k0 v.2 (k : Int))) (some (.inl (true, ()))) (fun k hk => by
  rw [aV.q0];have hm := fH (d := k0) (xs := v.2) (i := (k : Int)) (by omega) (by omega);have hq := hv.2 _ hm;have hw : IntKind.i64.wrap ((k : Int) + 1) = ((k + 1 : Nat) : Int) := by rw [wrap64 (by omega) (by omega)]; omega
  have hg0 : rd (([] : List Int), (([] : List (List Int)), (([] : List Int), ([] : List Int)))) v.2 (k : Int) = rd k0 v.2 (k : Int) := rfl;simp only [aV.b0, au (show (k : Int) < (v.2.length : Int) by omega), aG (show (0 : Int) <= (k : Int) by omega) (show (k : Int) < (v.2.length : Int) by omega), cond_true, hg0];generalize rd k0 v.2 (k : Int) = q at hq;obtain ⟨o1, o2, o3, o4, o5⟩ := hq;have hal : (rd ([] : List Int) q.2.1 0).length < 9223372036854775808 := by
   by_cases h : q.2.1.length = 0
   ·have : q.2.1 = [] := List.length_eq_zero_iff.1 h;rw [this]; decide
   ·exact o3 _ (fH (by omega) (by omega))
  unfold LD;have hin : ((!((decide (q.1 = key)) && (decide ((q.2.1.length : Int) = 2)))) || inB 0 (q.2.1.length : Int)) = true := by
   by_cases h2 : (q.2.1.length : Int) = 2
   ·rw [h2]; simp [inB]
   ·rw [aA h2]; simp
  have hin2 : ((!(((decide (q.1 = key)) && (decide ((q.2.1.length : Int) = 2))) && (decide (((rd ([] : List Int) q.2.1 0).length : Int) <= (s.length : Int))))) || inB 0 (q.2.1.length : Int)) = true := by
   by_cases h2 : (q.2.1.length : Int) = 2
   ·rw [h2]; simp [inB]
   ·rw [aA h2]; simp
  have hcb : ((!(((decide (q.1 = key)) && (decide ((q.2.1.length : Int) = 2))) && (decide (((rd ([] : List Int) q.2.1 0).length : Int) <= (s.length : Int))))) || dR 0 ((rd ([] : List Int) q.2.1 0).length : Int) (s.length : Int)) = true := by
   by_cases h2 : ((rd ([] : List Int) q.2.1 0).length : Int) <= (s.length : Int)
   ·rw [aT (by omega) (by omega) h2]; simp
   ·rw [aA h2]; simp
  simp only [aF o2, aF hal, aF hs, Bool.or_true, cond_true, hin, hin2, hcb, P8, Option.bind_some, hw])
 have e0 : aV.l0 .lim (s, v.2, (v.2.length : Int), 0, a0, a1, key, z) = _ := e;rw [e0];congr 1;rw [aV.q0];simp only [aV.b0, aA (show ¬ (v.2.length : Int) < (v.2.length : Int) by omega), cond_false]
theorem U9 {xs : List KK} {s key : List Int} (h : (kF (true, xs) s key).2 = 0) : (List.range xs.length).any (fun k : Nat => LD s key (rd k0 xs (k : Int))) = true := by
 obtain ⟨_, k, aH, sealed, _, y2, _⟩ := Lm h;have y2' : (ES xs key [s.take (48 + (aX ((iy s).fs.take k)).length), aH] sealed).2 = 0 := y2;generalize 48 + (aX ((iy s).fs.take k)).length = n at y2';obtain ⟨j, hj, ej⟩ := EW y2';refine List.any_eq_true.2 ⟨j, List.mem_range.2 hj, ?_⟩;rw [ej];unfold LD;have hr : rd ([] : List Int) [s.take n, aH] 0 = s.take n := rfl;have hc : cut s 0 ((s.take n).length : Int) = s.take n := by
  rw [nG rfl, List.length_take];rcases Nat.le_total n s.length with h | h
  ·rw [Nat.min_eq_left h]
  ·rw [Nat.min_eq_right h, List.take_length, List.take_of_length_le h]
 have hle : ((s.take n).length : Int) <= (s.length : Int) := by rw [List.length_take]; omega
 simp only [hr, hc, au hle, decide_true, Bool.and_true, List.length_cons, List.length_nil];rfl
theorem P9 {x : AS} (h : Lp x = true) : Rj x.1 = true /\ Rn x.2.1 := by
 unfold Lp at h;simp only [Bool.and_eq_true, decide_eq_true_eq] at h;exact ⟨h.1.1, PX.1 h.1.2⟩
theorem N7 {x : AS} (h : Lp x = true) {j : List (List Int)} (hj : Rn j) (a b c d : Int) : Lp (x.1, (j, ([], ([], (0, (a, (b, (c, d)))))))) = true := by
 obtain ⟨h1, _⟩ := P9 h;unfold Lp;simp only [h1, PX.2 hj, decide_true, Bool.and_self, if_true]
theorem Rn.le {l : List (List Int)} (h : Rn l) : ∀ s ∈ l, s.length <= 256 := fun s hs => by
 have := h.may s hs;unfold BR at this;simp only [Bool.and_eq_true, decide_eq_true_eq] at this;exact this.1.2
theorem UU.crash {x : AS} (h : UU x) {j : List (List Int)} (hj : Rn j) (hb : ∀ s ∈ j, Bs s) (a b c d : Int) : UU (x.1, (j, ([], ([], (0, (a, (b, (c, d)))))))) :=
 ⟨h.k, h.kb, Nat.lt_of_le_of_lt hj.few (by decide), fun s hs => Nat.lt_of_le_of_lt (hj.le s hs) (by decide), hb, by show ([] : List Int).length < 9223372036854775808; decide⟩
theorem P_ : ∀ {t : List FF} {J : List (List Int)}, (∀ s ∈ J, Bs s) -> (∀ f ∈ t, Bs f.2) -> ∀ s ∈ sQ J t, Bs s
 | [], _, h, _ => h
 | f :: t, J, h, hb => P_ (t := t) (J := zl J f) (fun s hs => by
  unfold zl at hs;cases hc : EY J f with
  | false => rw [hc] at hs; exact h s hs
  | true =>
   rw [hc, cond_true] at hs;rcases List.mem_append.1 hs with hs | hs
   ·exact h s hs
   ·rw [List.mem_singleton.1 hs]; exact hb f (.head _)) (fun g hg => hb g (.tail _ hg))
theorem Rw {v : VV} {x : AS} (h : x.2.2.1 = []) (s : List Int) (t : Int) : wO v x s t = (x, h00) := by unfold wO; rw [if_pos (.inl h)]
theorem N8 (v : VV) (x : AS) (s : List Int) (t : Int) : wO v x s t = (x, h00) \/
  wO v x s t = ((x.1, x.2.1, x.2.2.1, x.2.2.2.1, x.2.2.2.2.1, x.2.2.2.2.2.1, x.2.2.2.2.2.2.1, IntKind.u64.wrap (x.2.2.2.2.2.2.2.1 + 1), x.2.2.2.2.2.2.2.2), (1, x.2.2.1, x.2.2.2.1, XM, 0, 0)) \/
  (¬ x.2.2.1 = [] /\ (kF v s x.1.2.2).2 = 0 /\ (kF v s x.1.2.2).1.1.orig = x.2.2.2.2.1 /\
   (wO v x s t = ((x.1, x.2.1, [], [], 0, x.2.2.2.2.2.1, x.2.2.2.2.2.2.1, x.2.2.2.2.2.2.2.1, IntKind.u64.wrap (x.2.2.2.2.2.2.2.2 + 1)), (2, x.2.2.1, x.2.2.2.1, (kF v s x.1.2.2).1.1, 0, 0)) \/
    ∃ m, wO v x s t = ((x.1, sQ x.2.1 (kF v s x.1.2.2).1.2.2, [], [], 0, x.2.2.2.2.2.1, IntKind.u64.wrap (x.2.2.2.2.2.2.1 + 1), x.2.2.2.2.2.2.2.1, x.2.2.2.2.2.2.2.2), (3, x.2.2.1, x.2.2.2.1, (kF v s x.1.2.2).1.1, m)))) := by
 unfold wO;split
 ·exact .inl rfl
 ·rename_i h1;split
  ·split
   ·exact .inr (.inl rfl)
   ·exact .inl rfl
  ·split
   ·split
    ·exact .inl rfl
    ·rename_i h2;simp only [not_or, Decidable.not_not] at h2 h1;refine .inr (.inr ⟨h1.1, h2.1, h2.2.1, ?_⟩);split
     ·exact .inl rfl
     ·exact .inr ⟨_, rfl⟩
   ·exact .inl rfl
theorem Rx {v : VV} (hv : okV v) (hvb : vB v) {x : AS} (hx : UU x) {s again : List Int} (hs : Bs s) (hl : s.length < 9223372036854775808) (ha : Bs again) (hal : again.length < 9223372036854775808) (t : Int) : aV.run .lim (v, x, s, again, t, ()) = some true := by
 obtain ⟨r, er, hr⟩ := Xb hv hx hl;simp only [aV.run, er, Option.bind_some, aF hal, Bool.or_true, cond_true, P8];cases r with
 | false => rfl
 | true =>
  obtain ⟨hf, hfx, _⟩ := hr rfl;obtain ⟨hk, hj⟩ := P9 hfx;by_cases h4 : again.length > 4000
  ·rw [au (show (again.length : Int) > 4000 by omega)]; rfl
  rw [aA (show ¬ (again.length : Int) > 4000 by omega)];have he := P5 hv hf hvb hx hj.few hs hl t;have same : ∀ y : AS, y.2.1.length < 9223372036854775808 -> cu.run .lim (y, y, ()) = some true := fun y h => Jm h
  have tail : ∀ (y : AS) (j : List (List Int)) (a b c d : Int), y = (x.1, (j, ([], ([], (0, (a, (b, (c, d)))))))) -> Rn j -> (∀ s ∈ j, Bs s) -> dM.run .lim (y, ()) = some true /\ dI.run .lim (v, y, again, t, ()) = some (y, h00, ()) /\ cu.run .lim (y, y, ()) = some true := fun y j a b c d hy hj hb => by
   subst hy;have o := hx.crash hj hb a b c d;have h1 := Hz o;rw [N7 hfx hj] at h1;have h2 := P5 hv hf hvb o hj.few ha hal t;rw [Rw rfl] at h2;exact ⟨h1, h2, same _ o.j⟩
  have XQ : (kF v s x.1.2.2).2 = 0 -> ∀ z, (bif !v.1 then some true else aV.l0 .lim (s, v.2, (v.2.length : Int), 0, x.1.1, x.1.2.1, x.1.2.2, z) >>= fun g_ => match g_ with | .inl (t1, ()) => some t1 | .inr () => some false) = some true := fun h z => by
   rw [Xt hv hl];obtain ⟨b, xs⟩ := v;cases b with
   | false => rfl
   | true => rw [show ((true, xs) : VV).2 = xs from rfl, U9 h]; rfl
  rw [he];rcases N8 v x s t with e | e | ⟨hu, ho, hor, e | ⟨m, e⟩⟩
  ·have hal := Lr (x := h00) (by decide);simp only [Bool.not_true, Bool.or_self, cond_false, Option.bind_some, e, decide_true, cond_true, same x hx.j, hal, Bool.and_self]
  ·simp only [Bool.not_true, Bool.or_self, cond_false, Option.bind_some, e, aA (show ¬ (1 : Int) = 0 by decide), decide_true, cond_true, Bool.and_self, same (x.1, x.2.1, x.2.2.1, x.2.2.2.1, x.2.2.2.2.1, x.2.2.2.2.2.1, x.2.2.2.2.2.2.1, IntKind.u64.wrap (x.2.2.2.2.2.2.2.1 + 1), x.2.2.2.2.2.2.2.2) hx.j]
  ·obtain ⟨k1, k2, k3⟩ := tail _ x.2.1 x.2.2.2.2.2.1 x.2.2.2.2.2.2.1 x.2.2.2.2.2.2.2.1 (IntKind.u64.wrap (x.2.2.2.2.2.2.2.2 + 1)) rfl hj hx.jb;have hor : (kF v s x.1.2.2).1.1.2.2.2.2.2.2.2.2.2.2.1 = x.2.2.2.2.1 := hor;have vl := XQ ho;simp only [Bool.not_true, Bool.or_self, cond_false, Option.bind_some, e, aA (show ¬ (2 : Int) = 0 by decide), aA (show ¬ (2 : Int) = 1 by decide), decide_true, cond_true, aA hu, au hor, k1, k2, k3, aF hv.1, Bool.not_false];exact vl _
  ·obtain ⟨i1, i2⟩ := PZ hf hvb ho;obtain ⟨k1, k2, k3⟩ := tail _ (sQ x.2.1 (kF v s x.1.2.2).1.2.2) x.2.2.2.2.2.1 (IntKind.u64.wrap (x.2.2.2.2.2.2.1 + 1)) x.2.2.2.2.2.2.2.1 x.2.2.2.2.2.2.2.2 rfl (Ls hj) (P_ hx.jb fun f hf => (i2 f hf).b);have hor : (kF v s x.1.2.2).1.1.2.2.2.2.2.2.2.2.2.2.1 = x.2.2.2.2.1 := hor;have vl := XQ ho;simp only [Bool.not_true, Bool.or_self, cond_false, Option.bind_some, e, aA (show ¬ (3 : Int) = 0 by decide), aA (show ¬ (3 : Int) = 1 by decide), aA (show ¬ (3 : Int) = 2 by decide), decide_true, cond_true, aA hu, au hor, k1, k2, k3, aF hv.1, Bool.not_false];exact vl _
abbrev tyV : Ty := .pair .bool (.lst (.pair .str (.pair (.lst .str) (.pair .str .str))))
abbrev tyA : Ty := .pair (.pair (.int .i64) (.pair .str .str)) (.pair (.lst .str) (.pair .str (.pair .str (.pair (.int .u64) (.pair (.int .u64) (.pair (.int .u64) (.pair (.int .u64) (.int .u64))))))))
theorem a_ok {x : AS} (h : Ty.ok tyA x) : UU x := by
 obtain ⟨⟨_, h1, h2⟩, h3, h4, _⟩ := h;exact ⟨⟨y9 h1.1, y9 h2.1⟩, ⟨h1.2, h2.2⟩, y9 h3.1, fun s hs => y9 (h3.2 s hs).1, fun s hs => (h3.2 s hs).2, y9 h4.1⟩
theorem N9 : ∀ x, oks [.ag tyV, .ag tyA, .one .str, .one .str, .one (.int .u64)] x -> aV.run .lim x = some true := by
 intro x h
 match x with
 | (v, x, s, again, t, ()) =>
  obtain ⟨h1, h2, h3, h4, _⟩ := h;exact Rx (ok_v h1) (v_B h1) (a_ok h2) h3.2 (y9 h3.1) h4.2 (y9 h4.1) t
end Go.AM
end
