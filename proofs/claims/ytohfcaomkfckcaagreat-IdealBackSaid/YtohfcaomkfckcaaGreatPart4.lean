import Derived.Test.YtohfcaomkfckcaaGreatPart3

/-! The functions that the laws of this seat reach, as plain functions, and what these answer; no condition. -/
set_option linter.unusedSimpArgs false
set_option linter.unusedVariables false

section
namespace Go.AM
noncomputable def s2N (key : List Int) (l : List (List Int)) : Nat → List Int
 | 0 => cmS key z16
 | k + 1 => xorL (twS (s2N key l k)) (cmS key (rd [] l (k : Int)))
noncomputable def s2E (key d s : List Int) : List Int :=
 if s.length < 16 then cmS key (xorL (padS s) (twS d)) else cmS key (s.take (s.length - 16) ++ xorL (s.drop (s.length - 16)) d)
noncomputable def s2S (key : List Int) (l : List (List Int)) : List Int :=
 if l.length = 0 then cmS key (List.replicate 15 0 ++ [1]) else s2E key (s2N key l (l.length - 1)) (rd [] l ((l.length - 1 : Nat) : Int))
theorem s2N_ok (key : List Int) (l : List (List Int)) : ∀ k, Blk (s2N key l k)
 | 0 => cmS_ok _ _
 | k + 1 => ⟨by rw [s2N, xorL_len, (twS_ok _).1], xorL_B _ _⟩
theorem s2S_ok (key : List Int) (l : List (List Int)) : Blk (s2S key l) := by
 unfold s2S s2E
 split
 ·exact cmS_ok _ _
 ·split <;> exact cmS_ok _ _
theorem k1_blk (key : List Int) : Blk (k1S key) := twS_ok _
theorem sbegin_eq {key : List Int} (hk : key.length = 16 ∨ key.length = 32) (hkb : Bs key) : siv_begin.run .lim (key, ()) = some ((key, (k1S key, twS (k1S key))), 0, ()) := by
 have z := zeros_eq (n := 16) (by omega)
 have hz16 : (List.replicate 16 (0 : Int)).length = 16 := rfl
 have he := aencrypt_eq (key := key) (b := z16) (lim_of (by omega)) (by rw [hz16]; decide) hkb
 rw [encR_ok hk hz16] at he
 simp only [siv_begin.run]
 rw [show (16 : Int) = ((16 : Nat) : Int) from rfl, z]
 simp only [Option.bind_some, he, decide_true, Bool.not_true, cond_false, stwice_run (encS_ok key z16)]
 rw [show twS (encS key z16) = k1S key from rfl, stwice_run (k1_blk key)]
 rfl
section
variable {key : List Int}
theorem srow_eq {l : List (List Int)} (hk : key.length = 16 ∨ key.length = 32) (hkb : Bs key) (hl : l.length < lim63) (hs : ∀ s ∈ l, s.length < lim63) :
  siv_maker_row.run .lim ((key, (k1S key, twS (k1S key))), l, ()) = some (s2S key l) := by
 have hlim : l.length < 9223372036854775808 := hl
 simp only [siv_maker_row.run, smallN hlim, cond_true]
 unfold s2S
 by_cases h0 : l.length = 0
 ·rw [dec_t (show (l.length : Int) = 0 by omega), if_pos h0]
  have z := zeros_eq (n := 15) (by omega)
  simp only [cond_true]
  rw [show (15 : Int) = ((15 : Nat) : Int) from rfl, z]
  simp only [Option.bind_some]
  rw [cond_pos (by decide), stag_eq hk hkb (by decide)]
  rfl
 ·rw [dec_f (show ¬ (l.length : Int) = 0 by omega), if_neg h0]
  have z := zeros_eq (n := 16) (by omega)
  have w1 : IntKind.i64.wrap ((l.length : Int) - 1) = ((l.length - 1 : Nat) : Int) := by rw [wrap64 (by omega) (by omega)]; omega
  have hc : cut l 0 ((l.length - 1 : Nat) : Int) = l.take (l.length - 1) := by
   have := cutN l 0 (l.length - 1)
   rw [show ((0 : Nat) : Int) = 0 from rfl] at this
   rw [this, List.drop_zero, Nat.sub_zero]
  have htl : (l.take (l.length - 1)).length = l.length - 1 := by rw [List.length_take]; omega
  generalize hs1 : rd ([] : List Int) l ((l.length - 1 : Nat) : Int) = s
  have hsl : s.length < 9223372036854775808 := by rw [← hs1]; exact hs _ (rd_mem (by omega) (by omega))
  have hloop := loop_to (f := siv_maker_row.l0 .lim) (fun k => (s2N key l k, s, l.take (l.length - 1), ((l.length - 1 : Nat) : Int), (k : Int), key, k1S key, twS (k1S key), ())) (n := l.length - 1) (fun k hk' => by
   rw [siv_maker_row.q0]
   have hok := s2N_ok key l k
   have ht := stag_eq (key := key) (s := rd [] l (k : Int)) hk hkb (hs _ (rd_mem (by omega) (by omega)))
   have hx := sxor_eq (a := twS (s2N key l k)) (b := cmS key (rd [] l (k : Int))) (by rw [(twS_ok _).1, (cmS_ok _ _).1]; omega) (by rw [(cmS_ok _ _).1]; omega)
   simp only [siv_maker_row.b0, dec_t (show (k : Int) < ((l.length - 1 : Nat) : Int) by omega), htl, inB_t (show (0 : Int) ≤ k by omega) (show (k : Int) < ((l.length - 1 : Nat) : Int) by omega), rd_take (d := ([] : List Int)) (xs := l) hk', cond_true, stwice_run hok, Option.bind_some, ht, hx, wk k (by omega)]
   rfl)
  rw [show s2N key l 0 = cmS key z16 from rfl, show ((0 : Nat) : Int) = 0 from rfl] at hloop
  simp only [cond_false]
  rw [show (16 : Int) = ((16 : Nat) : Int) from rfl, z]
  simp only [Option.bind_some, stag_eq hk hkb (show (List.replicate 16 (0 : Int)).length < lim63 by decide), w1, inB_t (show (0 : Int) ≤ ((l.length - 1 : Nat) : Int) by omega) (show ((l.length - 1 : Nat) : Int) < (l.length : Int) by omega), cutB_t (Int.le_refl 0) (show (0 : Int) ≤ ((l.length - 1 : Nat) : Int) by omega) (show ((l.length - 1 : Nat) : Int) ≤ (l.length : Int) by omega), cond_true, hc, htl, smallN (show l.length - 1 < 9223372036854775808 by omega), hs1]
  rw [hloop, siv_maker_row.q0]
  simp only [siv_maker_row.b0, dec_f (show ¬ ((l.length - 1 : Nat) : Int) < ((l.length - 1 : Nat) : Int) by omega), cond_false, Option.bind_some, smallN hsl, cond_true]
  have w2 : IntKind.i64.wrap ((s.length : Int) - ((16 : Nat) : Int)) = (s.length : Int) - 16 := by rw [wrap64 (by omega) (by omega)]; omega
  rw [w2]
  have hd := s2N_ok key l (l.length - 1)
  unfold s2E
  by_cases h3 : s.length < 16
  ·rw [dec_f (show ¬ ((s.length : Int) - 16 ≥ 0) by omega), if_pos h3]
   have w15 : IntKind.i64.wrap (15 - (s.length : Int)) = ((15 - s.length : Nat) : Int) := by rw [wrap64 (by omega) (by omega)]; omega
   have hz := zeros_eq (n := 15 - s.length) (by omega)
   have hpad : (s ++ [128]) ++ List.replicate (15 - s.length) (0 : Int) = padS s := by unfold padS; simp
   have hx := sxor_eq (a := padS s) (b := twS (s2N key l (l.length - 1))) (by rw [padS_len h3, (twS_ok _).1]; omega) (by rw [(twS_ok _).1]; omega)
   simp only [cond_false]
   rw [cond_pos (dec_t (by unfold maxStr; simp; omega)), w15, hz]
   simp only [Option.bind_some]
   rw [cond_pos (dec_t (by unfold maxStr; simp; omega)), hpad]
   simp only [stwice_run hd, Option.bind_some, hx]
   rw [stag_eq hk hkb (by rw [xorL_len, padS_len h3]; decide)]
   rfl
  ·rw [dec_t (show (s.length : Int) - 16 ≥ 0 by omega), if_neg h3]
   have e16 : (s.length : Int) - 16 = ((s.length - 16 : Nat) : Int) := by omega
   have hc1 : cut s ((s.length - 16 : Nat) : Int) (s.length : Int) = s.drop (s.length - 16) := by
    rw [cutN, List.take_of_length_le (by rw [List.length_drop]; omega)]
   have hc2 : cut s 0 ((s.length - 16 : Nat) : Int) = s.take (s.length - 16) := by
    have := cutN s 0 (s.length - 16)
    rw [show ((0 : Nat) : Int) = 0 from rfl] at this
    rw [this, List.drop_zero, Nat.sub_zero]
   have hx := sxor_eq (a := s.drop (s.length - 16)) (b := s2N key l (l.length - 1)) (by rw [List.length_drop, hd.1]; omega) (by rw [hd.1]; omega)
   have htl2 : (s.take (s.length - 16) ++ xorL (s.drop (s.length - 16)) (s2N key l (l.length - 1))).length = s.length := by rw [List.length_append, xorL_len, List.length_take, List.length_drop]; omega
   simp only [e16, cond_true, cutB_t (Int.le_refl 0) (show (0 : Int) ≤ ((s.length - 16 : Nat) : Int) by omega) (show ((s.length - 16 : Nat) : Int) ≤ (s.length : Int) by omega), cutB_t (show (0 : Int) ≤ ((s.length - 16 : Nat) : Int) by omega) (show ((s.length - 16 : Nat) : Int) ≤ (s.length : Int) by omega) (Int.le_refl _), hc1, hc2, hx, Option.bind_some]
   rw [cond_pos (dec_t (by rw [xorL_len, List.length_take, List.length_drop]; unfold maxStr; omega)), stag_eq hk hkb (by rw [htl2]; exact hsl)]
   rfl
theorem rs2v_eq {l : List (List Int)} (hk : key.length = 16 ∨ key.length = 32) (hkb : Bs key) (hl : l.length ≤ 127) (hs : ∀ s ∈ l, s.length < lim63) :
  pendulumref10_S2v.run .lim (key, l, ()) = some (s2S key l, 0, ()) := by
 have hsz : pendulumref10_sized.run .lim (key, ()) = some true := by
  have hk63 : key.length < 9223372036854775808 := by omega
  simp only [pendulumref10_sized.run, smallN hk63, cond_true, Bool.or_true]
  rcases hk with h | h
  ·rw [dec_t (show (key.length : Int) = 16 by omega)]; rfl
  ·rw [dec_t (show (key.length : Int) = 32 by omega), Bool.or_true]
 simp only [pendulumref10_S2v.run, hsz, Option.bind_some, Bool.not_true, cond_false, smallN (show l.length < 9223372036854775808 by omega), cond_true, dec_f (show ¬ (l.length : Int) > 127 by omega)]
 unfold s2S
 by_cases h0 : l.length = 0
 ·rw [dec_t (show (l.length : Int) = 0 by omega), if_pos h0]
  have z := rzeros_eq (n := 15) (by omega)
  simp only [cond_true]
  rw [show (15 : Int) = ((15 : Nat) : Int) from rfl, z]
  simp only [Option.bind_some]
  rw [cond_pos (by decide), rcmac_eq hk hkb (by decide)]
  rfl
 ·rw [dec_f (show ¬ (l.length : Int) = 0 by omega), if_neg h0]
  have z := rzeros_eq (n := 16) (by omega)
  have w1 : IntKind.i64.wrap ((l.length : Int) - 1) = ((l.length - 1 : Nat) : Int) := by rw [wrap64 (by omega) (by omega)]; omega
  have hloop := loop_to (f := pendulumref10_S2v.l0 .lim) (fun k => (key, l, s2N key l k, (k : Int), ())) (n := l.length - 1) (fun k hk' => by
   rw [pendulumref10_S2v.q0]
   have hok := s2N_ok key l k
   have ht := rcmac_eq (key := key) (s := rd [] l (k : Int)) hk hkb (hs _ (rd_mem (by omega) (by omega)))
   have hx := rxor_run (a := twS (s2N key l k)) (b := cmS key (rd [] l (k : Int))) (by rw [(twS_ok _).1, (cmS_ok _ _).1]; omega) (by rw [(cmS_ok _ _).1]; omega)
   simp only [pendulumref10_S2v.b0, smallN (show l.length < 9223372036854775808 by omega), w1, dec_t (show (k : Int) < ((l.length - 1 : Nat) : Int) by omega), inB_t (show (0 : Int) ≤ k by omega) (show (k : Int) < (l.length : Int) by omega), cond_true, rtwice_eq hok, Option.bind_some, ht, hx, wk k (by omega)]
   rfl)
  rw [show s2N key l 0 = cmS key z16 from rfl, show ((0 : Nat) : Int) = 0 from rfl] at hloop
  simp only [cond_false]
  rw [show (16 : Int) = ((16 : Nat) : Int) from rfl, z]
  simp only [Option.bind_some, rcmac_eq hk hkb (show (List.replicate 16 (0 : Int)).length < lim63 by decide)]
  rw [hloop, pendulumref10_S2v.q0]
  generalize hs1 : rd ([] : List Int) l ((l.length - 1 : Nat) : Int) = s
  have hsl : s.length < 9223372036854775808 := by rw [← hs1]; exact hs _ (rd_mem (by omega) (by omega))
  simp only [pendulumref10_S2v.b0, smallN (show l.length < 9223372036854775808 by omega), w1, dec_f (show ¬ ((l.length - 1 : Nat) : Int) < ((l.length - 1 : Nat) : Int) by omega), cond_false, Option.bind_some, cond_true, inB_t (show (0 : Int) ≤ ((l.length - 1 : Nat) : Int) by omega) (show ((l.length - 1 : Nat) : Int) < (l.length : Int) by omega), hs1, smallN hsl]
  have w2 : IntKind.i64.wrap ((s.length : Int) - ((16 : Nat) : Int)) = (s.length : Int) - 16 := by rw [wrap64 (by omega) (by omega)]; omega
  rw [w2]
  have hd := s2N_ok key l (l.length - 1)
  unfold s2E
  by_cases h3 : s.length < 16
  ·rw [dec_t (show (s.length : Int) < ((16 : Nat) : Int) by omega), if_pos h3]
   have hx := rxor_run (a := twS (s2N key l (l.length - 1))) (b := padS s) (by rw [padS_len h3, (twS_ok _).1]; omega) (by rw [padS_len h3]; omega)
   rw [xorL_comm (by rw [padS_len h3, (twS_ok _).1])] at hx
   simp only [cond_true, rtwice_eq hd, rwhole_eq h3, Option.bind_some, hx]
   rw [rcmac_eq hk hkb (by rw [xorL_len, padS_len h3]; decide)]
   rfl
  ·rw [dec_f (show ¬ (s.length : Int) < ((16 : Nat) : Int) by omega), if_neg h3]
   have e16 : (s.length : Int) - 16 = ((s.length - 16 : Nat) : Int) := by omega
   have hc1 : cut s ((s.length - 16 : Nat) : Int) (s.length : Int) = s.drop (s.length - 16) := by
    rw [cutN, List.take_of_length_le (by rw [List.length_drop]; omega)]
   have hc2 : cut s 0 ((s.length - 16 : Nat) : Int) = s.take (s.length - 16) := by
    have := cutN s 0 (s.length - 16)
    rw [show ((0 : Nat) : Int) = 0 from rfl] at this
    rw [this, List.drop_zero, Nat.sub_zero]
   have hx := rxor_run (a := s.drop (s.length - 16)) (b := s2N key l (l.length - 1)) (by rw [List.length_drop, hd.1]; omega) (by rw [hd.1]; omega)
   have htl2 : (s.take (s.length - 16) ++ xorL (s.drop (s.length - 16)) (s2N key l (l.length - 1))).length = s.length := by rw [List.length_append, xorL_len, List.length_take, List.length_drop]; omega
   simp only [e16, cond_false, cutB_t (Int.le_refl 0) (show (0 : Int) ≤ ((s.length - 16 : Nat) : Int) by omega) (show ((s.length - 16 : Nat) : Int) ≤ (s.length : Int) by omega), cutB_t (show (0 : Int) ≤ ((s.length - 16 : Nat) : Int) by omega) (show ((s.length - 16 : Nat) : Int) ≤ (s.length : Int) by omega) (Int.le_refl _), cond_true, hc1, hc2, hx, Option.bind_some]
   rw [cond_pos (dec_t (by rw [xorL_len, List.length_take, List.length_drop]; unfold maxStr; omega)), rcmac_eq hk hkb (by rw [htl2]; exact hsl)]
   rfl
def maskV (v : List Int) : List Int := (v.set 8 (iand .u8 (rd 0 v 8) 127)).set 12 (iand .u8 (rd 0 (v.set 8 (iand .u8 (rd 0 v 8) 127)) 12) 127)
theorem maskV_len (v : List Int) : (maskV v).length = v.length := by simp [maskV]
noncomputable def strmS (key v s : List Int) : List Int := xorL s (strS key (maskV v) s.length)
theorem strmS_len (key v s : List Int) : (strmS key v s).length = s.length := xorL_len _ _
theorem strmS_B (key v s : List Int) : Bs (strmS key v s) := xorL_B _ _
theorem strmS_back (key v : List Int) {s : List Int} (h : Bs s) : strmS key v (strmS key v s) = s := by
 unfold strmS
 rw [xorL_len, xorL_back (by rw [strS_len]; omega) h]
theorem strR_ok {key v : List Int} {n : Nat} (hk : key.length = 16 ∨ key.length = 32) (hv : v.length = 16) (hn : n ≤ 65536) : strR key v (n : Int) = strS key v n := by
 unfold strR strE
 rw [if_neg (show ¬ ((n : Int) < 0 ∨ (n : Int) > 65536) by omega), if_pos hk, if_pos hv, if_pos rfl, Int.toNat_natCast]
theorem sstream_eq {v s : List Int} (hk : key.length = 16 ∨ key.length = 32) (hkb : Bs key) (hv : v.length = 16) (hs : s.length ≤ 65536) : siv_stream.run .lim (key, v, s, ()) = some (strmS key v s) := by
 have ha := astream_eq (key := key) (at_ := maskV v) (n := (s.length : Int)) (lim_of (by omega)) (by rw [maskV_len, hv]; decide) hkb
 rw [strR_ok hk (by rw [maskV_len, hv]) hs] at ha
 have hx := sxor_eq (a := s) (b := strS key (maskV v) s.length) (by rw [strS_len]; omega) (by rw [strS_len]; omega)
 unfold maskV at ha hx
 simp only [siv_stream.run, List.length_set, hv, inB_t (show (0 : Int) ≤ 8 by omega) (show (8 : Int) < ((16 : Nat) : Int) by omega), inB_t (show (0 : Int) ≤ 12 by omega) (show (12 : Int) < ((16 : Nat) : Int) by omega), smallN (show s.length < 9223372036854775808 by omega), cond_true, ha, Option.bind_some, hx]
 rfl
theorem rstreamed_eq {v s : List Int} (hk : key.length = 16 ∨ key.length = 32) (hkb : Bs key) (hv : v.length = 16) (hs : s.length ≤ 65536) : pendulumref10_streamed.run .lim (key, v, s, ()) = some (strmS key v s) := by
 have ha := rstream_eq (key := key) (at_ := maskV v) (n := (s.length : Int)) (lim_of (by omega)) (by rw [maskV_len, hv]; decide) hkb
 rw [strR_ok hk (by rw [maskV_len, hv]) hs] at ha
 have hx := rxor_run (a := s) (b := strS key (maskV v) s.length) (by rw [strS_len]; omega) (by rw [strS_len]; omega)
 unfold maskV at ha hx
 simp only [pendulumref10_streamed.run, List.length_set, hv, inB_t (show (0 : Int) ≤ 8 by omega) (show (8 : Int) < ((16 : Nat) : Int) by omega), inB_t (show (0 : Int) ≤ 12 by omega) (show (12 : Int) < ((16 : Nat) : Int) by omega), smallN (show s.length < 9223372036854775808 by omega), cond_true, ha, Option.bind_some, hx]
 rfl
abbrev half1 (key : List Int) : List Int := key.take (key.length / 2)
abbrev half2 (key : List Int) : List Int := key.drop (key.length / 2)
def sivE (key : List Int) (ad : List (List Int)) : Int := if key.length = 32 ∨ key.length = 64 then (if ad.length ≥ 127 then 18 else 0) else 13
noncomputable def sealS (key : List Int) (ad : List (List Int)) (plain : List Int) : List Int :=
 s2S (half1 key) (ad ++ [plain]) ++ strmS (half2 key) (s2S (half1 key) (ad ++ [plain])) plain
noncomputable def sealR (key : List Int) (ad : List (List Int)) (plain : List Int) : List Int × Int :=
 if sivE key ad = 0 then (if plain.length > 65536 then ([], 12) else (sealS key ad plain, 0)) else ([], sivE key ad)
noncomputable def openS (key sealed : List Int) : List Int := strmS (half2 key) (sealed.take 16) (sealed.drop 16)
noncomputable def openR (key : List Int) (ad : List (List Int)) (sealed : List Int) : List Int × Int :=
 if sivE key ad = 0 then (if sealed.length < 16 then ([], 11) else if sealed.length > 65552 then ([], 12) else
  if s2S (half1 key) (ad ++ [openS key sealed]) = sealed.take 16 then (openS key sealed, 0) else ([], 17)) else ([], sivE key ad)
theorem bs_take {s : List Int} (h : Bs s) (n : Nat) : Bs (s.take n) := fun x hx => h x (List.mem_of_mem_take hx)
theorem bs_drop {s : List Int} (h : Bs s) (n : Nat) : Bs (s.drop n) := fun x hx => h x (List.mem_of_mem_drop hx)
theorem halves_len {key : List Int} (h : key.length = 32 ∨ key.length = 64) : ((half1 key).length = 16 ∨ (half1 key).length = 32) ∧ ((half2 key).length = 16 ∨ (half2 key).length = 32) := by
 unfold half1 half2
 rw [List.length_take, List.length_drop]; omega
theorem shalves_eq {ad : List (List Int)} (hk : key.length < lim63) (hkb : Bs key) (ha : ad.length < lim63) :
  ∃ r r1, siv_halves.run .lim (key, ad, ()) = some (r, r1, sivE key ad, ()) ∧ (sivE key ad = 0 → r = (half1 key, (k1S (half1 key), twS (k1S (half1 key)))) ∧ r1 = half2 key) := by
 have hk63 : key.length < 9223372036854775808 := hk
 have ha63 : ad.length < 9223372036854775808 := ha
 have hd : (key.length : Int).tdiv 2 = ((key.length / 2 : Nat) : Int) := by rw [Int.tdiv_eq_ediv_of_nonneg (Int.natCast_nonneg _)]; simp
 have w1 : IntKind.i64.wrap ((key.length : Int).tdiv 2) = ((key.length / 2 : Nat) : Int) := by rw [hd, wrap64 (by omega) (by omega)]
 unfold sivE
 simp only [siv_halves.run, smallN hk63, smallN ha63, cond_true, Bool.or_true, w1]
 by_cases h1 : key.length = 32 ∨ key.length = 64
 ·have : (!decide ((key.length : Int) = 32) && !decide ((key.length : Int) = 64)) = false := by
   rcases h1 with h | h
   ·rw [dec_t (show (key.length : Int) = 32 by omega)]; rfl
   ·rw [dec_t (show (key.length : Int) = 64 by omega), Bool.not_true, Bool.and_false]
  rw [this, if_pos h1]
  simp only [cond_false]
  by_cases h2 : ad.length ≥ 127
  ·rw [dec_t (show (ad.length : Int) ≥ 127 by omega), if_pos h2]
   exact ⟨_, _, rfl, fun h => absurd h (by decide)⟩
  ·rw [dec_f (show ¬ (ad.length : Int) ≥ 127 by omega), if_neg h2]
   have hc1 : cut key 0 ((key.length / 2 : Nat) : Int) = half1 key := by
    have := cutN key 0 (key.length / 2)
    rw [show ((0 : Nat) : Int) = 0 from rfl] at this
    rw [this, List.drop_zero, Nat.sub_zero]
   have hc2 : cut key ((key.length / 2 : Nat) : Int) (key.length : Int) = half2 key := by
    rw [cutN, List.take_of_length_le (by rw [List.length_drop]; omega)]
   simp only [cond_false, cutB_t (Int.le_refl 0) (show (0 : Int) ≤ ((key.length / 2 : Nat) : Int) by omega) (show ((key.length / 2 : Nat) : Int) ≤ (key.length : Int) by omega), cutB_t (show (0 : Int) ≤ ((key.length / 2 : Nat) : Int) by omega) (show ((key.length / 2 : Nat) : Int) ≤ (key.length : Int) by omega) (Int.le_refl _), cond_true, hc1, hc2, sbegin_eq (halves_len h1).1 (bs_take hkb _), Option.bind_some]
   exact ⟨_, _, rfl, fun _ => ⟨rfl, rfl⟩⟩
 ·rw [dec_f (show ¬ (key.length : Int) = 32 by omega), dec_f (show ¬ (key.length : Int) = 64 by omega), if_neg h1]
  exact ⟨_, _, rfl, fun h => absurd h (by decide)⟩
theorem rrefused_eq {ad : List (List Int)} (hk : key.length < lim63) (ha : ad.length < lim63) : pendulumref10_refused.run .lim (key, ad, ()) = some (sivE key ad) := by
 have hk63 : key.length < 9223372036854775808 := hk
 have ha63 : ad.length < 9223372036854775808 := ha
 unfold sivE
 simp only [pendulumref10_refused.run, smallN hk63, smallN ha63, cond_true, Bool.or_true]
 by_cases h1 : key.length = 32 ∨ key.length = 64
 ·have : (!decide ((key.length : Int) = 32) && !decide ((key.length : Int) = 64)) = false := by
   rcases h1 with h | h
   ·rw [dec_t (show (key.length : Int) = 32 by omega)]; rfl
   ·rw [dec_t (show (key.length : Int) = 64 by omega), Bool.not_true, Bool.and_false]
  rw [this, if_pos h1]
  by_cases h2 : ad.length ≥ 127
  ·rw [dec_t (show (ad.length : Int) ≥ 127 by omega), if_pos h2]; rfl
  ·rw [dec_f (show ¬ (ad.length : Int) ≥ 127 by omega), if_neg h2]; rfl
 ·rw [dec_f (show ¬ (key.length : Int) = 32 by omega), dec_f (show ¬ (key.length : Int) = 64 by omega), if_neg h1]; rfl
theorem sivE_zero {ad : List (List Int)} (h : sivE key ad = 0) : (key.length = 32 ∨ key.length = 64) ∧ ad.length < 127 := by
 unfold sivE at h
 split at h
 ·split at h
  ·exact absurd h (by decide)
  ·exact ⟨by assumption, by omega⟩
 ·exact absurd h (by decide)
theorem clone_eq {ad : List (List Int)} (h : ad.length < 4398046511104) : slices_Clone_string_string.run .lim (ad, ()) = some ad := by
 simp only [slices_Clone_string_string.run]
 rw [cond_pos (dec_t (by simpa using h)), List.nil_append]
theorem sseal_eq {ad : List (List Int)} {plain : List Int} (hk : key.length < lim63) (hkb : Bs key) (ha : ad.length < lim63) (had : ∀ s ∈ ad, s.length < lim63) (hp : plain.length < lim63) :
  siv_Seal.run .lim (key, ad, plain, ()) = some ((sealR key ad plain).1, (sealR key ad plain).2, ()) := by
 obtain ⟨r, r1, e, hz⟩ := shalves_eq hk hkb ha
 have hp63 : plain.length < 9223372036854775808 := hp
 unfold sealR
 simp only [siv_Seal.run, e, Option.bind_some, smallN hp63, cond_true]
 by_cases h0 : sivE key ad = 0
 ·obtain ⟨rfl, rfl⟩ := hz h0
  obtain ⟨h1, h2⟩ := sivE_zero h0
  obtain ⟨g1, g2⟩ := halves_len h1
  rw [dec_t h0, if_pos h0]
  simp only [Bool.not_true, cond_false]
  by_cases h3 : plain.length > 65536
  ·rw [dec_t (show (plain.length : Int) > 65536 by omega), if_pos h3]; rfl
  ·rw [dec_f (show ¬ (plain.length : Int) > 65536 by omega), if_neg h3]
   have hall : ∀ s ∈ ad ++ [plain], s.length < lim63 := fun s hs => by
    rcases List.mem_append.1 hs with hs | hs
    ·exact had s hs
    ·rw [List.mem_singleton.1 hs]; exact hp
   have hv := (s2S_ok (half1 key) (ad ++ [plain])).1
   simp only [cond_false, clone_eq (show ad.length < 4398046511104 by omega), Option.bind_some]
   rw [cond_pos (dec_t (by simp; omega)), srow_eq g1 (bs_take hkb _) (lim_of (by simp; omega)) hall]
   simp only [Option.bind_some, sstream_eq g2 (bs_drop hkb _) hv (show plain.length ≤ 65536 by omega)]
   rw [cond_pos (dec_t (by rw [hv, strmS_len]; unfold maxStr; omega))]
   rfl
 ·rw [dec_f h0, if_neg h0]
  rfl
theorem rtag_eq {ad : List (List Int)} {plain : List Int} (hk : key.length = 16 ∨ key.length = 32) (hkb : Bs key) (ha : ad.length < 127) (hs : ∀ s ∈ ad ++ [plain], s.length < lim63) : pendulumref10_tag.run .lim (key, ad, plain, ()) = some (s2S key (ad ++ [plain])) := by
 simp only [pendulumref10_tag.run]
 rw [cond_pos (dec_t (by omega)), cond_pos (dec_t (by simp; omega)), rs2v_eq hk hkb (by simp; omega) hs]
 rfl
theorem rseal_eq {ad : List (List Int)} {plain : List Int} (hk : key.length < lim63) (hkb : Bs key) (ha : ad.length < lim63) (had : ∀ s ∈ ad, s.length < lim63) (hp : plain.length < lim63) :
  pendulumref10_Seal.run .lim (key, ad, plain, ()) = some ((sealR key ad plain).1, (sealR key ad plain).2, ()) := by
 have hp63 : plain.length < 9223372036854775808 := hp
 have hk63 : key.length < 9223372036854775808 := hk
 have hd : (key.length : Int).tdiv 2 = ((key.length / 2 : Nat) : Int) := by rw [Int.tdiv_eq_ediv_of_nonneg (Int.natCast_nonneg _)]; simp
 have w1 : IntKind.i64.wrap ((key.length : Int).tdiv 2) = ((key.length / 2 : Nat) : Int) := by rw [hd, wrap64 (by omega) (by omega)]
 unfold sealR
 simp only [pendulumref10_Seal.run, rrefused_eq hk ha, Option.bind_some, smallN hp63, smallN hk63, cond_true, w1]
 by_cases h0 : sivE key ad = 0
 ·obtain ⟨h1, h2⟩ := sivE_zero h0
  obtain ⟨g1, g2⟩ := halves_len h1
  rw [dec_t h0, if_pos h0]
  simp only [Bool.not_true, cond_false]
  by_cases h3 : plain.length > 65536
  ·rw [dec_t (show (plain.length : Int) > 65536 by omega), if_pos h3]; rfl
  ·rw [dec_f (show ¬ (plain.length : Int) > 65536 by omega), if_neg h3]
   have hall : ∀ s ∈ ad ++ [plain], s.length < lim63 := fun s hs => by
    rcases List.mem_append.1 hs with hs | hs
    ·exact had s hs
    ·rw [List.mem_singleton.1 hs]; exact hp
   have hc1 : cut key 0 ((key.length / 2 : Nat) : Int) = half1 key := by
    have := cutN key 0 (key.length / 2)
    rw [show ((0 : Nat) : Int) = 0 from rfl] at this
    rw [this, List.drop_zero, Nat.sub_zero]
   have hc2 : cut key ((key.length / 2 : Nat) : Int) (key.length : Int) = half2 key := by
    rw [cutN, List.take_of_length_le (by rw [List.length_drop]; omega)]
   have hv := (s2S_ok (half1 key) (ad ++ [plain])).1
   simp only [cond_false, cutB_t (Int.le_refl 0) (show (0 : Int) ≤ ((key.length / 2 : Nat) : Int) by omega) (show ((key.length / 2 : Nat) : Int) ≤ (key.length : Int) by omega), cutB_t (show (0 : Int) ≤ ((key.length / 2 : Nat) : Int) by omega) (show ((key.length / 2 : Nat) : Int) ≤ (key.length : Int) by omega) (Int.le_refl _), cond_true, hc1, hc2, rtag_eq g1 (bs_take hkb _) h2 hall, Option.bind_some, rstreamed_eq g2 (bs_drop hkb _) hv (show plain.length ≤ 65536 by omega)]
   rw [cond_pos (dec_t (by rw [hv, strmS_len]; unfold maxStr; omega))]
   rfl
 ·rw [dec_f h0, if_neg h0]
  rfl
theorem xorL_zero {a b : List Int} (h : a.length = b.length) (ha : Bs a) (hb : Bs b) : xorL a b = List.replicate a.length 0 ↔ b = a := by
 constructor
 ·intro e
  refine (rd_ext (d := 0) h.symm fun k hk => ?_)
  have h1 : rd 0 (xorL a b) (k : Int) = 0 := by
   rw [e, rd_ix (by simp; omega)]; simp
  rw [rd_xorL (by omega)] at h1
  have := xor_assoc (rd 0 a (k : Int)) (rd 0 b (k : Int)) (rd 0 b (k : Int))
  rw [h1, xor_self, zero_xor (hb _ (rd_mem (by omega) (by omega))), xor_zero (ha _ (rd_mem (by omega) (by omega)))] at this
  exact this
 ·rintro rfl
  refine rd_ext (d := 0) (by simp) fun k hk => ?_
  rw [xorL_len] at hk
  rw [rd_xorL hk, xor_self, rd_ix (by simpa using hk)]; simp
theorem sopen_eq {ad : List (List Int)} {sealed : List Int} (hk : key.length < lim63) (hkb : Bs key) (ha : ad.length < lim63) (had : ∀ s ∈ ad, s.length < lim63) (hp : sealed.length < lim63) (hpb : Bs sealed) :
  siv_Open.run .lim (key, ad, sealed, ()) = some ((openR key ad sealed).1, (openR key ad sealed).2, ()) := by
 obtain ⟨r, r1, e, hz⟩ := shalves_eq hk hkb ha
 have hp63 : sealed.length < 9223372036854775808 := hp
 unfold openR
 simp only [siv_Open.run, e, Option.bind_some, smallN hp63, cond_true]
 by_cases h0 : sivE key ad = 0
 ·obtain ⟨rfl, rfl⟩ := hz h0
  obtain ⟨h1, h2⟩ := sivE_zero h0
  obtain ⟨g1, g2⟩ := halves_len h1
  rw [dec_t h0, if_pos h0]
  simp only [Bool.not_true, cond_false]
  by_cases h3 : sealed.length < 16
  ·rw [dec_t (show (sealed.length : Int) < 16 by omega), if_pos h3]; rfl
  ·rw [dec_f (show ¬ (sealed.length : Int) < 16 by omega), if_neg h3]
   simp only [cond_false]
   by_cases h4 : sealed.length > 65552
   ·rw [dec_t (show (sealed.length : Int) > 65552 by omega), if_pos h4]; rfl
   ·rw [dec_f (show ¬ (sealed.length : Int) > 65552 by omega), if_neg h4]
    have hc1 : cut sealed 0 16 = sealed.take 16 := by
     have := cutN sealed 0 16
     simpa using this
    have hc2 : cut sealed 16 (sealed.length : Int) = sealed.drop 16 := by
     have := cutN sealed 16 sealed.length
     rw [show ((16 : Nat) : Int) = 16 from rfl] at this
     rw [this, List.take_of_length_le (by rw [List.length_drop]; omega)]
    have ht : (sealed.take 16).length = 16 := by rw [List.length_take]; omega
    have hdl : (sealed.drop 16).length = sealed.length - 16 := List.length_drop
    have hol : (openS key sealed).length = sealed.length - 16 := by unfold openS; rw [strmS_len, hdl]
    have hall : ∀ s ∈ ad ++ [openS key sealed], s.length < lim63 := fun s hs => by
     rcases List.mem_append.1 hs with hs | hs
     ·exact had s hs
     ·rw [List.mem_singleton.1 hs, hol]; exact lim_of (by omega)
    have hv := s2S_ok (half1 key) (ad ++ [openS key sealed])
    have z := zeros_eq (n := 16) (by omega)
    have hx := sxor_eq (a := sealed.take 16) (b := s2S (half1 key) (ad ++ [openS key sealed])) (by rw [ht, hv.1]; omega) (by rw [hv.1]; omega)
    have hst := sstream_eq (v := sealed.take 16) (s := sealed.drop 16) g2 (bs_drop hkb _) ht (by omega)
    rw [show strmS (half2 key) (sealed.take 16) (sealed.drop 16) = openS key sealed from rfl] at hst
    simp only [cond_false, cutB_t (Int.le_refl 0) (show (0 : Int) ≤ 16 by omega) (show (16 : Int) ≤ (sealed.length : Int) by omega), cutB_t (show (0 : Int) ≤ 16 by omega) (show (16 : Int) ≤ (sealed.length : Int) by omega) (Int.le_refl _), cond_true, hc1, hc2, hst, Option.bind_some, clone_eq (show ad.length < 4398046511104 by omega)]
    rw [cond_pos (dec_t (by simp; omega)), srow_eq g1 (bs_take hkb _) (lim_of (by simp; omega)) hall]
    simp only [Option.bind_some, hx]
    rw [show (16 : Int) = ((16 : Nat) : Int) from rfl, z]
    simp only [Option.bind_some]
    have hiff := xorL_zero (a := sealed.take 16) (b := s2S (half1 key) (ad ++ [openS key sealed])) (by rw [ht, hv.1]) (bs_take hpb _) hv.2
    rw [ht] at hiff
    by_cases h5 : s2S (half1 key) (ad ++ [openS key sealed]) = sealed.take 16
    ·rw [dec_t (hiff.2 h5), if_pos h5]; rfl
    ·rw [dec_f (fun q => h5 (hiff.1 q)), if_neg h5]; rfl
 ·rw [dec_f h0, if_neg h0]
  rfl
theorem ropen_eq {ad : List (List Int)} {sealed : List Int} (hk : key.length < lim63) (hkb : Bs key) (ha : ad.length < lim63) (had : ∀ s ∈ ad, s.length < lim63) (hp : sealed.length < lim63) :
  pendulumref10_Open.run .lim (key, ad, sealed, ()) = some ((openR key ad sealed).1, (openR key ad sealed).2, ()) := by
 have hp63 : sealed.length < 9223372036854775808 := hp
 have hk63 : key.length < 9223372036854775808 := hk
 have hd : (key.length : Int).tdiv 2 = ((key.length / 2 : Nat) : Int) := by rw [Int.tdiv_eq_ediv_of_nonneg (Int.natCast_nonneg _)]; simp
 have w1 : IntKind.i64.wrap ((key.length : Int).tdiv 2) = ((key.length / 2 : Nat) : Int) := by rw [hd, wrap64 (by omega) (by omega)]
 unfold openR
 simp only [pendulumref10_Open.run, rrefused_eq hk ha, Option.bind_some, smallN hp63, smallN hk63, cond_true, w1]
 by_cases h0 : sivE key ad = 0
 ·obtain ⟨h1, h2⟩ := sivE_zero h0
  obtain ⟨g1, g2⟩ := halves_len h1
  rw [dec_t h0, if_pos h0]
  simp only [Bool.not_true, cond_false]
  by_cases h3 : sealed.length < 16
  ·rw [dec_t (show (sealed.length : Int) < 16 by omega), if_pos h3]; rfl
  ·rw [dec_f (show ¬ (sealed.length : Int) < 16 by omega), if_neg h3]
   simp only [cond_false]
   by_cases h4 : sealed.length > 65552
   ·rw [dec_t (show (sealed.length : Int) > 65552 by omega), if_pos h4]; rfl
   ·rw [dec_f (show ¬ (sealed.length : Int) > 65552 by omega), if_neg h4]
    have hc1 : cut sealed 0 16 = sealed.take 16 := by
     have := cutN sealed 0 16
     simpa using this
    have hc2 : cut sealed 16 (sealed.length : Int) = sealed.drop 16 := by
     have := cutN sealed 16 sealed.length
     rw [show ((16 : Nat) : Int) = 16 from rfl] at this
     rw [this, List.take_of_length_le (by rw [List.length_drop]; omega)]
    have hc3 : cut key 0 ((key.length / 2 : Nat) : Int) = half1 key := by
     have := cutN key 0 (key.length / 2)
     rw [show ((0 : Nat) : Int) = 0 from rfl] at this
     rw [this, List.drop_zero, Nat.sub_zero]
    have hc4 : cut key ((key.length / 2 : Nat) : Int) (key.length : Int) = half2 key := by
     rw [cutN, List.take_of_length_le (by rw [List.length_drop]; omega)]
    have ht : (sealed.take 16).length = 16 := by rw [List.length_take]; omega
    have hdl : (sealed.drop 16).length = sealed.length - 16 := List.length_drop
    have hol : (openS key sealed).length = sealed.length - 16 := by unfold openS; rw [strmS_len, hdl]
    have hall : ∀ s ∈ ad ++ [openS key sealed], s.length < lim63 := fun s hs => by
     rcases List.mem_append.1 hs with hs | hs
     ·exact had s hs
     ·rw [List.mem_singleton.1 hs, hol]; exact lim_of (by omega)
    have hst := rstreamed_eq (v := sealed.take 16) (s := sealed.drop 16) g2 (bs_drop hkb _) ht (by omega)
    rw [show strmS (half2 key) (sealed.take 16) (sealed.drop 16) = openS key sealed from rfl] at hst
    simp only [cond_false, cutB_t (Int.le_refl 0) (show (0 : Int) ≤ 16 by omega) (show (16 : Int) ≤ (sealed.length : Int) by omega), cutB_t (show (0 : Int) ≤ 16 by omega) (show (16 : Int) ≤ (sealed.length : Int) by omega) (Int.le_refl _), cutB_t (Int.le_refl 0) (show (0 : Int) ≤ ((key.length / 2 : Nat) : Int) by omega) (show ((key.length / 2 : Nat) : Int) ≤ (key.length : Int) by omega), cutB_t (show (0 : Int) ≤ ((key.length / 2 : Nat) : Int) by omega) (show ((key.length / 2 : Nat) : Int) ≤ (key.length : Int) by omega) (Int.le_refl _), cond_true, hc1, hc2, hc3, hc4, hst, Option.bind_some, rtag_eq g1 (bs_take hkb _) h2 hall]
    by_cases h5 : s2S (half1 key) (ad ++ [openS key sealed]) = sealed.take 16
    ·rw [dec_t h5, if_pos h5]; rfl
    ·rw [dec_f h5, if_neg h5]; rfl
 ·rw [dec_f h0, if_neg h0]
  rfl
end
theorem open_seal {key : List Int} {ad : List (List Int)} {plain : List Int} (h0 : sivE key ad = 0) (hp : plain.length ≤ 65536) (hpb : Bs plain) : openR key ad (sealS key ad plain) = (plain, 0) := by
 have hv := s2S_ok (half1 key) (ad ++ [plain])
 have ht : (sealS key ad plain).take 16 = s2S (half1 key) (ad ++ [plain]) := by
  unfold sealS; rw [List.take_append_of_le_length (by rw [hv.1]; omega), List.take_of_length_le (by rw [hv.1]; omega)]
 have hd : (sealS key ad plain).drop 16 = strmS (half2 key) (s2S (half1 key) (ad ++ [plain])) plain := by
  unfold sealS; rw [List.drop_append_of_le_length (by rw [hv.1]; omega), List.drop_of_length_le (by rw [hv.1]; omega), List.nil_append]
 have hl : (sealS key ad plain).length = plain.length + 16 := by unfold sealS; rw [List.length_append, hv.1, strmS_len]; omega
 have ho : openS key (sealS key ad plain) = plain := by unfold openS; rw [ht, hd, strmS_back _ _ hpb]
 unfold openR
 rw [if_pos h0, if_neg (by omega), if_neg (by omega), ho, ht, if_pos rfl]
theorem sealS_len (key : List Int) (ad : List (List Int)) (plain : List Int) : (sealS key ad plain).length = plain.length + 16 := by
 unfold sealS; rw [List.length_append, (s2S_ok _ _).1, strmS_len]; omega
theorem sealS_B (key : List Int) (ad : List (List Int)) (plain : List Int) : Bs (sealS key ad plain) := fun x h => by
 unfold sealS at h
 rcases List.mem_append.1 h with h | h
 ·exact (s2S_ok _ _).2 x h
 ·exact strmS_B _ _ _ x h
end Go.AM
end
section
namespace Go.AM
def sealE (key : List Int) (ad : List (List Int)) (n : Nat) : Int := if refE (key, ad, [], []) = 0 then (if n > 65536 then 12 else 0) else refE (key, ad, [], [])
theorem refE_eq (key : List Int) (ad : List (List Int)) (p t : List Int) : refE (key, ad, p, t) = refE (key, ad, [], []) := rfl
noncomputable def sealI (xs : List KK) (key : List Int) (ad : List (List Int)) (plain : List Int) : List KK × List Int × Int :=
 if sealE key ad plain.length = 0 then
  match (List.range xs.length).find? (fun j : Nat => alk (rd k0 xs (j : Int)) (key, ad, plain, [])) with
  | some k => (xs, (rd k0 xs (k : Int)).2.2.2, 0)
  | none => if xs.length ≥ 2048 then (xs, [], 18) else (xs ++ [(key, ad, plain, txt (xs.length + 1) plain)], txt (xs.length + 1) plain, 0)
 else (xs, [], sealE key ad plain.length)
noncomputable def openI (xs : List KK) (key : List Int) (ad : List (List Int)) (t : List Int) : List Int × Int :=
 if refE (key, ad, [], []) = 0 then (if t.length < 16 then ([], 11) else if t.length > 65552 then ([], 12) else
  match (List.range xs.length).find? (fun j : Nat => hit key ad t (rd k0 xs (j : Int))) with
  | some k => ((rd k0 xs (k : Int)).2.2.1, 0)
  | none => ([], 17)) else ([], refE (key, ad, [], []))
noncomputable def sealV (v : VV) (key : List Int) (ad : List (List Int)) (plain : List Int) : VV × List Int × Int :=
 bif v.1 then ((true, (sealI v.2 key ad plain).1), (sealI v.2 key ad plain).2) else (v, sealR key ad plain)
noncomputable def openV' (v : VV) (key : List Int) (ad : List (List Int)) (t : List Int) : List Int × Int := bif v.1 then openI v.2 key ad t else openR key ad t
structure Txts (key : List Int) (ad : List (List Int)) (s : List Int) : Prop where
 k : key.length < lim63
 kb : Bs key
 a : ad.length < lim63
 al : ∀ t ∈ ad, t.length < lim63
 s : s.length < lim63
theorem refE_siv (key : List Int) (ad : List (List Int)) : sivE key ad = refE (key, ad, [], []) := by
 show _ = if key.length ≠ 32 ∧ key.length ≠ 64 then 13 else if ad.length > 126 then 18 else 0
 unfold sivE
 by_cases h : key.length = 32 ∨ key.length = 64
 ·rw [if_pos h, if_neg (show ¬ (key.length ≠ 32 ∧ key.length ≠ 64) by omega)]
  by_cases h2 : ad.length ≥ 127
  ·rw [if_pos h2, if_pos (show ad.length > 126 by omega)]
  ·rw [if_neg h2, if_neg (show ¬ ad.length > 126 by omega)]
 ·rw [if_neg h, if_pos (show key.length ≠ 32 ∧ key.length ≠ 64 by omega)]
theorem cloneK_eq {xs : List KK} (h : xs.length < 2048) : slices_Clone_api_Kept_api_Kept.run .lim (xs, ()) = some xs := by
 simp only [slices_Clone_api_Kept_api_Kept.run]
 rw [cond_pos (dec_t (by simp; omega)), List.nil_append]
theorem seal_find (xs : List KK) (key : List Int) (ad : List (List Int)) (plain : List Int) (b : Bool) (hx : xs.length < lim63) (hok : ∀ k ∈ xs, okK k) (ha : ad.length < lim63) :
  ideal_Seal.l0 .lim (xs, (xs.length : Int), 0, key, ad, plain, [], xs, b, xs, false, ()) = match (List.range xs.length).find? (fun j : Nat => alk (rd k0 xs (j : Int)) (key, ad, plain, [])) with
   | some k => some (.inl ((k : Int), xs, key, ad, plain, [], b, xs, false, ()))
   | none => some (.inr (xs, key, ad, plain, [], b, xs, false, ())) := by
 have hx63 : xs.length < 9223372036854775808 := hx
 have e := loop_first (f := ideal_Seal.l0 .lim) (fun k => (xs, (xs.length : Int), (k : Int), key, ad, plain, [], xs, b, xs, false, ())) xs.length (fun j : Nat => alk (rd k0 xs (j : Int)) (key, ad, plain, [])) (fun k => some (.inl ((k : Int), xs, key, ad, plain, [], b, xs, false, ()))) (fun k hk => by
  rw [ideal_Seal.q0]
  have hm : okK (rd k0 xs k) := hok _ (rd_mem (by omega) (by omega))
  simp only [ideal_Seal.b0, alike_eq (rd k0 xs k) (key, ad, plain, []) hm.2.1 ha, wk k (by omega), dec_t (show (k : Int) < (xs.length : Int) by omega), inB_t (show (0 : Int) ≤ k by omega) (show (k : Int) < (xs.length : Int) by omega), cond_true, Option.bind_some])
 rw [show ((0 : Nat) : Int) = 0 from rfl] at e
 rw [e]
 cases (List.range xs.length).find? (fun j : Nat => alk (rd k0 xs (j : Int)) (key, ad, plain, [])) with
 | some k => rfl
 | none =>
  simp only
  rw [ideal_Seal.q0]
  simp only [ideal_Seal.b0, dec_f (show ¬ (xs.length : Int) < (xs.length : Int) by omega), cond_false]
theorem seal_eq {v : VV} (hv : okV v) (hf : fitV v = true) {key : List Int} {ad : List (List Int)} {plain : List Int} (T : Txts key ad plain) :
  ideal_Seal.run .lim (v, key, ad, plain, ()) = some ((sealV v key ad plain).1, (sealV v key ad plain).2.1, (sealV v key ad plain).2.2, ()) := by
 obtain ⟨b, xs⟩ := v
 have hx : xs.length < lim63 := hv.1
 have hp63 : plain.length < 9223372036854775808 := T.s
 have hx63 : xs.length < 9223372036854775808 := hx
 unfold sealV
 cases b with
 | false =>
  have hn : xs = [] := by
   unfold fitV at hf
   simpa using hf
  subst hn
  have hs := sseal_eq T.k T.kb T.a T.al T.s
  simp only [ideal_Seal.run, ideal_truth_seal.run, hs, Option.bind_some, cond_false]
  unfold sealR
  by_cases h0 : sivE key ad = 0
  ·rw [if_pos h0]
   by_cases h1 : plain.length > 65536
   ·rw [if_pos h1]; rfl
   ·rw [if_neg h1]; rfl
  ·rw [if_neg h0, dec_f h0]; rfl
 | true =>
  have hr := refused_eq (key, ad, plain, []) T.k T.a
  rw [refE_eq] at hr
  have hf' := seal_find xs key ad plain true hx hv.2 T.a
  simp only [ideal_Seal.run, hr, Option.bind_some, smallN hp63, smallN hx63, cond_true, hf']
  unfold sealI sealE
  by_cases h0 : refE (key, ad, [], []) = 0
  ·rw [dec_t h0, if_pos h0]
   simp only [Bool.not_true, cond_false]
   by_cases h1 : plain.length > 65536
   ·rw [dec_t (show (plain.length : Int) > 65536 by omega), if_pos h1, if_neg (by decide)]; rfl
   ·rw [dec_f (show ¬ (plain.length : Int) > 65536 by omega), if_neg h1, if_pos rfl]
    simp only [cond_false]
    cases hq : (List.range xs.length).find? (fun j : Nat => alk (rd k0 xs (j : Int)) (key, ad, plain, [])) with
    | some k =>
     have hk : k < xs.length := List.mem_range.1 (List.mem_of_find?_eq_some hq)
     simp only [Option.bind_some]
     rw [cond_pos (dec_t (by omega)), cond_pos (inB_t (by omega) (by omega))]
    | none =>
     simp only [Option.bind_some, smallN hx63, cond_true]
     by_cases h2 : xs.length ≥ 2048
     ·rw [dec_t (show (xs.length : Int) ≥ 2048 by omega), if_pos h2]; rfl
     ·rw [dec_f (show ¬ (xs.length : Int) ≥ 2048 by omega), if_neg h2]
      have ha126 : ad.length ≤ 126 := by
       have := sivE_zero (key := key) (ad := ad) (by rw [refE_siv]; exact h0)
       omega
      have w1 : IntKind.i64.wrap ((xs.length : Int) + 1) = (xs.length : Int) + 1 := wrap64 (by omega) (by omega)
      simp only [cond_false, clone_eq (show ad.length < 4398046511104 by omega), Option.bind_some, w1, number_eq ((xs.length : Int) + 1) plain (by omega) (by omega) (by omega), cloneK_eq (show xs.length < 2048 by omega)]
      rw [cond_pos (dec_t (by simp; omega))]
  ·rw [dec_f h0, if_neg h0, if_neg h0]; rfl
theorem rseal_find (xs : List KK) (key : List Int) (ad : List (List Int)) (plain : List Int) (hx : xs.length < lim63) (hok : ∀ k ∈ xs, okK k) (ha : ad.length < lim63) :
  pendulumref22_Seal.l0 .lim (plain, 0, true, xs, false, key, plain, [], ad, ()) = match (List.range xs.length).find? (fun j : Nat => alk (rd k0 xs (j : Int)) (key, ad, plain, [])) with
   | some k => some (.inl ((rd k0 xs (k : Int)).2.2.2, 0, true, xs, ()))
   | none => some (.inr (plain, true, xs, false, key, plain, [], ad, ())) := by
 have hx63 : xs.length < 9223372036854775808 := hx
 have e := loop_first (f := pendulumref22_Seal.l0 .lim) (fun k => (plain, (k : Int), true, xs, false, key, plain, [], ad, ())) xs.length (fun j : Nat => alk (rd k0 xs (j : Int)) (key, ad, plain, [])) (fun k => some (.inl ((rd k0 xs (k : Int)).2.2.2, 0, true, xs, ()))) (fun k hk => by
  rw [pendulumref22_Seal.q0]
  have hm : okK (rd k0 xs k) := hok _ (rd_mem (by omega) (by omega))
  have hr := ralike_eq (key, ad, plain, []) (rd k0 xs k) ha hm.2.1
  rw [alk_symm] at hr
  simp only [pendulumref22_Seal.b0, smallN hx63, hr, wk k (by omega), dec_t (show (k : Int) < (xs.length : Int) by omega), inB_t (show (0 : Int) ≤ k by omega) (show (k : Int) < (xs.length : Int) by omega), cond_true, Option.bind_some])
 rw [show ((0 : Nat) : Int) = 0 from rfl] at e
 rw [e]
 cases (List.range xs.length).find? (fun j : Nat => alk (rd k0 xs (j : Int)) (key, ad, plain, [])) with
 | some k => rfl
 | none =>
  simp only
  rw [pendulumref22_Seal.q0]
  simp only [pendulumref22_Seal.b0, smallN hx63, dec_f (show ¬ (xs.length : Int) < (xs.length : Int) by omega), cond_false, cond_true]
theorem rrefused22_eq {key : List Int} {ad : List (List Int)} (hk : key.length < lim63) (ha : ad.length < lim63) (n : Nat) : pendulumref22_refused.run .lim (key, ad, (n : Int), ()) = some (sealE key ad n) := by
 have hk63 : key.length < 9223372036854775808 := hk
 have ha63 : ad.length < 9223372036854775808 := ha
 unfold sealE refE
 simp only [pendulumref22_refused.run, smallN hk63, smallN ha63, cond_true, Bool.or_true]
 by_cases h1 : key.length ≠ 32 ∧ key.length ≠ 64
 ·rw [if_pos h1, dec_f (show ¬ (key.length : Int) = 32 by omega), dec_f (show ¬ (key.length : Int) = 64 by omega)]; rfl
 ·rw [if_neg h1]
  have : (!decide ((key.length : Int) = 32) && !decide ((key.length : Int) = 64)) = false := by
   by_cases h : key.length = 32
   ·rw [dec_t (show (key.length : Int) = 32 by omega)]; rfl
   ·rw [dec_t (show (key.length : Int) = 64 by omega), Bool.not_true, Bool.and_false]
  rw [this]
  by_cases h2 : ad.length > 126
  ·rw [dec_t (show (ad.length : Int) > 126 by omega), if_pos h2]; rfl
  ·rw [dec_f (show ¬ (ad.length : Int) > 126 by omega), if_neg h2, if_pos rfl]
   by_cases h3 : n > 65536
   ·rw [dec_t (show (n : Int) > 65536 by omega), if_pos h3]; rfl
   ·rw [dec_f (show ¬ (n : Int) > 65536 by omega), if_neg h3]; rfl
theorem rsealv_eq {v : VV} (hv : okV v) {key : List Int} {ad : List (List Int)} {plain : List Int} (T : Txts key ad plain) :
  pendulumref22_Seal.run .lim (v, key, ad, plain, ()) = some ((sealV v key ad plain).1, (sealV v key ad plain).2.1, (sealV v key ad plain).2.2, ()) := by
 obtain ⟨b, xs⟩ := v
 have hx : xs.length < lim63 := hv.1
 have hp63 : plain.length < 9223372036854775808 := T.s
 have hx63 : xs.length < 9223372036854775808 := hx
 unfold sealV
 cases b with
 | false =>
  have hs := rseal_eq T.k T.kb T.a T.al T.s
  simp only [pendulumref22_Seal.run, hs, Option.bind_some, cond_false, Bool.not_false, cond_true]
 | true =>
  have hr := rrefused22_eq T.k T.a plain.length
  have hf' := rseal_find xs key ad plain hx hv.2 T.a
  simp only [pendulumref22_Seal.run, hr, Option.bind_some, smallN hp63, smallN hx63, cond_true, cond_false, Bool.not_true, hf']
  unfold sealI
  by_cases h0 : sealE key ad plain.length = 0
  ·rw [dec_t h0, if_pos h0]
   have h00 : refE (key, ad, [], []) = 0 ∧ plain.length ≤ 65536 := by
    unfold sealE at h0
    split at h0
    ·split at h0
     ·exact absurd h0 (by decide)
     ·exact ⟨by assumption, by omega⟩
    ·exact absurd h0 (by assumption)
   have ha126 : ad.length ≤ 126 := by
    have := sivE_zero (key := key) (ad := ad) (by rw [refE_siv]; exact h00.1)
    omega
   simp only [Bool.not_true, cond_false]
   rw [cond_pos (dec_t (show ad.length < 4398046511104 by omega))]
   cases hq : (List.range xs.length).find? (fun j : Nat => alk (rd k0 xs (j : Int)) (key, ad, plain, [])) with
   | some k => rfl
   | none =>
    simp only [Option.bind_some, smallN hx63, cond_true]
    by_cases h2 : xs.length ≥ 2048
    ·rw [dec_t (show (xs.length : Int) ≥ 2048 by omega), if_pos h2]; rfl
    ·rw [dec_f (show ¬ (xs.length : Int) ≥ 2048 by omega), if_neg h2]
     have w1 : IntKind.i64.wrap ((xs.length : Int) + 1) = (xs.length : Int) + 1 := wrap64 (by omega) (by omega)
     simp only [cond_false, w1, rtext_eq ((xs.length : Int) + 1) plain (by omega) (by omega) (by omega), Option.bind_some]
     rw [cond_pos (dec_t (by omega)), cond_pos (dec_t (by simp; omega))]
  ·rw [dec_f h0, if_neg h0]; rfl
theorem open_find' (xs : List KK) (key : List Int) (ad : List (List Int)) (t : List Int) (hx : xs.length < lim63) (hok : ∀ k ∈ xs, okK k) (ha : ad.length < lim63) :
  ideal_Open.l0 .lim (xs, (xs.length : Int), 0, key, ad, [], t, xs, ()) = match (List.range xs.length).find? (fun j : Nat => hit key ad t (rd k0 xs (j : Int))) with
   | some k => some (.inl ((k : Int), xs, ()))
   | none => some (.inr (xs, ())) := by
 have hx63 : xs.length < 9223372036854775808 := hx
 have e := loop_first (f := ideal_Open.l0 .lim) (fun k => (xs, (xs.length : Int), (k : Int), key, ad, [], t, xs, ())) xs.length (fun j : Nat => hit key ad t (rd k0 xs (j : Int))) (fun k => some (.inl ((k : Int), xs, ()))) (fun k hk => by
  rw [ideal_Open.q0]
  have hm : okK (rd k0 xs k) := hok _ (rd_mem (by omega) (by omega))
  simp only [ideal_Open.b0, equal_eq _ _ hm.2.1 ha, wk k (by omega), dec_t (show (k : Int) < (xs.length : Int) by omega), inB_t (show (0 : Int) ≤ k by omega) (show (k : Int) < xs.length by omega)]
  unfold hit
  cases decide ((rd k0 xs k).2.2.2 = t) && decide ((rd k0 xs k).1 = key) <;> simp only [cond_true, cond_false, Option.bind_some, Option.bind_none, Bool.or_true, Bool.true_or, Bool.and_true, Bool.true_and, Bool.and_false, Bool.false_and, Bool.or_false, Bool.false_or, Bool.not_true, Bool.not_false, Bool.or_self, Bool.and_self, Bool.not_not])
 rw [show ((0 : Nat) : Int) = 0 from rfl] at e
 rw [e]
 cases (List.range xs.length).find? (fun j : Nat => hit key ad t (rd k0 xs (j : Int))) with
 | some k => rfl
 | none =>
  simp only
  rw [ideal_Open.q0]
  simp only [ideal_Open.b0, dec_f (show ¬ (xs.length : Int) < (xs.length : Int) by omega), cond_false]
theorem ropen_find (xs : List KK) (key : List Int) (ad : List (List Int)) (t : List Int) (hx : xs.length < lim63) (hok : ∀ k ∈ xs, okK k) (ha : ad.length < lim63) :
  pendulumref22_Open.l0 .lim (key, ad, t, 0, true, xs, ()) = match (List.range xs.length).find? (fun j : Nat => hit key ad t (rd k0 xs (j : Int))) with
   | some k => some (.inl ((rd k0 xs (k : Int)).2.2.1, 0, ()))
   | none => some (.inr (())) := by
 have hx63 : xs.length < 9223372036854775808 := hx
 have e := loop_first (f := pendulumref22_Open.l0 .lim) (fun k => (key, ad, t, (k : Int), true, xs, ())) xs.length (fun j : Nat => hit key ad t (rd k0 xs (j : Int))) (fun k => some (.inl ((rd k0 xs (k : Int)).2.2.1, 0, ()))) (fun k hk => by
  rw [pendulumref22_Open.q0]
  have hm : okK (rd k0 xs k) := hok _ (rd_mem (by omega) (by omega))
  simp only [pendulumref22_Open.b0, smallN hx63, texts_eq _ _ hm.2.1 ha, wk k (by omega), dec_t (show (k : Int) < (xs.length : Int) by omega), inB_t (show (0 : Int) ≤ k by omega) (show (k : Int) < xs.length by omega)]
  unfold hit
  cases decide ((rd k0 xs k).2.2.2 = t) && decide ((rd k0 xs k).1 = key) <;> simp only [cond_true, cond_false, Option.bind_some, Option.bind_none, Bool.or_true, Bool.true_or, Bool.and_true, Bool.true_and, Bool.and_false, Bool.false_and, Bool.or_false, Bool.false_or, Bool.not_true, Bool.not_false, Bool.or_self, Bool.and_self, Bool.not_not])
 rw [show ((0 : Nat) : Int) = 0 from rfl] at e
 rw [e]
 cases (List.range xs.length).find? (fun j : Nat => hit key ad t (rd k0 xs (j : Int))) with
 | some k => rfl
 | none =>
  simp only
  rw [pendulumref22_Open.q0]
  simp only [pendulumref22_Open.b0, smallN hx63, cond_true, dec_f (show ¬ (xs.length : Int) < (xs.length : Int) by omega), cond_false]
theorem openv_eq {v : VV} (hv : okV v) {key : List Int} {ad : List (List Int)} {t : List Int} (T : Txts key ad t) (htb : Bs t) :
  ideal_Open.run .lim (v, key, ad, t, ()) = some ((openV' v key ad t).1, (openV' v key ad t).2, ()) := by
 obtain ⟨b, xs⟩ := v
 have hx : xs.length < lim63 := hv.1
 have hp63 : t.length < 9223372036854775808 := T.s
 have hx63 : xs.length < 9223372036854775808 := hx
 unfold openV'
 cases b with
 | false =>
  have hs := sopen_eq T.k T.kb T.a T.al T.s htb
  simp only [ideal_Open.run, ideal_truth_open.run, hs, Option.bind_some, cond_false]
 | true =>
  have hr := refused_eq (key, ad, [], t) T.k T.a
  rw [refE_eq] at hr
  have hf' := open_find' xs key ad t hx hv.2 T.a
  simp only [ideal_Open.run, hr, Option.bind_some, smallN hp63, smallN hx63, cond_true, hf']
  unfold openI
  by_cases h0 : refE (key, ad, [], []) = 0
  ·rw [dec_t h0, if_pos h0]
   simp only [Bool.not_true, cond_false]
   by_cases h1 : t.length < 16
   ·rw [dec_t (show (t.length : Int) < 16 by omega), if_pos h1]; rfl
   ·rw [dec_f (show ¬ (t.length : Int) < 16 by omega), if_neg h1]
    by_cases h2 : t.length > 65552
    ·rw [dec_t (show (t.length : Int) > 65552 by omega), if_pos h2]; rfl
    ·rw [dec_f (show ¬ (t.length : Int) > 65552 by omega), if_neg h2]
     simp only [cond_false]
     cases hq : (List.range xs.length).find? (fun j : Nat => hit key ad t (rd k0 xs (j : Int))) with
     | some k =>
      have hk : k < xs.length := List.mem_range.1 (List.mem_of_find?_eq_some hq)
      simp only [Option.bind_some]
      rw [cond_neg (dec_f (by omega)), cond_pos (inB_t (by omega) (by omega))]
     | none => rfl
  ·rw [dec_f h0, if_neg h0]; rfl
theorem ropenv_eq {v : VV} (hv : okV v) {key : List Int} {ad : List (List Int)} {t : List Int} (T : Txts key ad t) :
  pendulumref22_Open.run .lim (v, key, ad, t, ()) = some ((openV' v key ad t).1, (openV' v key ad t).2, ()) := by
 obtain ⟨b, xs⟩ := v
 have hx : xs.length < lim63 := hv.1
 have hp63 : t.length < 9223372036854775808 := T.s
 have hx63 : xs.length < 9223372036854775808 := hx
 unfold openV'
 cases b with
 | false =>
  have hs := ropen_eq T.k T.kb T.a T.al T.s
  simp only [pendulumref22_Open.run, hs, Option.bind_some, cond_false, Bool.not_false, cond_true]
 | true =>
  have hr := rrefused22_eq T.k T.a 0
  have h00 : sealE key ad 0 = refE (key, ad, [], []) := by
   unfold sealE
   by_cases h : refE (key, ad, [], []) = 0
   ·rw [if_pos h, if_neg (by omega), h]
   ·rw [if_neg h]
  rw [h00, show ((0 : Nat) : Int) = 0 from rfl] at hr
  have hf' := ropen_find xs key ad t hx hv.2 T.a
  simp only [pendulumref22_Open.run, hr, Option.bind_some, smallN hp63, smallN hx63, cond_true, cond_false, Bool.not_true, hf']
  unfold openI
  by_cases h0 : refE (key, ad, [], []) = 0
  ·rw [dec_t h0, if_pos h0]
   simp only [Bool.not_true, cond_false]
   by_cases h1 : t.length < 16
   ·rw [dec_t (show (t.length : Int) < 16 by omega), if_pos h1]; rfl
   ·rw [dec_f (show ¬ (t.length : Int) < 16 by omega), if_neg h1]
    by_cases h2 : t.length > 65552
    ·rw [dec_t (show (t.length : Int) > 65552 by omega), if_pos h2]; rfl
    ·rw [dec_f (show ¬ (t.length : Int) > 65552 by omega), if_neg h2]
     simp only [cond_false]
     cases hq : (List.range xs.length).find? (fun j : Nat => hit key ad t (rd k0 xs (j : Int))) with
     | some k => rfl
     | none => rfl
  ·rw [dec_f h0, if_neg h0]; rfl
end Go.AM
end
section
namespace Go.AM
theorem okK_new {key : List Int} {ad : List (List Int)} {plain : List Int} (T : Txts key ad plain) (hp : plain.length ≤ 65536) (n : Int) : okK (key, ad, plain, txt n plain) :=
 ⟨T.k, T.a, T.al, T.s, by simp only [txt, num16, List.length_append, List.length_map, List.length_range, List.length_replicate]; omega⟩
theorem sealE_zero {key : List Int} {ad : List (List Int)} {n : Nat} (h0 : sealE key ad n = 0) : refE (key, ad, [], []) = 0 ∧ n ≤ 65536 := by
 unfold sealE at h0
 split at h0
 ·split at h0
  ·exact absurd h0 (by decide)
  ·exact ⟨by assumption, by omega⟩
 ·exact absurd h0 (by assumption)
theorem sealI_cases (xs : List KK) (key : List Int) (ad : List (List Int)) (plain : List Int) :
  ((sealI xs key ad plain).2.2 ≠ 0 ∧ (sealI xs key ad plain).1 = xs ∧ (sealI xs key ad plain).2.1 = []) ∨
  (sealE key ad plain.length = 0 ∧ (∃ k, k < xs.length ∧ alk (rd k0 xs (k : Int)) (key, ad, plain, []) = true ∧ sealI xs key ad plain = (xs, (rd k0 xs (k : Int)).2.2.2, 0))) ∨
  (sealE key ad plain.length = 0 ∧ xs.length < 2048 ∧ (∀ k, k < xs.length → alk (rd k0 xs (k : Int)) (key, ad, plain, []) = false) ∧ sealI xs key ad plain = (xs ++ [(key, ad, plain, txt (xs.length + 1) plain)], txt (xs.length + 1) plain, 0)) := by
 unfold sealI
 by_cases h0 : sealE key ad plain.length = 0
 ·rw [if_pos h0]
  cases hq : (List.range xs.length).find? (fun j : Nat => alk (rd k0 xs (j : Int)) (key, ad, plain, [])) with
  | some k => exact .inr (.inl ⟨h0, k, List.mem_range.1 (List.mem_of_find?_eq_some hq), by simpa using List.find?_some hq, rfl⟩)
  | none =>
   simp only
   by_cases h2 : xs.length ≥ 2048
   ·rw [if_pos h2]; exact .inl ⟨show (18 : Int) ≠ 0 by decide, rfl, rfl⟩
   ·rw [if_neg h2]
    refine .inr (.inr ⟨h0, by omega, fun k hk => ?_, rfl⟩)
    have := List.find?_eq_none.1 hq k (List.mem_range.2 hk)
    simpa using this
 ·rw [if_neg h0]; exact .inl ⟨h0, rfl, rfl⟩
theorem okV_seal {v : VV} (hv : okV v) {key : List Int} {ad : List (List Int)} {plain : List Int} (T : Txts key ad plain) : okV (sealV v key ad plain).1 := by
 obtain ⟨b, xs⟩ := v
 unfold sealV
 cases b with
 | false => exact hv
 | true =>
  simp only [cond_true]
  rcases sealI_cases xs key ad plain with ⟨_, h, _⟩ | ⟨_, k, _, _, h⟩ | ⟨h0, h1, _, h⟩
  ·rw [h]; exact hv
  ·rw [h]; exact hv
  ·rw [h]
   refine ⟨by simp; omega, fun q hq => ?_⟩
   rcases List.mem_append.1 hq with hq | hq
   ·exact hv.2 q hq
   ·rw [List.mem_singleton.1 hq]; exact okK_new T (sealE_zero h0).2 _
theorem fit_bad {xs : List KK} (h : fitV (true, xs) = true) : xs.length ≤ 2048 ∧ ∀ i, i < xs.length → badK xs i = false := by
 unfold fitV at h
 simp only [cond_true, Bool.and_eq_true, decide_eq_true_eq, Bool.not_eq_true', List.any_eq_false, List.mem_range] at h
 exact ⟨h.1, fun i hi => by simpa using h.2 i hi⟩
theorem badK_app {xs : List KK} {q : KK} {i : Nat} (hi : i < xs.length) : badK (xs ++ [q]) i = badK xs i := by
 unfold badK
 rw [rd_app hi, any_congr (d := fun j => alk (rd k0 xs (j : Int)) (rd k0 xs (i : Int))) fun j hj => by rw [rd_app (by omega)]]
theorem rd_last {α : Type} {d : α} {xs : List α} {q : α} : rd d (xs ++ [q]) (xs.length : Int) = q := by
 rw [rd_ix (by simp)]; simp
theorem fit_seal {v : VV} (hf : fitV v = true) (key : List Int) (ad : List (List Int)) (plain : List Int) : fitV (sealV v key ad plain).1 = true := by
 obtain ⟨b, xs⟩ := v
 unfold sealV
 cases b with
 | false => exact hf
 | true =>
  simp only [cond_true]
  obtain ⟨f1, f2⟩ := fit_bad hf
  rcases sealI_cases xs key ad plain with ⟨_, h, _⟩ | ⟨_, k, _, _, h⟩ | ⟨h0, h1, h2, h⟩
  ·rw [h]; exact hf
  ·rw [h]; exact hf
  ·rw [h]
   obtain ⟨g1, g2⟩ := sealE_zero h0
   unfold fitV
   simp only [cond_true, Bool.and_eq_true, decide_eq_true_eq, Bool.not_eq_true', List.any_eq_false, List.mem_range, List.length_append, List.length_singleton]
   refine ⟨by omega, fun i hi => ?_⟩
   by_cases hl : i < xs.length
   ·rw [badK_app hl, f2 i hl]; simp
   ·obtain rfl : i = xs.length := by omega
    unfold badK
    rw [rd_last]
    rw [any_congr (d := fun _ => false) fun j hj => by
     rw [rd_app hj]
     have := h2 j hj
     unfold alk at this ⊢
     exact this]
    rw [refE_eq, g1, dec_t rfl, dec_f (show ¬ plain.length > 65536 by omega), dec_t rfl]
    simp
theorem byteOf_lt (n : Int) (k : Nat) : 0 ≤ byteOf n k ∧ byteOf n k < 256 := by unfold byteOf; omega
theorem txt_inj {a b : Nat} (ha : a < 65536) (hb : b < 65536) {p q : List Int} (h : txt (a : Int) p = txt (b : Int) q) : a = b ∧ p.length = q.length := by
 have h1 : num16 (a : Int) = num16 (b : Int) ∧ p.length = q.length := by
  unfold txt at h
  have hl := congrArg List.length h
  simp only [List.length_append, List.length_replicate, num16, List.length_map, List.length_range] at hl
  exact ⟨(List.append_inj h (by simp [num16])).1, by omega⟩
 refine ⟨?_, h1.2⟩
 have e := h1.1
 unfold num16 at e
 have e1 := (List.map_inj_left.1 e) 15 (by simp)
 have e2 := (List.map_inj_left.1 e) 14 (by simp)
 unfold byteOf at e1 e2
 simp only [Nat.sub_self, Int.pow_zero, Int.ediv_one] at e1
 simp only [show 15 - 14 = 1 from rfl, Int.pow_one] at e2
 omega
theorem fit_at {xs : List KK} (h : fitV (true, xs) = true) {i : Nat} (hi : i < xs.length) : (rd k0 xs (i : Int)).2.2.2 = txt ((i + 1 : Nat) : Int) (rd k0 xs (i : Int)).2.2.1 ∧ (rd k0 xs (i : Int)).2.2.1.length ≤ 65536 := by
 have := (fit_bad h).2 i hi
 unfold badK at this
 simp only [Bool.or_eq_false_iff, Bool.not_eq_false', decide_eq_true_eq, decide_eq_false_iff_not] at this
 exact ⟨by rw [this.1.2]; congr 1, by omega⟩
theorem txt_len (n : Int) (p : List Int) : (txt n p).length = p.length + 16 := by simp [txt, num16]; omega
theorem txt_B (n : Int) (p : List Int) : Bs (txt n p) := fun x hx => by
 unfold txt at hx
 rcases List.mem_append.1 hx with h | h
 ·obtain ⟨i, _, rfl⟩ := List.mem_map.1 h
  exact byteOf_lt _ _
 ·rw [(List.mem_replicate.1 h).2]; exact ⟨by decide, by decide⟩
theorem find_hit {xs : List KK} (h : fitV (true, xs) = true) {key : List Int} {ad : List (List Int)} {plain : List Int} {k : Nat} (hk : k < xs.length) (ha : alk (rd k0 xs (k : Int)) (key, ad, plain, []) = true) :
  (List.range xs.length).find? (fun j : Nat => hit key ad (rd k0 xs (k : Int)).2.2.2 (rd k0 xs (j : Int))) = some k := by
 have hl := (fit_bad h).1
 rw [List.find?_range_eq_some]
 unfold alk at ha
 simp only [Bool.and_eq_true, decide_eq_true_eq] at ha
 refine ⟨?_, List.mem_range.2 hk, fun j hj => ?_⟩
 ·unfold hit
  rw [dec_t rfl, dec_t ha.1.1, dec_t ha.2]; rfl
 ·unfold hit
  rw [dec_f]
  ·simp
  ·intro q
   rw [(fit_at h (show j < xs.length by omega)).1, (fit_at h hk).1] at q
   have := (txt_inj (by omega) (by omega) q).1
   omega
theorem openI_of {xs : List KK} (h : fitV (true, xs) = true) {key : List Int} {ad : List (List Int)} {plain : List Int} {k : Nat} (hk : k < xs.length) (ha : alk (rd k0 xs (k : Int)) (key, ad, plain, []) = true) (h0 : refE (key, ad, [], []) = 0) (hp : plain.length ≤ 65536) :
  openI xs key ad (rd k0 xs (k : Int)).2.2.2 = (plain, 0) := by
 have hf := find_hit h hk ha
 have ht := (fit_at h hk).1
 have hpl : (rd k0 xs (k : Int)).2.2.1 = plain := by
  unfold alk at ha
  simp only [Bool.and_eq_true, decide_eq_true_eq] at ha
  exact ha.1.2
 have hl : (rd k0 xs (k : Int)).2.2.2.length = plain.length + 16 := by rw [ht, txt_len, hpl]
 unfold openI
 rw [if_pos h0, if_neg (by omega), if_neg (by omega), hf]
 simp only [hpl]
theorem seals_true {v : VV} (hv : okV v) {key : List Int} {ad : List (List Int)} {s : List Int} (T : Txts key ad s) (hsb : Bs s) : pendulumlaw22_IdealSeals.run .lim (v, key, ad, s, ()) = some true := by
 obtain ⟨r, er⟩ := light_some v hv
 obtain ⟨r2, er2⟩ := short_some key ad s T.k T.a T.al T.s
 simp only [pendulumlaw22_IdealSeals.run, er, rfit_eq v hv, er2, Option.bind_some]
 cases r with
 | false => rfl
 | true =>
  cases hf : fitV v with
  | false => rfl
  | true =>
   cases r2 with
   | false => rfl
   | true =>
    simp only [Bool.not_true, Bool.not_false, cond_true, cond_false, Option.bind_some, Bool.or_self, er2, rfit_eq v hv, hf]
    have hs := okV_seal hv T
    simp only [seal_eq hv hf T, rsealv_eq hv T, openv_eq hv T hsb, ropenv_eq hv T, Option.bind_some, rsame_eq _ _ hs hs, decide_true, Bool.and_self, cond_true]
theorem back_true {v : VV} (hv : okV v) {key : List Int} {ad : List (List Int)} {s other : List Int} (T : Txts key ad s) (hsb : Bs s) (ho : other.length < lim63) (hob : Bs other) : pendulumlaw22_IdealBack.run .lim (v, key, ad, s, other, ()) = some true := by
 obtain ⟨r, er⟩ := light_some v hv
 obtain ⟨r2, er2⟩ := short_some key ad s T.k T.a T.al T.s
 have ho63 : other.length < 9223372036854775808 := ho
 have hs63 : s.length < 9223372036854775808 := T.s
 simp only [pendulumlaw22_IdealBack.run, er, rfit_eq v hv, er2, Option.bind_some, smallN ho63, Bool.or_true, cond_true]
 cases r with
 | false => rfl
 | true =>
  cases hf : fitV v with
  | false => rfl
  | true =>
   cases r2 with
   | false => rfl
   | true =>
    simp only [Bool.not_true, Bool.not_false, cond_true, cond_false, Option.bind_some, Bool.or_self, er2, rfit_eq v hv, hf, Bool.false_or]
    by_cases hol : other.length > 1000
    ·rw [dec_t (show (other.length : Int) > 1000 by omega)]; rfl
    ·rw [dec_f (show ¬ (other.length : Int) > 1000 by omega)]
     have hw := okV_seal hv T
     have hfw := fit_seal hf key ad s
     simp only [cond_false, seal_eq hv hf T, Option.bind_some]
     by_cases he : (sealV v key ad s).2.2 = 0
     ·-- it was sealed
      rw [dec_t he]
      -- what holds of the sealed text
      have key1 : refE (key, ad, [], []) = 0 ∧ s.length ≤ 65536 ∧ (sealV v key ad s).2.1.length = s.length + 16 ∧ Bs (sealV v key ad s).2.1 ∧ openV' (sealV v key ad s).1 key ad (sealV v key ad s).2.1 = (s, 0) ∧
        ∀ (key2 : List Int) (ad2 : List (List Int)) (p2 : List Int), openV' (sealV (sealV v key ad s).1 key2 ad2 p2).1 key ad (sealV v key ad s).2.1 = (s, 0) := by
       obtain ⟨b, xs⟩ := v
       cases b with
       | false =>
        simp only [sealV, cond_false] at he ⊢
        have h0 : sivE key ad = 0 ∧ s.length ≤ 65536 := by
         unfold sealR at he
         by_cases h : sivE key ad = 0
         ·rw [if_pos h] at he
          by_cases h' : s.length > 65536
          ·rw [if_pos h'] at he; exact absurd he (by decide)
          ·exact ⟨h, by omega⟩
         ·rw [if_neg h] at he; exact absurd he h
        have hr : sealR key ad s = (sealS key ad s, 0) := by unfold sealR; rw [if_pos h0.1, if_neg (by omega)]
        rw [hr]
        refine ⟨by rw [← refE_siv]; exact h0.1, h0.2, sealS_len _ _ _, sealS_B _ _ _, open_seal h0.1 h0.2 hsb, fun _ _ _ => open_seal h0.1 h0.2 hsb⟩
       | true =>
        simp only [sealV, cond_true] at he hfw ⊢
        -- an entry of a fit vault
        have fin : ∀ (ys : List KK) (k : Nat) (t : List Int), fitV (true, ys) = true → k < ys.length → alk (rd k0 ys (k : Int)) (key, ad, s, []) = true → t = (rd k0 ys (k : Int)).2.2.2 → sealE key ad s.length = 0 →
          refE (key, ad, [], []) = 0 ∧ s.length ≤ 65536 ∧ t.length = s.length + 16 ∧ Bs t ∧ openV' (true, ys) key ad t = (s, 0) ∧ ∀ (key2 : List Int) (ad2 : List (List Int)) (p2 : List Int), openV' (true, (sealI ys key2 ad2 p2).1) key ad t = (s, 0) := by
         intro ys k t hy hk ha ht h0
         obtain ⟨g1, g2⟩ := sealE_zero h0
         have hpl : (rd k0 ys (k : Int)).2.2.1 = s := by
          unfold alk at ha
          simp only [Bool.and_eq_true, decide_eq_true_eq] at ha
          exact ha.1.2
         subst ht
         refine ⟨g1, g2, by rw [(fit_at hy hk).1, txt_len, hpl], by rw [(fit_at hy hk).1]; exact txt_B _ _, openI_of hy hk ha g1 g2, fun key2 ad2 p2 => ?_⟩
         have hf2 := fit_seal hy key2 ad2 p2
         simp only [sealV, cond_true] at hf2
         rcases sealI_cases ys key2 ad2 p2 with ⟨_, h, _⟩ | ⟨_, _, _, _, h⟩ | ⟨_, _, _, h⟩
         ·rw [h]; exact openI_of hy hk ha g1 g2
         ·rw [h]; exact openI_of hy hk ha g1 g2
         ·rw [h] at hf2 ⊢
          have := openI_of hf2 (k := k) (key := key) (ad := ad) (plain := s) (by simp; omega) (by rw [rd_app hk]; exact ha) g1 g2
          rw [rd_app hk] at this
          exact this
        rcases sealI_cases xs key ad s with ⟨h, _, _⟩ | ⟨h0, k, hk, ha, h⟩ | ⟨h0, h1, h2, h⟩
        ·exact absurd he h
        ·rw [h]; exact fin xs k _ hf hk ha rfl h0
        ·rw [h] at hfw ⊢
         refine fin _ xs.length _ hfw (by simp) ?_ (by rw [rd_last]) h0
         rw [rd_last]
         unfold alk
         simp
      obtain ⟨k1, k2, k3, k4, k5, k6⟩ := key1
      have ha126 : ad.length < 127 := (sivE_zero (key := key) (ad := ad) (by rw [refE_siv]; exact k1)).2
      have Tt : Txts key ad (sealV v key ad s).2.1 := ⟨T.k, T.kb, T.a, T.al, by rw [k3]; exact lim_of (by omega)⟩
      have T2 : Txts key ([([109, 111, 114, 101] : List Int)] ++ ad) other := ⟨T.k, T.kb, lim_of (by simp; omega), fun t ht => by
       rcases List.mem_append.1 ht with h | h
       ·rw [List.mem_singleton.1 h]; decide
       ·exact T.al t h, ho⟩
      have hu := okV_seal hw T2
      have hcap : decide (([([109, 111, 114, 101] : List Int)] : List (List Int)).length + ad.length < 4398046511104) = true := dec_t (by simp; omega)
      simp only [Bool.not_true, cond_false, openv_eq hw Tt k4, k5, Option.bind_some, hcap, cond_true, seal_eq hw hfw T2, openv_eq hu Tt k4, k6, decide_true, Bool.and_self, rfit_eq _ hw, hfw]
      have hl63 : (sealV v key ad s).2.1.length < 9223372036854775808 := by omega
      have w : IntKind.i64.wrap ((s.length : Int) + 16) = ((s.length + 16 : Nat) : Int) := by rw [wrap64 (by omega) (by omega)]; omega
      simp only [smallN hl63, smallN hs63, Bool.or_true, cond_true, w, dec_t (show (((sealV v key ad s).2.1.length : Nat) : Int) = ((s.length + 16 : Nat) : Int) by omega), Bool.and_self, Option.bind_some]
     ·-- it was not
      rw [dec_f he]
      have hsame : (sealV v key ad s).1 = v := by
       obtain ⟨b, xs⟩ := v
       cases b with
       | false => rfl
       | true =>
        simp only [sealV, cond_true] at he ⊢
        rcases sealI_cases xs key ad s with ⟨_, h, _⟩ | ⟨_, _, _, _, h⟩ | ⟨_, _, _, h⟩
        ·rw [h]
        ·rw [h] at he; exact absurd rfl he
        ·rw [h] at he; exact absurd rfl he
      rw [hsame]
      simp only [Bool.not_false, cond_true, rsame_eq v v hv hv, decide_true, Option.bind_some, Bool.and_self]
theorem txts_of {key : List Int} {ad : List (List Int)} {s : List Int} (h2 : Ty.ok .str key) (h3 : Ty.ok (.lst .str) ad) (h5 : Ty.ok .str s) : Txts key ad s :=
 ⟨lt63 h2.1, h2.2, lt63 h3.1, fun t ht => lt63 (h3.2 t ht).1, lt63 h5.1⟩
theorem idseals_ok : ∀ x, oks [.ag (.pair .bool (.lst (.pair .str (.pair (.lst .str) (.pair .str .str))))), .one .str, .one (.lst .str), .one .str] x → pendulumlaw22_IdealSeals.run .lim x = some true := by
 intro x h
 match x with
 | (v, key, ad, s, ()) =>
  obtain ⟨h1, h2, h3, h5, _⟩ := h
  exact seals_true (ok_v h1) (txts_of h2 h3 h5) h5.2
theorem idback_ok : ∀ x, oks [.ag (.pair .bool (.lst (.pair .str (.pair (.lst .str) (.pair .str .str))))), .one .str, .one (.lst .str), .one .str, .one .str] x → pendulumlaw22_IdealBack.run .lim x = some true := by
 intro x h
 match x with
 | (v, key, ad, s, o, ()) =>
  obtain ⟨h1, h2, h3, h5, h6, _⟩ := h
  exact back_true (ok_v h1) (txts_of h2 h3 h5) h5.2 (lt63 h6.1) h6.2
end Go.AM
end
