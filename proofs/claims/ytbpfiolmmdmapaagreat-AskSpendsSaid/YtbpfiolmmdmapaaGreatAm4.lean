import Derived.Test.YtbpfiolmmdmapaaGreatAm3
import Derived.Sort.Grow
import Derived.Sort.EncStr
import Derived.Lib.SlicesCompact
import Derived.Lib.RowBridge
import Derived.Shelf.Strings.Repeat

/-! An abstract machine over plain data, shown to be sound for the given program model: what it tells is what the call does. -/
set_option linter.unusedSimpArgs false
set_option linter.unusedVariables false
set_option linter.unusedSectionVars false

section
namespace Go.AM
variable [Tabs]
open Go.RowKit Go.Lib
structure BK where
 T : TypeId
 e : TypeId
 ws : FuncId
 str : FuncId
 len : FuncId
structure BK.OK (P : Program) (K : BK) : Prop where
 e1 : (dQ P K.ws []).isSome = true
 e2 : (dQ P K.str []).isSome = true
 e3 : (dQ P K.len []).isSome = true
 ws : ∀ (b : Nat) (v : Value) (bs : List Value) (s : ByteArray) (w : World), vT K.T K.e b v bs w -> bs.length + s.size <= 140737488355328 ->
  Calls P K.ws #[.pointer (some ⟨b, 0, none⟩), .string s] w fun e w' => e = .returned (.tuple #[.int .i64 s.size, .nilIface]) /\ Only b v.ownBlock w w' /\ ∃ v', vT K.T K.e b v' (bs ++ strCells s) w' /\ ∀ k, v'.ownBlock = some k -> v.ownBlock = some k \/ w.heap.size <= k
 str : ∀ (b : Nat) (v : Value) (l : List UInt8) (w : World), vT K.T K.e b v (byteCells l) w ->
  Calls P K.str #[.pointer (some ⟨b, 0, none⟩)] w fun e w' => e = .returned (.string ⟨l.toArray⟩) /\ Only b v.ownBlock w w' /\ vT K.T K.e b v (byteCells l) w'
 len : ∀ (b : Nat) (v : Value) (bs : List Value) (w : World), vT K.T K.e b v bs w ->
  Calls P K.len #[.pointer (some ⟨b, 0, none⟩)] w fun e w' => e = .returned (.int .i64 bs.length) /\ w' = w
def Fz (n : Nat) : Option Unit := bif Nat.ble n 140737488355328 then some () else none
def Jt (h : Hp) (K : BK) : AV -> Option (Nat × List Int)
 | .ptr b 0 0 [] => (match h.get b with
  | some (.mW T e xs) => bif Nat.beq T K.T && Nat.beq e K.e then some (b, xs) else none
  | _ => none)
 | _ => none
def WC (K : BK) : lS := fun f vs h _ =>
 bif Nat.beq f K.ws then (match vs with
  | [p, .str s] => (match Jt h K p with
   | some x => some ⟨Unit, (), Fz (x.2.length + s.length), fun _ => (.jo [.int .i64 s.length, .nilIface], [(x.1, .mW K.T K.e (x.2 ++ s))])⟩
   | none => none)
  | _ => none)
 else bif Nat.beq f K.str then (match vs with
  | [p] => (match Jt h K p with | some x => Fv (.str x.2) [] | none => none)
  | _ => none)
 else bif Nat.beq f K.len then (match vs with
  | [p] => (match Jt h K p with | some x => Fv (.int .i64 x.2.length) [] | none => none)
  | _ => none)
 else none
theorem Dv (s : ByteArray) : strCells s = (bytesOf s).map fun n => Value.int .u8 n := by
 unfold strCells bytesOf;rw [List.map_map]; rfl
theorem Ar (l : List UInt8) : byteCells l = (l.map fun b => (b.toNat : Int)).map fun n => Value.int .u8 n := by
 unfold byteCells;rw [List.map_map]; rfl
theorem QU (l : List UInt8) : ∀ n ∈ l.map (fun b => (b.toNat : Int)), aS .u8 n = true := by
 intro n hn;obtain ⟨b, _, rfl⟩ := List.mem_map.1 hn;have := b.toNat_lt;have h1 : (IntKind.min .u8) = 0 := by decide
 have h2 : (IntKind.max .u8) = 255 := by decide
 simp only [aS, h1, h2, Bool.and_eq_true, decide_eq_true_eq];omega
theorem z_ : ∀ xs : List Int, (∀ n ∈ xs, aS .u8 n = true) -> ∃ l : List UInt8, xs = l.map fun b => (b.toNat : Int)
 | [], _ => ⟨[], rfl⟩
 | n :: xs, h => by
  obtain ⟨l, hl⟩ := z_ xs fun m hm => h m (.tail _ hm)
  have := h n (.head _);have h1 : (IntKind.min .u8) = 0 := by decide
  have h2 : (IntKind.max .u8) = 255 := by decide
  simp only [aS, h1, h2, Bool.and_eq_true, decide_eq_true_eq] at this;refine ⟨UInt8.ofNat n.toNat :: l, ?_⟩;rw [hl, List.map_cons];congr 1;rw [UInt8.toNat_ofNat'];omega
section
variable {P : Program} {S0 : Base} {w0 : World} {C : Cx} {h h' : Hp}
theorem Dw {f : FuncId} (he : (dQ P f []).isSome = true) {vs : Array Value} {w : World} {Q : Ending -> World -> Prop} (hc : Calls P f vs w Q) (cs : List Frame) {v : Value} (hQ : ∀ e w', Q e w' -> e = .returned v) :
  ∃ w', Q (.returned v) w' /\ EC P cs ((callFunc f vs).run P w) v w' := by
 obtain ⟨e, w', fr, q, s1, s2, s3⟩ := hc cs;obtain rfl := hQ _ _ q;obtain ⟨g, hg⟩ := kG he [];exact ⟨w', q, .inr (.inr ⟨f, vs, w, fD hg vs w, fr, s1, s2, s3⟩)⟩
theorem wE {K : BK} {p : AV} {x : Nat × List Int} (hs : gu h' h) (e : Jt h' K p = some x) : p = .ptr x.1 0 0 [] /\ h.get x.1 = some (.mW K.T K.e x.2) := by
 unfold Jt at e;split at e
 ·rename_i b;split at e
  ·rename_i T t xs hg;simp only [cond_eq_ite] at e;split at e
   ·rename_i hk;simp only [Bool.and_eq_true] at hk;have h1 := Nat.eq_of_beq_eq_true hk.1;have h2 := Nat.eq_of_beq_eq_true hk.2;subst h1; subst h2;obtain rfl := Option.some.inj e;exact ⟨rfl, hs _ _ hg⟩
   ·simp at e
  ·simp at e
 ·simp at e
theorem vT.WE {T e : TypeId} {b : Nat} {v : Value} {bs : List Value} {w : World} (k : vT T e b v bs w) : bs.length <= maxLen := by
 rcases k.row.2 with ⟨_, z⟩ | ⟨g, cap, cur, fz, _, _, _, _, z, z2, _⟩
 ·rw [z]; exact Nat.zero_le _
 ·omega
theorem Ud {K : BK} (O : K.OK P) : fU P S0 w0 (WC K) := by
 intro f args h' nx o g e hg cs C h I hs hM vs hv;unfold WC at e;simp only [cond_eq_ite] at e;split at e
 ·rename_i hf;have hf := Nat.eq_of_beq_eq_true hf;subst hf;split at e
  ·rename_i p s;split at e
   ·rename_i x hx;obtain rfl := Option.some.inj e;obtain ⟨rfl, hb⟩ := wE hs hx;cases hv with
    | cons hp hv =>
     cases hv with
     | cons h2 hv =>
      cases hv;cases h2 with
      | @str sb _ hsb =>
       have hr : aS .u8 = aS .u8 := rfl;have hroom : x.2.length + s.length <= 140737488355328 := by
        have hg : Fz (x.2.length + s.length) = some g := hg;unfold Fz at hg;simp only [cond_eq_ite] at hg;split at hg
        ·rename_i z; exact Nat.le_of_ble_eq_true z
        ·cases hg
       have hsr : ∀ n ∈ s, aS .u8 n = true := by rw [<- hsb]; exact QU _
       have hsz : sb.size = s.length := by rw [<- hsb]; unfold bytesOf; rw [List.length_map]; rfl
       obtain ⟨_, _, _, _, hxr⟩ := I.obj _ _ hb;obtain ⟨en, c, v, k1, k2, k3, k4, k5, k6, k7⟩ := I.Gn hb (ys := x.2 ++ s) (fun n hn => by
        rcases List.mem_append.1 hn with z | z
        ·exact hxr n z
        ·exact hsr n z)
       cases hp with
       | ptr q1 q2 q3 q4 =>
        rw [k1] at q1; obtain rfl := Option.some.inj q1;obtain ⟨c', z1, z2, z3⟩ := q3 k3.symm;rw [k4] at z1; obtain rfl := Option.some.inj z1;subst z2;obtain ⟨w', ⟨-, ho, v', hv', hn⟩, hl⟩ := Dw O.e1 (O.ws c v _ sb C.w k6 (by rw [List.length_map, hsz]; exact hroom)) cs (v := .tuple #[.int .i64 sb.size, .nilIface]) (fun _ _ q => q.1);have hv' : vT K.T K.e c v' ((x.2 ++ s).map fun n => Value.int .u8 n) w' := by rw [List.map_append, <- hsb, <- Dv]; exact hv'
        obtain ⟨le, I'⟩ := k7 w' v' ho hv' hn;refine ⟨_, ⟨w', C.RO, C.M⟩, hl, I', le, ?_, fun z hz => .inl hz⟩;rw [hsz];refine .jo (.cons (.int ?_) (.cons .nilIface .nil));have h1 : (IntKind.min .i64) = -9223372036854775808 := by decide
        have h2 : (IntKind.max .i64) = 9223372036854775807 := by decide
        simp only [aS, h1, h2, Bool.and_eq_true, decide_eq_true_eq];omega
   ·cases e
  ·cases e
 ·split at e
  ·rename_i hf;have hf := Nat.eq_of_beq_eq_true hf;subst hf;split at e
   ·rename_i p;split at e
    ·rename_i x hx;obtain rfl := Option.some.inj e;obtain ⟨rfl, hb⟩ := wE hs hx;cases hv with
     | cons hp hv =>
      cases hv;obtain ⟨en, c, v, k1, k2, k3, k4, k5, k6, k7⟩ := I.Gn hb (ys := x.2) (by
        obtain ⟨_, _, _, _, z⟩ := I.obj _ _ hb; exact z)
      cases hp with
      | ptr q1 q2 q3 q4 =>
       rw [k1] at q1; obtain rfl := Option.some.inj q1;obtain ⟨c', z1, z2, z3⟩ := q3 k3.symm;rw [k4] at z1; obtain rfl := Option.some.inj z1;subst z2;obtain ⟨l, hl0⟩ := z_ x.2 k5;have hcells : (x.2.map fun n => Value.int .u8 n) = byteCells l := by rw [hl0, Ar]
       rw [hcells] at k6;obtain ⟨w', ⟨-, ho, hv'⟩, hl⟩ := Dw O.e2 (O.str c v l C.w k6) cs (v := .string ⟨l.toArray⟩) (fun _ _ q => q.1);rw [<- hcells] at hv';obtain ⟨le, I'⟩ := k7 w' v ho hv' (fun k hk => .inl hk);refine ⟨_, ⟨w', C.RO, C.M⟩, hl, I'.congr fun b => ?_, le, .str ?_, fun z hz => .inl hz⟩
       ·show Hp.get ((x.1, .mW K.T K.e x.2) :: h) b = Hp.get h b;rw [Hp.bF];split
        ·rename_i z; subst z; exact hb.symm
        ·rfl
       ·rw [hl0]; unfold bytesOf; simp
    ·cases e
   ·cases e
  ·split at e
   ·rename_i hf;have hf := Nat.eq_of_beq_eq_true hf;subst hf;split at e
    ·rename_i p;split at e
     ·rename_i x hx;obtain rfl := Option.some.inj e;obtain ⟨rfl, hb⟩ := wE hs hx;cases hv with
      | cons hp hv =>
       cases hv;obtain ⟨en, c, v, k1, k2, k3, k4, k5, k6, k7⟩ := I.Gn hb (ys := x.2) (by
        obtain ⟨_, _, _, _, z⟩ := I.obj _ _ hb; exact z)
       cases hp with
       | ptr q1 q2 q3 q4 =>
        rw [k1] at q1; obtain rfl := Option.some.inj q1;obtain ⟨c', z1, z2, z3⟩ := q3 k3.symm;rw [k4] at z1; obtain rfl := Option.some.inj z1;subst z2;obtain ⟨w', ⟨-, hw⟩, hl⟩ := Dw O.e3 (O.len c v _ C.w k6) cs (v := .int .i64 ((x.2.map fun n => Value.int .u8 n).length : Int)) (fun _ _ q => q.1);subst hw;have hll := k6.WE;rw [List.length_map] at hl hll;refine ⟨_, C, hl, I, .refl C, .int ?_, fun z hz => .inl hz⟩;have h1 : (IntKind.min .i64) = -9223372036854775808 := by decide
        have h2 : (IntKind.max .i64) = 9223372036854775807 := by decide
        simp only [maxLen] at hll;simp only [aS, h1, h2, Bool.and_eq_true, decide_eq_true_eq];omega
     ·cases e
    ·cases e
   ·cases e
end
end Go.AM
end
section
namespace Go.AM
variable [Tabs]
structure OO (P : Program) where
 o : lS
 ok : ∀ S0 w0, fU P S0 w0 o
structure CO (P : Program) where
 c : Callee
 ok : c.OK P
structure SO (P : Program) (f : FuncId) where
 s : Seg
 ok : ∀ S0 w0 cs0, gB P S0 w0 cs0 f s
def f_ {P : Program} (l : List (CO P)) : OO P := ⟨Jq (l.map CO.c), fun _ _ => xX fun k hk => by
 obtain ⟨x, _, rfl⟩ := List.mem_map.1 hk;exact x.ok⟩
def ZH {P : Program} (a b : OO P) : OO P := ⟨both a.o b.o, fun S0 w0 => both_ok (a.ok S0 w0) (b.ok S0 w0)⟩
def ZI {P : Program} {l : List (FuncId × XK)} (h : ∀ x ∈ l, x.2.OK P x.1) : OO P := ⟨exts l, fun _ _ => ND h⟩
def orb {P : Program} {K : BK} (h : K.OK P) : OO P := ⟨WC K, fun _ _ => Ud h⟩
def orp {P : Program} {l : List Proc} (h : ∀ k ∈ l, k.OK P) : OO P := ⟨procs l, fun _ _ => Js h⟩
abbrev inS (l : List FuncId) : FuncId -> Bool := fun f => l.any (Nat.beq f)
theorem NG {P : Program} {f : FuncId} (dA : List (SO P f)) (S0 : Base) (w0 : World) (cs0 : List Frame) : ∀ s ∈ dA.map SO.s, gB P S0 w0 cs0 f s := fun s hs => by
 obtain ⟨y, _, rfl⟩ := List.mem_map.1 hs;exact y.ok S0 w0 cs0
abbrev KQ {P : Program} (f : FuncId) (O : OO P) (l : List FuncId) (e : Spec) (x : List Spec) (dA : List (SO P f)) (b : (Known e.iZ -> Option (Exits x)) -> Known e.iZ -> Option (Exits x)) : Prop := KS P O.o (inS l) e x (dA.map SO.s) b
noncomputable def so {P : Program} {f : FuncId} {O : OO P} {l : List FuncId} {e : Spec} {x : List Spec} {dA : List (SO P f)} {b : (Known e.iZ -> Option (Exits x)) -> Known e.iZ -> Option (Exits x)} (m : aO) (h : KQ f O l e x dA b)
  (h1 : e.ok = true := by rfl) (h2 : x.all Spec.ok = true := by rfl) : SO P f :=
 ⟨⟨e, x, loop m b⟩, fun S0 w0 cs0 => Wu m (O.ok S0 w0) (NG dA S0 w0 cs0) h1 h2 h⟩
abbrev KT {P : Program} (O : OO P) (l : List FuncId) (c : Callee) (dA : List (SO P c.f)) : Prop := KR P O.o (inS l) (dA.map SO.s) c
noncomputable def co {P : Program} {O : OO P} {l : List FuncId} {c : Callee} {dA : List (SO P c.f)} (h : KT O l c dA) (h1 : (dQ P c.f []).isSome = true := by kernel_rfl) (h2 : c.res.xR = true := by rfl) : CO P :=
 ⟨c, KR.ok O.ok h1 h2 (fun S0 w0 cs0 => NG dA S0 w0 cs0) h⟩
abbrev fs (f : FuncId) (items : List dF) (slots : List (Nat × Sl)) : bM := ⟨f, items, slots, none, [], false⟩
def Yp : Nat -> Nat -> Path -> Path
 | 0, _, a => a
 | k + 1, n, a => bif Nat.ble n 1 then a else Yp k (n / 2) ((bif Nat.beq (n % 2) 1 then Dir.r else Dir.l) :: a)
abbrev wK (n : Nat) : Path := Yp 100 n []
abbrev dF.q (n : Nat) : dF := .code (wK n)
abbrev dF.z (n : Nat) : dF := .inLoop (wK n)
abbrev dF.v (n : Nat) (l : List Nat) : dF := .inRegion (wK n) l
abbrev Sl.oy (b : Nat) : Sl := .own b (.int .u8)
abbrev Sl.ry : Sl := .row (.int .u8)
end Go.AM
end
section
namespace Go.AM
variable [Tabs]
open Go.RowKit Go.Sort Go.Proofs
structure SK where
 sort : FuncId
 cmp : FuncId
structure SK.OK (P : Program) (K : SK) : Prop where
 e1 : (dQ P K.sort []).isSome = true
 e2 : (dQ P K.cmp []).isSome = true
 sort : ∀ (blk off cap : Nat) (ss : List (List UInt8)) (w : World), Sort.Holds encStr w blk off ss.toArray -> blk < w.heap.size -> ss.length < 4611686018427387904 ->
  Calls P K.sort #[.slice (some ⟨blk, off, none⟩) ss.length cap] w fun e w' => e = .returned (.tuple #[]) /\ ∃ n os, w' = grow (Sort.putRow encStr (Sort.ahead w n) blk off (ss.mergeSort fun x y => decide (x <= y)).toArray) os
 Yq : ∀ (p : Option Addr) (cap : Nat) (w : World), Calls P K.sort #[.slice p 0 cap] w fun e w' => e = .returned (.tuple #[]) /\ w' = w
 cmp : ∀ (blk off cap : Nat) (zs : List (List UInt8)) (w : World), Sort.Holds encStr w blk off zs.toArray -> zs.length <= 9223372036854775807 -> zs.length <= cap ->
  Calls P K.cmp #[.slice (some ⟨blk, off, none⟩) zs.length cap] w fun e w' => e = .returned (.slice (some ⟨blk, off, none⟩) (Lib.compact zs).length cap) /\ ∃ q, w' = Sort.putRow encStr (Sort.ahead w q) blk off (Lib.compact zs ++ List.replicate (zs.length - (Lib.compact zs).length) []).toArray
 cmp0 : ∀ (p : Option Addr) (cap : Nat) (w : World), Calls P K.cmp #[.slice p 0 cap] w fun e w' => e = .returned (.slice p 0 cap) /\ w' = w
def WG (l : List Int) : List UInt8 := l.map fun n => UInt8.ofNat n.toNat
def Ei (l : List UInt8) : List Int := l.map fun b => (b.toNat : Int)
theorem Ue (l : List UInt8) : WG (Ei l) = l := by
 unfold WG Ei;rw [List.map_map]
 conv => rhs; rw [<- List.map_id l]
 refine List.map_congr_left fun b _ => ?_
 simp
def vH (xs : List (List Int)) : List (List Int) := ((xs.map WG).mergeSort fun x y => decide (x <= y)).map Ei
def mM (xs : List (List Int)) : List (List Int) := (Lib.compact (xs.map WG)).map Ei
def NH (xs : List (List Int)) : List (List Int) := mM xs ++ List.replicate (xs.length - (mM xs).length) []
theorem xZ (xs : List (List Int)) : (vH xs).length = xs.length := by unfold vH; simp
theorem yc (xs : List (List Int)) : (mM xs).length <= xs.length := by
 unfold mM;rw [List.length_map];have := Lib.compact_length_le (xs.map WG);rw [List.length_map] at this;exact this
theorem yg (xs : List (List Int)) : (NH xs).length = xs.length := by
 have := yc xs;unfold NH;rw [List.length_append, List.length_replicate];omega
def FB (n : Nat) : Option Unit := bif Nat.ble n 4611686018427387903 then some () else none
def Ht (h : Hp) (v : AV) : Option (Nat × Nat × List (List Int)) :=
 match v with
 | .own b ver t => (match h.row b ver with
  | some (true, u) => bif Nat.beq t.size 1 then (match zD .str u with | some xs => some (b, ver, xs) | none => none) else none
  | _ => none)
 | _ => none
def sorts (K : SK) : lS := fun f vs h _ =>
 bif Nat.beq f K.sort then (match vs with
  | [v] => (match Ht h v with
   | some x => some ⟨Unit, (), FB x.2.2.length, fun _ => (.jo [], [(x.1, .cells x.2.1 false [.row .str (vH x.2.2)])])⟩
   | none => none)
  | _ => none)
 else bif Nat.beq f K.cmp then (match vs with
  | [v] => (match Ht h v with
   | some x => some ⟨Unit, (), FB x.2.2.length, fun _ => (.slc x.1 x.2.1 0 none .str 0 (mM x.2.2).length, [(x.1, .cells x.2.1 false [.row .str (NH x.2.2)])])⟩
   | none => none)
  | _ => none)
 else none
section
variable {P : Program} {S0 : Base} {w0 : World} {C : Cx} {h h' : Hp}
theorem wF : ∀ {xs : List (List Int)} {pre : List Value}, Cat (Rep C .str) xs pre -> ∃ ss : List (List UInt8), xs = ss.map Ei /\ pre = ss.map encStr
 | [], _, h => ⟨[], rfl, h⟩
 | x :: xs, _, ⟨c1, c2, e, ⟨s, h1, h2⟩, h3⟩ => by
  obtain ⟨ss, k1, k2⟩ := wF h3;refine ⟨s.data.toList :: ss, ?_, ?_⟩
  ·rw [List.map_cons, <- k1, <- h2]; rfl
  ·rw [e, h1, k2]; rfl
theorem Dx : ∀ ss : List (List UInt8), Cat (Rep C .str) (ss.map Ei) (ss.map encStr)
 | [] => rfl
 | s :: ss => ⟨[encStr s], ss.map encStr, rfl, ⟨⟨s.toArray⟩, rfl, by unfold bytesOf Ei; simp⟩, Dx ss⟩
structure Puts (w w' : World) (c : Nat) (ss : List (List UInt8)) : Prop where
 os : w'.os = w.os
 tape : w'.tape = w.tape
 output : w'.output = w.output
 size : w.heap.size <= w'.heap.size
 block : ∀ k, k < w.heap.size -> k ≠ c -> w'.heap[k]? = w.heap[k]?
 cell : ∀ j (v : Value), (ss.map encStr)[j]? = some v -> w'.cell? ⟨c, j, none⟩ = some v
 some : ∀ j, (w.cell? ⟨c, j, none⟩).isSome = true -> (w'.cell? ⟨c, j, none⟩).isSome = true
 Wq : ∀ j, (w'.cell? ⟨c, j, none⟩).isSome = true -> (w.cell? ⟨c, j, none⟩).isSome = true /\ w'.frozen? ⟨c, j, none⟩ = w.frozen? ⟨c, j, none⟩
theorem NI {w : World} {c n : Nat} {os : Array Obj} {s0 ss : List (List UInt8)} (hc : c < w.heap.size) (h0 : Sort.Holds encStr w c 0 s0.toArray) (hl : ss.length = s0.length) :
  Puts w (grow (Sort.putRow encStr (Sort.ahead w n) c 0 ss.toArray) os) c ss := by
 have hc' : c < (Sort.putRow encStr (Sort.ahead w n) c 0 ss.toArray).heap.size := by rw [size_putRow]; exact hc
 have hcell : ∀ j, j < ss.length -> (grow (Sort.putRow encStr (Sort.ahead w n) c 0 ss.toArray) os).cell? ⟨c, j, none⟩ = some (encStr (ss.toArray[j]!)) := fun j hj => by
  rw [cell?_grow _ _ _ hc'];have := cell?_putRow encStr (Sort.ahead w n) c 0 s0.toArray ss.toArray h0 (by simpa using hl) j (by simpa using hj);simpa using this
 have hoth : ∀ j, ss.length <= j -> (grow (Sort.putRow encStr (Sort.ahead w n) c 0 ss.toArray) os).cell? ⟨c, j, none⟩ = w.cell? ⟨c, j, none⟩ := fun j hj => by
  rw [cell?_grow _ _ _ hc', cell?_putRow_other _ _ _ _ _ _ (.inr (.inr (by simpa using hj)))];rfl
 have hss : ∀ j, (w.cell? ⟨c, j, none⟩).isSome = true ↔ ((grow (Sort.putRow encStr (Sort.ahead w n) c 0 ss.toArray) os).cell? ⟨c, j, none⟩).isSome = true := fun j => by
  by_cases hj : j < ss.length
  ·rw [hcell j hj];have := (h0 j (by simpa using (hl ▸ hj))).1;rw [Nat.zero_add] at this;rw [this]; simp
  ·rw [hoth j (by omega)]
 refine ⟨rfl, rfl, rfl, ?_, fun k hk hkc => ?_, fun j v hj => ?_, fun j hj => (hss j).1 hj, fun j hj => ⟨(hss j).2 hj, ?_⟩⟩
 ·rw [size_grow, size_putRow];show w.heap.size <= w.heap.size + os.size;omega
 ·rw [heap_grow_old _ _ (by rw [size_putRow]; exact hk)];show (w.heap.modify c _)[k]? = _;rw [Array.getElem?_modify, if_neg (Ne.symm hkc)]
 ·rw [List.getElem?_map] at hj;obtain ⟨s, hs, rfl⟩ := Option.map_eq_some_iff.1 hj;have hlt : j < ss.length := by rw [List.getElem?_eq_some_iff] at hs; exact hs.1
  rw [hcell j hlt];have : ss.toArray[j]! = s := by
   simp only [List.getElem!_toArray];rw [List.getElem!_eq_getElem?_getD, hs]; rfl
  rw [this]
 ·rw [frozen?_grow _ _ _ hc', frozen?_putRow]; rfl
theorem Aa {v : AV} {x : Nat × Nat × List (List Int)} (e : Ht h' v = some x) : ∃ t, v = .own x.1 x.2.1 t /\ t.size = 1 /\ h'.row x.1 x.2.1 = some (true, ⟨.str, x.2.2⟩) := by
 unfold Ht at e;split at e
 ·rename_i b ver t;split at e
  ·rename_i u hu;simp only [cond_eq_ite] at e;split at e
   ·rename_i hz;split at e
    ·rename_i xs hxs;obtain rfl := Option.some.inj e;rw [nJ hxs] at hu;exact ⟨t, rfl, Nat.eq_of_beq_eq_true hz, hu⟩
    ·simp at e
   ·simp at e
  ·simp at e
 ·simp at e
theorem A_ (I : Inv P S0 w0 C h) (hs : gu h' h) {b ver : Nat} {xs ys : List (List Int)} (hr : h'.row b ver = some (true, ⟨.str, xs⟩)) (hl : ys.length = xs.length) {w' : World} {en : AQ} (hM : C.M b = some en)
  (hp : ∀ c, en.cb = some c -> ∃ ss, ys = ss.map Ei /\ Puts C.w w' c ss) (h0 : en.cb = none -> w' = C.w) :
  C.Le ⟨w', C.RO, fun x => if x = b then some en else C.M x⟩ /\ Inv P S0 w0 ⟨w', C.RO, fun x => if x = b then some en else C.M x⟩ ((b, .cells ver false [.row .str ys]) :: h) := by
 obtain ⟨ro, en', g1, g2, g3, g4, g5, g6, g7⟩ := I.rowLen hs hr;rw [hM] at g3;cases Option.some.inj g3;have hro : ro = false := by simpa using g2
 subst hro;have GV : ∀ c j, en.cb = some c -> C.RO c j -> False := fun c j hc hr => by
  obtain ⟨v', ps, q, _⟩ := I.D7 b en c j hM hc hr;rw [g1] at q; cases q
 have bel : Keep S0.io w0 w' /\ C.w.heap.size <= w'.heap.size /\ ∀ k, k < C.w.heap.size -> en.cb ≠ some k -> w'.heap[k]? = C.w.heap[k]? := by
  cases hcb : en.cb with
  | none => rw [h0 hcb]; exact ⟨I.below, Nat.le_refl _, fun _ _ _ => rfl⟩
  | some c =>
   obtain ⟨ss, _, p⟩ := hp c hcb;refine ⟨⟨p.os.trans I.below.os, p.tape.trans I.below.tape, p.output.trans I.below.output, Nat.le_trans I.below.size p.size, fun i hi hx => ?_⟩, p.size, fun k hk hne => p.block k hk fun q => hne (by rw [q])⟩;refine (p.block i (by have := I.below.size; omega) fun q => ?_).trans (I.below.block i hi hx);subst q;rcases (I.loc b en i hM hcb).1 with q | q
   ·exact hx q
   ·omega
 refine I.turn (b := b) (e := en) (e' := en) (ao := .cells ver false [.row .str ys]) (w' := w') hM (Nat.le_refl _) (fun _ => rfl) (fun _ => rfl) bel.1 bel.2.1 bel.2.2
  (fun c j hc hr => (GV c j hc hr).elim) (fun c j hc hj => ?_) (fun c hc => .inl hc) (fun c j hc _ hr => (GV c j hc hr).elim)
  (fun le => ⟨g4, g5, fun t' xs' hm => ?_, ?_⟩)
 ·obtain ⟨ss, _, p⟩ := hp c hc;exact p.some j hj
 ·simp only [List.mem_singleton] at hm;cases hm;exact g6.trans hl.symm
 ·cases hcb : en.cb with
  | none =>
   rw [hcb] at g7;have g7 : xs = [] := g7;have : ys = [] := List.eq_nil_of_length_eq_zero (by rw [hl, g7]; rfl);subst this;exact ⟨.str, rfl⟩
  | some c =>
   rw [hcb] at g7;obtain ⟨pre, p1, p2, p3⟩ := g7;obtain ⟨ss, e, p⟩ := hp c hcb;refine ⟨ss.map encStr, PR.r_ ?_, fun j v hj => ?_, fun j hj => ?_⟩
   ·rw [e]; exact Dx ss
   ·have := p.cell j v hj;simpa using this
   ·obtain ⟨z1, z2⟩ := p.Wq j hj;show w'.frozen? ⟨c, j, none⟩ = false;rw [z2]; exact p3 j z1
theorem holds_of {w : World} {c : Nat} {ss : List (List UInt8)} (h1 : ∀ j (v : Value), (ss.map encStr)[j]? = some v -> w.cell? ⟨c, j, none⟩ = some v) (h2 : ∀ j, (w.cell? ⟨c, j, none⟩).isSome = true -> w.frozen? ⟨c, j, none⟩ = false) : Sort.Holds encStr w c 0 ss.toArray := fun j hj => by
 have hj : j < ss.length := by simpa using hj
 have e : ss.toArray[j]! = ss[j] := by simp [hj]
 have := h1 j (encStr ss[j]) (by rw [List.getElem?_map, List.getElem?_eq_getElem hj]; rfl);rw [Nat.zero_add, e];exact ⟨this, h2 j (by rw [this]; rfl)⟩
theorem Ju {n : Nat} {g : Unit} (h : FB n = some g) : n < 4611686018427387904 := by
 unfold FB at h;simp only [cond_eq_ite] at h;split at h
 ·rename_i z;have := Nat.le_of_ble_eq_true z;omega
 ·cases h
theorem uI {f : FuncId} (he : (dQ P f []).isSome = true) {vs : Array Value} {w : World} {Q : Ending -> World -> Prop} (hc : Calls P f vs w Q) (cs : List Frame) {v : Value} (hQ : ∀ e w', Q e w' -> e = .returned v) :
  ∃ w', Q (.returned v) w' /\ EC P cs ((callFunc f vs).run P w) v w' := by
 obtain ⟨e, w', fr, q, s1, s2, s3⟩ := hc cs;obtain rfl := hQ _ _ q;obtain ⟨g, hg⟩ := kG he [];exact ⟨w', q, .inr (.inr ⟨f, vs, w, fD hg vs w, fr, s1, s2, s3⟩)⟩
theorem NJ (ss : List (List UInt8)) : (ss.map Ei).map WG = ss := by
 rw [List.map_map]
 conv => rhs; rw [<- List.map_id ss]
 exact List.map_congr_left fun s _ => Ue s
theorem QV {K : SK} (O : K.OK P) : fU P S0 w0 (sorts K) := by
 intro f args h' nx o g e hg cs C h I hs hM vs hv;unfold sorts at e;simp only [cond_eq_ite] at e;split at e
 ·rename_i hf;have hf := Nat.eq_of_beq_eq_true hf;subst hf;split at e
  ·rename_i v;split at e
   ·rename_i x hx;obtain rfl := Option.some.inj e;obtain ⟨t, rfl, hz, hr⟩ := Aa hx;obtain ⟨b, ver, xs⟩ := x;have hlt := Ju (n := xs.length) hg;obtain ⟨ro, en, g1, g2, g3, g4, g5, g6, g7⟩ := I.rowLen hs hr;cases hv with
    | cons hp hv =>
     cases hv;cases hp with
     | own q1 q2 q3 q4 =>
      rw [g3] at q1; obtain rfl := Option.some.inj q1;have q3 := q3 g4.symm;have keep : ∀ z, (if z = b then some en else C.M z) ≠ none -> C.M z ≠ none \/ z = nx := fun z hz => by
       by_cases hq : z = b
       ·subst hq; exact .inl (by rw [g3]; simp)
       ·exact .inl (by simpa [hq] using hz)
      unfold jl at q3;cases hcb : en.cb with
      | none =>
       rw [hcb] at q3 g7;obtain ⟨q5, rfl⟩ := q3;obtain ⟨w', ⟨-, hw⟩, hl⟩ := uI O.e1 (O.Yq none 0 C.w) cs (v := .tuple #[]) (fun _ _ q => q.1);subst hw;have T := A_ I hs hr (xZ xs) (w' := C.w) g3 (fun c hc => by rw [hcb] at hc; cases hc) (fun _ => rfl);exact ⟨_, ⟨C.w, C.RO, fun y => if y = b then some en else C.M y⟩, hl, T.2, T.1, .jo .nil, keep⟩
      | some c =>
       rw [hcb] at q3 g7;obtain ⟨cap, rfl, q5, q6⟩ := q3;obtain ⟨pre, p1, p2, p3⟩ := g7;obtain ⟨ss, rfl, rfl⟩ := wF p1;have hH : Sort.Holds encStr C.w c 0 ss.toArray := holds_of (fun j v hj => by have := p2 j v hj; simpa using this) p3;have hlen : en.len = ss.length := by
        have : en.len = (ss.map Ei).length := g6;rw [this, List.length_map]
       have hss : ss.length < 4611686018427387904 := by
        have : (ss.map Ei).length < 4611686018427387904 := hlt;rw [List.length_map] at this; exact this
       obtain ⟨w', ⟨-, n, os, hw⟩, hl⟩ := uI O.e1 (O.sort c 0 cap ss C.w hH (I.loc b en c g3 hcb).2 hss) cs (v := .tuple #[]) (fun _ _ q => q.1);rw [<- hlen] at hl;have T := A_ I hs hr (xZ (ss.map Ei)) (w' := w') g3 (fun c' hc => by
        rw [hcb] at hc; obtain rfl := Option.some.inj hc;refine ⟨_, by unfold vH; rw [NJ], ?_⟩;rw [hw];exact NI (I.loc b en c g3 hcb).2 hH (by simp)) (fun hc => by rw [hcb] at hc; cases hc)
       exact ⟨_, _, hl, T.2, T.1, .jo .nil, keep⟩
   ·cases e
  ·cases e
 ·split at e
  ·rename_i hf;have hf := Nat.eq_of_beq_eq_true hf;subst hf;split at e
   ·rename_i v;split at e
    ·rename_i x hx;obtain rfl := Option.some.inj e;obtain ⟨t, rfl, hz, hr⟩ := Aa hx;obtain ⟨b, ver, xs⟩ := x;have hlt := Ju (n := xs.length) hg;obtain ⟨ro, en, g1, g2, g3, g4, g5, g6, g7⟩ := I.rowLen hs hr;have hcl := yc xs;have g6' : en.len = xs.length := g6;cases hv with
     | cons hp hv =>
      cases hv;cases hp with
      | own q1 q2 q3 q4 =>
       rw [g3] at q1; obtain rfl := Option.some.inj q1;have q3 := q3 g4.symm;have keep : ∀ z, (if z = b then some en else C.M z) ≠ none -> C.M z ≠ none \/ z = nx := fun z hz => by
        by_cases hq : z = b
        ·subst hq; exact .inl (by rw [g3]; simp)
        ·exact .inl (by simpa [hq] using hz)
       unfold jl at q3;cases hcb : en.cb with
       | none =>
        rw [hcb] at q3 g7;obtain ⟨q5, rfl⟩ := q3;obtain ⟨w', ⟨-, hw⟩, hl⟩ := uI O.e2 (O.cmp0 none 0 C.w) cs (v := .slice none 0 0) (fun _ _ q => q.1);subst hw;have T := A_ I hs hr (yg xs) (w' := C.w) g3 (fun c hc => by rw [hcb] at hc; cases hc) (fun _ => rfl);have hx0 : xs.length = 0 := by rw [<- g6', q5]
        refine ⟨_, ⟨C.w, C.RO, fun y => if y = b then some en else C.M y⟩, hl, T.2, T.1, .slc (e := en) (by simp) (by rw [g4]; exact Nat.le_refl _) (fun _ => ?_) ⟨_, _, _, rfl⟩, keep⟩;unfold nD;refine ⟨by omega, by show (0 : Int) <= ((mM xs).length : Int); omega, by show (0 : Int) + ((mM xs).length : Int) <= (en.len : Int); omega, ?_⟩;show match en.cb with | none => _ | some c => _
        rw [hcb];exact ⟨rfl, q5, rfl⟩
       | some c =>
        rw [hcb] at q3 g7;obtain ⟨cap, rfl, q5, q6⟩ := q3;obtain ⟨pre, p1, p2, p3⟩ := g7;obtain ⟨ss, rfl, rfl⟩ := wF p1;have hH : Sort.Holds encStr C.w c 0 ss.toArray := holds_of (fun j v hj => by have := p2 j v hj; simpa using this) p3;have hlen : en.len = ss.length := by rw [g6', List.length_map]
        have hss : ss.length < 4611686018427387904 := by
         have : (ss.map Ei).length < 4611686018427387904 := hlt;rw [List.length_map] at this; exact this
        have hcm : mM (ss.map Ei) = (Lib.compact ss).map Ei := by unfold mM; rw [NJ]
        have hcn : (mM (ss.map Ei)).length = (Lib.compact ss).length := by rw [hcm, List.length_map]
        obtain ⟨w', ⟨-, n, hw⟩, hl⟩ := uI O.e2 (O.cmp c 0 cap ss C.w hH (by omega) (by omega)) cs (v := .slice (some ⟨c, 0, none⟩) (Lib.compact ss).length cap) (fun _ _ q => q.1);rw [<- hlen] at hl;have hP : Puts C.w w' c (Lib.compact ss ++ List.replicate (ss.length - (Lib.compact ss).length) []) := by
         rw [hw, <- Sort.grow_empty (Sort.putRow encStr _ c 0 _)];refine NI (I.loc b en c g3 hcb).2 hH ?_;have := Lib.compact_length_le ss;rw [List.length_append, List.length_replicate]; omega
        have T := A_ I hs hr (yg (ss.map Ei)) (w' := w') g3 (fun c' hc => by
         rw [hcb] at hc; obtain rfl := Option.some.inj hc;refine ⟨_, ?_, hP⟩;unfold NH;rw [hcm, List.map_append, List.length_map, List.length_map, List.map_replicate]; rfl) (fun hc => by rw [hcb] at hc; cases hc)
        refine ⟨_, _, hl, T.2, T.1, .slc (e := en) (by simp) (by rw [g4]; exact Nat.le_refl _) (fun _ => ?_) ⟨_, _, _, rfl⟩, keep⟩;unfold nD;refine ⟨by omega, by show (0 : Int) <= ((mM (ss.map Ei)).length : Int); omega, by show (0 : Int) + ((mM (ss.map Ei)).length : Int) <= (en.len : Int); omega, ?_⟩;show match en.cb with | none => _ | some c => _
        rw [hcb];refine ⟨⟨c, 0, none⟩, cap, ?_, fun _ => by simp, ?_, fun j hj => ?_⟩
        ·show _ = Value.slice _ ((mM (ss.map Ei)).length : Int).toNat cap;rw [hcn]; simp
        ·show en.len <= (0 : Int).toNat + cap;simpa using q5
        ·have hj : j < cap := by simpa [Ty.size] using hj
         have := hP.some j (q6 j (by rw [hz]; omega));exact this
    ·cases e
   ·cases e
  ·cases e
end
def ors {P : Program} {K : SK} (h : K.OK P) : OO P := ⟨sorts K, fun _ _ => QV h⟩
end Go.AM
end
section
namespace Go.AM
variable [Tabs]
open Go.RowKit Go.Proofs
section
variable {P : Program}
theorem Callee.QW {k : Callee} (hen : (dQ P k.f []).isSome = true) (hok : k.res.xR = true)
  (h : ∀ RO w x vs r, dY ⟨w, RO, fun _ => none⟩ (encs k.args x) vs -> k.F x = some r -> Calls P k.f vs.toArray w fun e w' => ∃ val, e = .returned val /\ Below w.heap.size w w' /\ ∀ Y_, xW ⟨w', Y_, fun _ => none⟩ none k.res r val) : k.OK P := by
 refine ⟨fun vs w => ?_, hok, fun RO w x vs r PW _ hv hF cs => ?_⟩
 ·obtain ⟨g, hg⟩ := kG hen [];exact fD hg vs w
 ·obtain ⟨e, w', fr, ⟨val, rfl, h1, h2⟩, s1, s2, s3⟩ := h RO w x vs r hv hF cs;exact ⟨fr, w', val, none, s1, s2, s3, h1, fun c hc => by simp at hc, h2 _⟩
def Au (l : List Int) : Nat -> List Int
 | 0 => []
 | k + 1 => l ++ Au l k
def Ej : List Int × Int × Unit -> Option (List Int) := fun v =>
 bif decide (0 <= v.2.1) && Nat.ble (v.1.length * v.2.1.toNat) 140737488355328 then some (Au v.1 v.2.1.toNat) else none
theorem Dy (s : ByteArray) : ∀ k, bytesOf ⟨(Lib.repeatL s.data.toList k).toArray⟩ = Au (bytesOf s) k
 | 0 => rfl
 | k + 1 => by
  have := Dy s k;simp only [bytesOf, Lib.repeatL, Au, List.map_append] at *;rw [this]
theorem O9 {f : FuncId} (hen : (dQ P f []).isSome = true)
  (h : ∀ (s : ByteArray) (c : Nat) (w : World), c <= 9223372036854775807 -> s.size * c <= 140737488355328 -> Calls P f #[.string s, .int .i64 c] w fun e w' => e = .returned (.string ⟨(Lib.repeatL s.data.toList c).toArray⟩) /\ Below w.heap.size w w') :
  Callee.OK P ⟨f, [.one .str, .one (.int .i64)], .one (.sh (.one .str)), Ej⟩ := by
 refine Callee.QW hen rfl fun RO w x vs r hv hF => ?_
 obtain ⟨l, n, ⟨⟩⟩ := x;revert hv hF;generalize hl : (l : List Int) = l';generalize hn : (n : Int) = n';clear hl hn l n;revert l' n';intro (l : List Int) (n : Int) hv hF;have hv : dY ⟨w, RO, fun _ => none⟩ [.str l, .int .i64 n] vs := hv;have hF : (bif decide (0 <= n) && Nat.ble (l.length * n.toNat) 140737488355328 then some (Au l n.toNat) else none) = some r := hF;cases hv with
 | cons h1 h2 =>
  cases h2 with
  | cons h2 h3 =>
   cases h3;cases h1 with
   | @str s _ hs =>
    cases h2 with
    | int hr =>
     simp only [cond_eq_ite] at hF;split at hF
     ·rename_i hc;simp only [Bool.and_eq_true, decide_eq_true_eq] at hc;obtain ⟨h0, hc⟩ := hc;have hc := Nat.le_of_ble_eq_true hc;obtain rfl := Option.some.inj hF;obtain ⟨c, rfl⟩ := Int.eq_ofNat_of_zero_le h0;simp only [aS, Bool.and_eq_true, decide_eq_true_eq] at hr;have hm : (IntKind.max .i64) = 9223372036854775807 := by decide
      rw [hm] at hr;have hsz : s.size = l.length := by rw [<- hs]; unfold bytesOf; rw [List.length_map]; rfl
      refine (h s c w (by omega) ?_).mono ?_
      ·rw [hsz]; exact hc
      ·rintro e w' ⟨rfl, hb⟩
       refine ⟨_, rfl, hb, fun Y_ => ?_⟩;show VR _ (.str (Au l (Int.toNat c))) _;refine .str ?_;rw [Dy, hs]; rfl
     ·simp at hF
end
end Go.AM
end
