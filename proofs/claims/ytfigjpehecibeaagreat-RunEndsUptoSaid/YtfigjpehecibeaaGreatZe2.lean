/- Texts joined by a program of mine: Ws Wk Wp Wn Wq Wv10 Wv11 Wv12 Wv13 Wv14 Wv15 Wh Wd Wg Wx Wy Wl Lr Lq Wf Wc Va Ta Tc Td. -/
import Derived.Deep.MidRow
import Derived.Test.YtfigjpehecibeaaGreatZe1
open And renaming intro -> ae
open Bool renaming false -> J, true -> af, false_and -> jb, false_eq_true -> jv, and_eq_true -> bo, true_and -> jy
open ByteArray renaming empty -> fe
open Decidable renaming em -> gh
open Go.Act renaming put -> ax
open Go.Ending renaming returned -> fw
open Go.IntKind renaming bits -> ik, signed -> jg
open Go.Oper renaming wp -> jf
open Go.Proofs.Tryz renaming prog -> ak, underlying125 -> ew
open Go.Proofs.YtfigjpehecibeaaGreatW.PrintWords.Aside0 renaming mk -> I
open Go.Region renaming wanted -> dg
open Go.RowKit.Below renaming refl -> aq, heap_alloc -> gn, heap_setCell -> dw
open Go.Value renaming int -> ba, ownBlock -> dh
open Go.World renaming block_lt_of_cell? -> aj, setCell -> iu
open Int renaming eq_ofNat_of_zero_le -> dn, toNat_natCast -> av, natCast_nonneg -> bc, lt_or_le -> cu, natCast_mul -> il
open List renaming range -> br, mem_range -> ja, cons_append -> gq, append_assoc -> dr, length_cons -> iv, length_append -> ay, getElem_of_mem -> fz, getD_eq_getElem?_getD -> au, getElem?_eq_getElem -> az, getElem_mem -> ef, setIfInBounds_toArray -> aa, set_cons_zero -> ah, set_cons_succ -> ai, map_toArray -> cb, map_cons -> cm, map_nil -> cw, all_eq_true -> dz, map_append -> fg, take_length -> di, mem_cons -> gi, mem_append -> fu, length_singleton -> bk, sizeOf_lt_of_mem -> eu, range_succ -> js, drop_eq_nil_of_le -> jp, drop_eq_getElem_cons -> ig, getElem?_map -> kg, take_zero -> jq, length_take -> cn
open Nat renaming zero_le -> bi, le_refl -> ar, le_trans -> bh, lt_of_lt_of_le -> bq, not_lt_zero -> cq, lt_or_ge -> gj, mul_one -> gu, add_zero -> fq, eq_zero_or_pos -> cf, div_le_self -> iq, min_eq_right -> iw, mul_le_mul_right -> fj, min_eq_left -> cy, add_assoc -> ic, not_lt -> jj
open Option renaming none -> ag, some -> ac
open Or renaming inl -> bg
open SizeOf renaming sizeOf -> cd
set_option linter.unusedVariables false
set_option linter.unusedSimpArgs false
set_option maxHeartbeats 8000000
namespace Go.Proofs.YtfigjpehecibeaaGreat.L
def eqS (a b : ByteArray) : Bool := decide (a.toList = b.toList)
def iC (l : List ByteArray) (s : ByteArray) : Bool := l.any (eqS · s)
def aZ (n : Nat) (f : Nat -> Bool) : Option Nat := (br n).find? f
theorem bG {n : Nat} {f : Nat -> Bool} (h : ∀ j, j < n -> f j = J) : aZ n f = ag := by
 unfold aZ
 rw [List.find?_eq_none]
 intro x hx
 rw [h x (ja.1 hx)]
 decide
theorem cB {n i : Nat} {f : Nat -> Bool} (hi : i < n) (hf : f i = af) (h : ∀ j, j < i -> f j = J) : aZ n f = ac i := by
 unfold aZ
 rw [List.find?_range_eq_some]
 exact ⟨hf, ja.2 hi, fun j hj => by simp [h j hj]⟩
theorem dD (n : Nat) (f : Nat -> Bool) : (aZ n f = ag /\ ∀ j, j < n -> f j = J) \/ ∃ i, i < n /\ aZ n f = ac i /\ f i = af /\ ∀ j, j < i -> f j = J := by
 cases h : aZ n f with
 | none =>
   refine .inl ⟨rfl, fun j hj => ?_⟩
   have := List.find?_eq_none.1 h j (ja.2 hj)
   simpa using this
 | some i =>
   have h2 := List.find?_range_eq_some.1 h
   exact .inr ⟨i, ja.1 h2.2.1, rfl, h2.1, fun j hj => by simpa using h2.2.2 j hj⟩
theorem jA {n : Nat} {f g : Nat -> Bool} (h : ∀ j, j < n -> f j = g j) : aZ n f = aZ n g := by
 rcases dD n f with ⟨h1, h2⟩ | ⟨i, h0, h1, h2, h3⟩
 ·rw [h1, bG fun j hj => (h j hj) ▸ h2 j hj]
 ·rw [h1, cB h0 ((h i h0) ▸ h2) fun j hj => (h j (by omega)) ▸ h3 j hj]
inductive Th where
 | decl (i : Nat)
 | stmt (s : S119) (deep : Nat) (loops : List ByteArray)
 | expr (e : S116) (loops : List ByteArray)
mutual
def dX : S116 -> List ByteArray -> List Th
 | ⟨a, b, c, l⟩, lo => .expr ⟨a, b, c, l⟩ lo :: e7 l lo
def e7 : List S116 -> List ByteArray -> List Th
 | [], _ => []
 | x :: r, lo => dX x lo ++ e7 r lo
end
def inLoop (k : Int) (nm : ByteArray) (lo : List ByteArray) : List ByteArray := if k = 4 then lo ++ [nm] else lo
mutual
def stTh : S119 -> Nat -> List ByteArray -> List Th
 | ⟨k, nm, at', e, l, h, th, el⟩, d, lo => .stmt ⟨k, nm, at', e, l, h, th, el⟩ d lo :: ((if k = 2 then dX at' lo else []) ++ (if k = 1 \/ k = 2 \/ k = 3 then dX e lo else []) ++ (aL th (d + 1) (inLoop k nm lo) ++ aL el (d + 1) (inLoop k nm lo)))
def aL : List S119 -> Nat -> List ByteArray -> List Th
 | [], _, _ => []
 | x :: r, d, lo => stTh x d lo ++ aL r d lo
end
theorem iI (x : S116) (lo : List ByteArray) : dX x lo = .expr x lo :: e7 x.f3 lo := by
 obtain ⟨a, b, c, l⟩ := x
 rw [dX]
theorem rJ (l : List S116) (x : S116) (lo : List ByteArray) : e7 (l ++ [x]) lo = e7 l lo ++ dX x lo := by
 induction l with
 | nil => simp [e7]
 | cons y r ih => rw [gq, e7, ih, e7, dr]
theorem dR (x : S119) (d : Nat) (lo : List ByteArray) : stTh x d lo = .stmt x d lo :: ((if x.f0 = 2 then dX x.f2 lo else []) ++ (if x.f0 = 1 \/ x.f0 = 2 \/ x.f0 = 3 then dX x.f3 lo else []) ++ (aL x.f6 (d + 1) (inLoop x.f0 x.f1 lo) ++ aL x.f7 (d + 1) (inLoop x.f0 x.f1 lo))) := by
 obtain ⟨k, nm, at', e, l, h, th, el⟩ := x
 rw [stTh]
theorem eY (l : List S119) (x : S119) (d : Nat) (lo : List ByteArray) : aL (l ++ [x]) d lo = aL l d lo ++ stTh x d lo := by
 induction l with
 | nil => simp [aL]
 | cons y r ih => rw [gq, aL, ih, aL, dr]
def things (ds : List S70) (bd : List S119) : List Th := (br ds.length).map .decl ++ aL bd 1 []
mutual
theorem cG : ∀ (x : S116) (lo : List ByteArray), (dX x lo).length = aK x
 | ⟨a, b, s, l⟩, lo => by rw [dX, aK, iv, mA l lo]; omega
theorem mA : ∀ (l : List S116) (lo : List ByteArray), (e7 l lo).length = bN l
 | [], _ => by rw [e7, bN]; rfl
 | x :: r, lo => by rw [e7, bN, ay, cG x lo, mA r lo]
end
mutual
theorem stTh_len : ∀ (x : S119) (d : Nat) (lo : List ByteArray), (stTh x d lo).length <= Ot.nQ x
 | ⟨k, nm, at', e, l, h, th, el⟩, d, lo => by
   rw [stTh, Ot.nQ, iv, ay, ay, ay]
   have h1 : (if k = 2 then dX at' lo else []).length <= Ot.lG at' := by
    split
    ·rw [cG]; exact aS _
    ·exact bi _
   have h2 : (if k = 1 \/ k = 2 \/ k = 3 then dX e lo else []).length <= Ot.lG e := by
    split
    ·rw [cG]; exact aS _
    ·exact bi _
   have h3 := cY th (d + 1) (inLoop k nm lo)
   have h4 := cY el (d + 1) (inLoop k nm lo)
   omega
theorem cY : ∀ (l : List S119) (d : Nat) (lo : List ByteArray), (aL l d lo).length <= Ot.bW l
 | [], _, _ => by rw [aL]; exact bi _
 | x :: r, d, lo => by rw [aL, Ot.bW, ay]; have := stTh_len x d lo; have := cY r d lo; omega
end
def cZ (n : Int) : Bool := n == 1 || n == 2 || n == 4 || n == 8 || n == 16 || n == 32 || n == 64 || n == 128 || n == 256
def cV (w : Int) : Bool := w == 4 || w == 8 || w == 16 || w == 32 || w == 64
def gH (w x : Int) : Bool := decide (64 <= w) || decide (x < 2 ^ w.toNat)
def bZ (ds : List S70) (nm : ByteArray) : Option Nat := aZ ds.length fun i => eqS (aG ds i).f1 nm
def cK (d : S70) : Int := if d.f2 = 0 then 1 else d.f2
def isIn (d : S70) : Bool := d.f0 == 1 || d.f0 == 2
def dB (ds : List S70) : Int := ((ds.filter isIn).map cK).sum
def cP (ds : List S70) (i : Nat) : Bool := (aZ i fun j => eqS (aG ds j).f1 (aG ds i).f1).isSome
def bS (ds : List S70) (i : Nat) : Bool := (aG ds i).f2 != 0 && !cZ (aG ds i).f2
def bD (ds : List S70) (i : Nat) : Bool := (aG ds i).f0 == 3 && ((aG ds i).f3.length : Int) != (aG ds i).f2
def cC (wd : Int) (ds : List S70) (i : Nat) : Bool := (aG ds i).f3.any fun v => !gH wd v
def iO : Th -> Option ByteArray
 | .decl _ => ag
 | .stmt s _ _ => if s.f0 = 1 \/ s.f0 = 2 \/ s.f0 = 5 then ac s.f1 else ag
 | .expr e _ => if e.f0 = 2 \/ e.f0 = 3 then ac e.f2 else ag
def gF : Th -> List ByteArray
 | .decl _ => []
 | .stmt _ _ l => l
 | .expr _ l => l
def mM (d : S70) : Th -> Bool
 | .decl _ => d.f2 == 0
 | .stmt s _ _ => if s.f0 = 2 then d.f2 != 0 && d.f0 != 3 else d.f2 == 0
 | .expr e _ => if e.f0 = 2 then d.f2 == 0 else d.f2 != 0
def nW : Th -> Bool
 | .expr e _ => e.f0 == 2
 | _ => J
def oH (ds : List S70) (t : Th) (nm : ByteArray) : Bool := if iC (gF t) nm = af then nW t else mM (aG ds ((bZ ds nm).getD 0)) t
def qZ : Th -> Bool
 | .decl _ => J
 | .stmt _ d _ => decide (64 < d)
 | .expr e _ => decide (64 < fY e)
def jF (ds : List S70) (t : Th) : Bool := match iO t with
 | none => J
 | some nm => !iC (gF t) nm && (bZ ds nm).isNone
def mY (ds : List S70) (t : Th) : Bool := match iO t with
 | none => J
 | some nm => !oH ds t nm
def bad13 (wd : Int) : Th -> Bool
 | .expr e _ => e.f0 == 1 && !gH wd e.f1
 | _ => J
def oG (wd : Int) : Th -> Bool
 | .stmt s _ _ => s.f0 == 4 && (decide (s.f5 < s.f4) || (decide (0 < s.f5) && !gH wd (s.f5 - 1)))
 | _ => J
def lP (ds : List S70) : Th -> Bool
 | .stmt s _ l => s.f0 == 4 && ((bZ ds s.f1).isSome || iC l s.f1)
 | _ => J
def nC (wd : Int) (ds : List S70) (c : Nat) : Th -> Bool :=
 if c = 10 then qZ else if c = 11 then jF ds else if c = 12 then mY ds else if c = 13 then bad13 wd else if c = 14 then oG wd else lP ds
def oT (c : Nat) : Int := if c = 10 then 152 else if c = 11 then 161 else if c = 12 then 162 else if c = 13 then 165 else if c = 14 then 166 else 167
def bM (l : List Th) (i : Nat) : Th := l.getD i (.decl 0)
def bI (wd : Int) (ds : List S70) (l : List Th) (c : Nat) : Option Nat := aZ l.length fun i => nC wd ds c (bM l i)
structure Ans where
 c : Int
 at' : Int
 e : Int
def dH (wd : Int) (ds : List S70) (bd : List S119) (l : List Th) : Nat -> Ans
 | 0 => if 65536 < bR bd then ⟨16, -1, 168⟩ else ⟨0, 0, 0⟩
 | n + 1 => match bI wd ds l (15 - n) with
   | some i => ⟨((15 - n : Nat) : Int), i, oT (15 - n)⟩
   | none => dH wd ds bd l n
def eZ (wd : Int) (ds : List S70) (bd : List S119) : Ans := match aZ ds.length (cP ds) with
 | some i => ⟨5, i, 160⟩
 | none => match aZ ds.length (bS ds) with
   | some i => ⟨6, i, 163⟩
   | none => match aZ ds.length (bD ds) with
     | some i => ⟨7, i, 164⟩
     | none => match aZ ds.length (cC wd ds) with
       | some i => ⟨8, i, 165⟩
       | none => if 4096 < dB ds then ⟨9, -1, 169⟩ else dH wd ds bd (things ds bd) 6
def bJ (nm : ByteArray) (wd ln : Int) (ds : List S70) (bd : List S119) : Ans :=
 if dG nm wd ln ds bd = J then ⟨1, -1, 1⟩
 else if cV wd = J then ⟨2, -1, 5⟩
 else if cZ ln = J then ⟨3, -1, 163⟩
 else if 256 < ds.length then ⟨4, -1, 4⟩
 else eZ wd ds bd
end Go.Proofs.YtfigjpehecibeaaGreat.L
namespace Go.Proofs.YtfigjpehecibeaaGreat.L
open Go.RowKit Go.Proofs.YtfigjpehecibeaaGreatW.PrintWords Go.Proofs.YtfigjpehecibeaaGreatW.PrintLast Go.Proofs.YtfigjpehecibeaaGreatW.PrintMore Go.Proofs.YtfigjpehecibeaaGreat.Gr
def lent {α : Type} (W0 : World) (d : Kd α) : Kd α where
 sz := d.sz
 E := []
 K := fun _ x cs => d.K W0 x cs
 M := fun _ _ _ x cs => d.K W0 x cs
 K_len := d.K_len
 K_one := d.K_one
 K_below := fun _ h => h
 K_of_M := fun h => h
 M_mono := fun _ h => h
 M_bound := fun h => h
 M_move := fun _ h => h
 M_lower := fun _ h => h
structure TV where
 is : Int
 d : Int
 s : S119
 e : S116
 deep : Int
 loops : List ByteArray
def kTh (W0 : World) : Kd TV := Kd.iso (Kd.pair (Kd.int .i64) (Kd.pair (Kd.int .i64) (Kd.pair (lent W0 dC) (Kd.pair (lent W0 cQ) (Kd.pair (Kd.int .i64) (Kd.slice 9 Kd.string)))))) (fun x : TV => (x.is, x.d, x.s, x.e, x.deep, x.loops))
def aY : Th -> TV
 | .decl i => ⟨0, i, z119, z116, 0, []⟩
 | .stmt s d lo => ⟨1, 0, s, z116, d, lo⟩
 | .expr e lo => ⟨2, 0, z119, e, fY e, lo⟩
theorem kTh_open {W0 w : World} {x : TV} {cs : List Value} (h : (kTh W0).K w x cs) : ∃ A5 c5 A9 c9 A12 c12 A13 c13 A19 c19 A21 c21,
 cs = [.int .i64 x.is, .int .i64 x.d, .int .i64 x.s.f0, .string x.s.f1, .int .i64 x.s.f2.f0, .int .u64 x.s.f2.f1, .string x.s.f2.f2, .slice A5 x.s.f2.f3.length c5, .int .i64 x.s.f3.f0, .int .u64 x.s.f3.f1, .string x.s.f3.f2, .slice A9 x.s.f3.f3.length c9, .int .u64 x.s.f4, .int .u64 x.s.f5, .slice A12 x.s.f6.length c12, .slice A13 x.s.f7.length c13,
  .int .i64 x.e.f0, .int .u64 x.e.f1, .string x.e.f2, .slice A19 x.e.f3.length c19, .int .i64 x.deep, .slice A21 x.loops.length c21] /\
 x.s.f2.f3.length <= c5 /\ cQ.C W0 A5 x.s.f2.f3.length x.s.f2.f3 /\ x.s.f3.f3.length <= c9 /\ cQ.C W0 A9 x.s.f3.f3.length x.s.f3.f3 /\ x.s.f6.length <= c12 /\ dC.C W0 A12 x.s.f6.length x.s.f6 /\ x.s.f7.length <= c13 /\ dC.C W0 A13 x.s.f7.length x.s.f7 /\
 x.e.f3.length <= c19 /\ cQ.C W0 A19 x.e.f3.length x.e.f3 /\ x.loops.length <= c21 /\ Kd.string.C w A21 x.loops.length x.loops := by
 obtain ⟨_, _, rfl, rfl, ⟨_, _, rfl, rfl, ⟨_, _, rfl, s2, ⟨_, _, rfl, s3, ⟨_, _, rfl, rfl, ⟨A21, c21, rfl, l21, g21⟩⟩⟩⟩⟩⟩ := h
 obtain ⟨A5, c5, A9, c9, A12, c12, A13, c13, hs, l5, g5, l9, g9, l12, g12, l13, g13⟩ := k119_open (show dC.K W0 x.s _ from s2)
 obtain ⟨A19, c19, he, l19, g19⟩ := jU (show cQ.K W0 x.e _ from s3)
 subst hs he
 exact ⟨A5, c5, A9, c9, A12, c12, A13, c13, A19, c19, A21, c21, rfl, l5, g5, l9, g9, l12, g12, l13, g13, l19, g19, l21, g21⟩
theorem C_nil {α : Type} (d : Kd α) (W : World) : d.C W ag 0 [] := by
 obtain ⟨A, c, e, l, g⟩ := Kd.d7 (Kd.jN d 75 W 0 (fun _ => True))
 cases e
 exact g
theorem jH (W : World) : cQ.K W z116 [.int .i64 0, .int .u64 0, .string ⟨#[]⟩, .slice ag 0 0] := rD W z116 (A3 := ag) (c3 := 0) (ar _) (C_nil cQ W)
theorem k119_zero (W : World) : dC.K W z119 [.int .i64 0, .string ⟨#[]⟩, .int .i64 0, .int .u64 0, .string ⟨#[]⟩, .slice ag 0 0, .int .i64 0, .int .u64 0, .string ⟨#[]⟩, .slice ag 0 0, .int .u64 0, .int .u64 0, .slice ag 0 0, .slice ag 0 0] :=
 lS W z119 (ar _) (C_nil cQ W) (ar _) (C_nil cQ W) (ar _) (C_nil dC W) (ar _) (C_nil dC W)
theorem qK {W0 w : World} {base : Nat} {ok : Nat -> Prop} {x : TV} {cs ce : List Value} {lv : Value} (hs : dC.K W0 x.s cs) (he : cQ.K W0 x.e ce) (hl : Kd.string.R 9 w base ok lv x.loops) :
 (kTh W0).M w base ok x ([.int .i64 x.is, .int .i64 x.d] ++ cs ++ ce ++ [.int .i64 x.deep, lv]) :=
 ⟨[.int .i64 x.is], [.int .i64 x.d] ++ cs ++ ce ++ [.int .i64 x.deep, lv], by simp, rfl, [.int .i64 x.d], cs ++ ce ++ [.int .i64 x.deep, lv], by simp, rfl, cs, ce ++ [.int .i64 x.deep, lv], by simp, hs, ce, [.int .i64 x.deep, lv], by simp, he, [.int .i64 x.deep], [lv], rfl, rfl, lv, rfl, hl⟩
structure Gro (W0 w w1 : World) (v v1 : Value) : Prop where
 below : Below W0.heap.size W0 w1
 grown : w.grownBy w1 v.ownBlock
 at' : v1.ownBlock = v.ownBlock \/ ∃ b, v1.ownBlock = ac b /\ w.heap.size <= b
theorem Gro.trans {W0 w w1 w2 : World} {v v1 v2 : Value} (h : Gro W0 w w1 v v1) (k : Gro W0 w1 w2 v1 v2) : Gro W0 w w2 v v2 := by
 refine ⟨k.below, ⟨k.grown.os.trans h.grown.os, k.grown.tape.trans h.grown.tape, k.grown.output.trans h.grown.output, bh h.grown.size k.grown.size, fun i hi hn => ?_⟩, ?_⟩
 ·refine (k.grown.block i (bq hi h.grown.size) ?_).trans (h.grown.block i hi hn)
  rcases h.at' with ha | ⟨b, hb, hle⟩
  ·rw [ha]; exact hn
  ·rw [hb]
   intro he
   injection he with he
   omega
 ·rcases k.at' with ha | ⟨b, hb, hle⟩
  ·rw [ha]; exact h.at'
  ·exact .inr ⟨b, hb, bh h.grown.size hle⟩
theorem Gro.of_below {W0 w w1 : World} (v : Value) (hb : Below W0.heap.size W0 w) (h : Below w.heap.size w w1) : Gro W0 w w1 v v :=
 ⟨hb.trans (h.mono hb.size), ⟨h.os, h.tape, h.output, h.size, fun k hk _ => h.block k hk⟩, .inl rfl⟩
def Li (tT : Nat) (W0 w : World) (v : Value) (xs : List Th) : Prop := (kTh W0).R tT w W0.heap.size (fun _ => True) v (xs.map aY)
def Lo (W0 w : World) (v lv : Value) (lo : List ByteArray) : Prop := Kd.string.R 9 w W0.heap.size (fun k => ac k ≠ v.ownBlock) lv lo
theorem Li.below {tT : Nat} {W0 w w1 : World} {v : Value} {xs : List Th} (h : Li tT W0 w v xs) (hb : Below w.heap.size w w1) : Li tT W0 w1 v xs := Kd.bK h hb
theorem Lo.step {W0 w w1 : World} {v v1 lv : Value} {lo : List ByteArray} (h : Lo W0 w v lv lo) (hg : Gro W0 w w1 v v1) : Lo W0 w1 v1 lv lo := by
 have h1 := Kd.eG h
 have h2 := Kd.nJ h1 hg.grown (fun k hk => hk.1)
 refine Kd.eD h2 fun k hk => ?_
 rcases hg.at' with ha | ⟨b, hb, hle⟩
 ·rw [ha]; exact hk.1
 ·rw [hb]
  intro he
  injection he with he
  have := hk.2.2.1
  omega
theorem Lo.nil (W0 w : World) (v : Value) : Lo W0 w v (.slice ag 0 0) [] := Kd.jN _ _ _ _ _
theorem power_eq (n : Int) : cadenceref16_power.f 10 n = ac (cZ n) := by
 unfold cadenceref16_power.f cZ
 by_cases h1 : n = 1
 ·subst h1; rfl
 by_cases h2 : n = 2
 ·subst h2; rfl
 by_cases h4 : n = 4
 ·subst h4; rfl
 by_cases h8 : n = 8
 ·subst h8; rfl
 by_cases h16 : n = 16
 ·subst h16; rfl
 by_cases h32 : n = 32
 ·subst h32; rfl
 by_cases h64 : n = 64
 ·subst h64; rfl
 by_cases h128 : n = 128
 ·subst h128; rfl
 by_cases h256 : n = 256
 ·subst h256; rfl
 have e : ∀ z : Int, 0 <= z -> z < 1000 -> IntKind.u64.wrap (2 * z) = 2 * z := by
  intro z h0 h1
  simp only [IntKind.wrap, ik, jg, jb, jv, if_false]
  omega
 have st : ∀ (k : Nat) (z : Int), ¬ n = z -> 0 <= z -> z <= 256 -> cadenceref16_power.l0 (k + 1) n z = cadenceref16_power.l0 k n (2 * z) := by
  intro k z hn h0 h1
  rw [cadenceref16_power.l0, if_pos h1, if_neg hn, e z h0 (by omega)]
 rw [st 9 1 h1 (by decide) (by decide), show (2 : Int) * 1 = 2 from rfl, st 8 2 h2 (by decide) (by decide), show (2 : Int) * 2 = 4 from rfl, st 7 4 h4 (by decide) (by decide), show (2 : Int) * 4 = 8 from rfl,
  st 6 8 h8 (by decide) (by decide), show (2 : Int) * 8 = 16 from rfl, st 5 16 h16 (by decide) (by decide), show (2 : Int) * 16 = 32 from rfl, st 4 32 h32 (by decide) (by decide), show (2 : Int) * 32 = 64 from rfl,
  st 3 64 h64 (by decide) (by decide), show (2 : Int) * 64 = 128 from rfl, st 2 128 h128 (by decide) (by decide), show (2 : Int) * 128 = 256 from rfl, st 1 256 h256 (by decide) (by decide), show (2 : Int) * 256 = 512 from rfl]
 rw [cadenceref16_power.l0, if_neg (by decide)]
 simp [h1, h2, h4, h8, h16, h32, h64, h128, h256]
theorem fits_eq (w x : Int) (h0 : 0 <= w) (hx : 0 <= x) : cadenceref16_fits.f w x = ac (gH w x) := by
 unfold cadenceref16_fits.f gH
 by_cases h : w ≥ 64
 ·rw [if_pos h, decide_eq_true h]; rfl
 ·rw [if_neg h, decide_eq_false h]
  have e : IntKind.u64.wrap w = w := by
   simp only [IntKind.wrap, ik, jg, jb, jv, if_false]
   omega
  rw [e, if_pos h0]
  congr 1
  rw [Bool.false_or]
  congr 1
  have hw : w < 64 := by omega
  obtain ⟨n, rfl⟩ := dn h0
  have hn : n < 64 := by omega
  rw [show Int.toNat (n : Int) = n from rfl]
  have key : shl .u64 1 (n : Int) = 2 ^ n := by
   clear e h h0 hw
   revert n
   decide
  rw [key]
theorem in_eq : ∀ (d k i : Nat) (l : List ByteArray) (s : ByteArray), i + d = l.length -> d < k -> l.length <= 9223372036854775807 -> (∀ j, j < i -> eqS (rdOf fe l (j : Int)) s = J) -> cadenceref16_in.l0 k l s (i : Int) = ac (iC l s) := by
 intro d
 induction d with
 | zero =>
   intro k i l s hi hk hl hn
   obtain ⟨k, rfl⟩ : ∃ k', k = k' + 1 := ⟨k - 1, by omega⟩
   rw [cadenceref16_in.l0, if_neg (by omega)]
   congr 1
   symm
   unfold iC
   rw [List.any_eq_false]
   intro y hy
   obtain ⟨j, hj, rfl⟩ := fz hy
   have := hn j (by omega)
   unfold rdOf at this
   rw [av, au, az hj] at this
   simpa using this
 | succ d ih =>
   intro k i l s hi hk hl hn
   obtain ⟨k, rfl⟩ : ∃ k', k = k' + 1 := ⟨k - 1, by omega⟩
   rw [cadenceref16_in.l0, if_pos (by omega), if_pos (by omega)]
   by_cases h : (rdOf fe l (i : Int)).toList = s.toList
   ·rw [if_pos h]
    congr 1
    symm
    unfold iC
    rw [List.any_eq_true]
    have hj : i < l.length := by omega
    refine ⟨l[i], ef _, ?_⟩
    unfold rdOf at h
    rw [av, au, az hj] at h
    exact decide_eq_true h
   ·rw [if_neg h, show wrap64 ((i : Int) + 1) = ((i + 1 : Nat) : Int) by unfold wrap64; omega]
    refine ih k (i + 1) l s (by omega) (by omega) hl fun j hj => ?_
    by_cases hji : j = i
    ·subst hji; exact decide_eq_false h
    ·exact hn j (by omega)
def fQ (ds : List S70) (nm : ByteArray) : Int := match bZ ds nm with
 | some i => i
 | none => -1
theorem Decl_eq : ∀ (d k i : Nat) (ds : List S70) (s a0 : ByteArray) (a1 a2 : Int) (bd : List S119), i + d = ds.length -> d < k -> ds.length <= 9223372036854775807 -> (∀ j, j < i -> eqS (aG ds (j : Int)).f1 s = J) -> cadenceref16_Decl.l0 k s (i : Int) a0 a1 a2 ds bd = ac (fQ ds s) := by
 intro d
 induction d with
 | zero =>
   intro k i ds s a0 a1 a2 bd hi hk hl hn
   obtain ⟨k, rfl⟩ : ∃ k', k = k' + 1 := ⟨k - 1, by omega⟩
   rw [cadenceref16_Decl.l0, if_neg (by omega)]
   congr 1
   unfold fQ bZ
   rw [bG fun j hj => hn j (by omega)]
 | succ d ih =>
   intro k i ds s a0 a1 a2 bd hi hk hl hn
   obtain ⟨k, rfl⟩ : ∃ k', k = k' + 1 := ⟨k - 1, by omega⟩
   rw [cadenceref16_Decl.l0, if_pos (by omega), if_pos (by omega)]
   by_cases h : (aG ds (i : Int)).f1.toList = s.toList
   ·rw [if_pos h]
    congr 1
    unfold fQ bZ
    rw [cB (by omega) (decide_eq_true h) hn]
   ·rw [if_neg h, show wrap64 ((i : Int) + 1) = ((i + 1 : Nat) : Int) by unfold wrap64; omega]
    refine ih k (i + 1) ds s a0 a1 a2 bd (by omega) (by omega) hl fun j hj => ?_
    by_cases hji : j = i
    ·subst hji; exact decide_eq_false h
    ·exact hn j (by omega)
section
attribute [local go_sem] G.cell
def iR (x : TV) : ByteArray × Bool :=
 if x.is = 2 /\ (x.e.f0 = 2 \/ x.e.f0 = 3) then (x.e.f2, af) else if x.is = 1 /\ (x.s.f0 = 1 \/ x.s.f0 = 2 \/ x.s.f0 = 5) then (x.s.f1, af) else (⟨#[]⟩, J)
set_option maxRecDepth 100000 in
theorem gE (x : TV) {A5 : Option Addr} {c5 : Nat} {A9 : Option Addr} {c9 : Nat} {A12 : Option Addr} {c12 : Nat} {A13 : Option Addr} {c13 : Nat} {A19 : Option Addr} {c19 : Nat} {A21 : Option Addr} {c21 : Nat} (w : World) (hx : x.is = 0 \/ x.is = 1 \/ x.is = 2) :
 Calls ak 227 #[(.agg #[.int .i64 x.is, .int .i64 x.d, .int .i64 x.s.f0, .string x.s.f1, .int .i64 x.s.f2.f0, .int .u64 x.s.f2.f1, .string x.s.f2.f2, .slice A5 x.s.f2.f3.length c5, .int .i64 x.s.f3.f0, .int .u64 x.s.f3.f1, .string x.s.f3.f2, .slice A9 x.s.f3.f3.length c9, .int .u64 x.s.f4, .int .u64 x.s.f5, .slice A12 x.s.f6.length c12, .slice A13 x.s.f7.length c13, .int .i64 x.e.f0, .int .u64 x.e.f1, .string x.e.f2, .slice A19 x.e.f3.length c19, .int .i64 x.deep, .slice A21 x.loops.length c21])] w fun e w' => e = .returned (.tuple #[.string (iR x).1, .bool (iR x).2]) /\ Below w.heap.size w w' := by
 have hb : ∀ o : Obj, Below w.heap.size w (w.alloc o) := fun o => (aq _ _).alloc (ar _) o
 rcases hx with h0 | h1 | h2
 ·go_enter Tryz.func227, Tryz.ntmps227
  go_wp2_with fail
  go_ret2
  exact ⟨by simp [iR, h0], hb _⟩
 ·have hk : x.s.f0 = 1 \/ x.s.f0 = 2 \/ x.s.f0 = 5 \/ (¬ x.s.f0 = 1 /\ ¬ x.s.f0 = 2 /\ ¬ x.s.f0 = 5) := by omega
  have bf : ∀ {z a : Int}, ¬ z = a -> (z == a) = J := fun h => by simpa using h
  rcases hk with k | k | k | ⟨k1, k2, k5⟩
  rotate_right
  ·have b1 := bf k1
   have b2 := bf k2
   have b5 := bf k5
   go_enter Tryz.func227, Tryz.ntmps227
   go_wp2_with fail
   go_ret2
   exact ⟨by simp [iR, h1, k1, k2, k5], hb _⟩
  all_goals
   go_enter Tryz.func227, Tryz.ntmps227
   go_wp2_with fail
   go_ret2
  ·exact ⟨by simp [iR, h1, k], hb _⟩
  ·exact ⟨by simp [iR, h1, k], hb _⟩
  ·exact ⟨by simp [iR, h1, k], hb _⟩
 ·have hk : x.e.f0 = 2 \/ x.e.f0 = 3 \/ (¬ x.e.f0 = 2 /\ ¬ x.e.f0 = 3) := by omega
  have bf : ∀ {z a : Int}, ¬ z = a -> (z == a) = J := fun h => by simpa using h
  rcases hk with k | k | ⟨k2, k3⟩
  rotate_right
  ·have b2 := bf k2
   have b3 := bf k3
   go_enter Tryz.func227, Tryz.ntmps227
   go_wp2_with fail
   go_ret2
   exact ⟨by simp [iR, h2, k2, k3], hb _⟩
  all_goals
   go_enter Tryz.func227, Tryz.ntmps227
   go_wp2_with fail
   go_ret2
  ·exact ⟨by simp [iR, h2, k], hb _⟩
  ·exact ⟨by simp [iR, h2, k], hb _⟩
end
section
variable (nm : ByteArray) (wd ln : Int) (ds : List S70) (bd : List S119) (A3 : Option Addr) (c3 : Nat) (A4 : Option Addr) (c4 : Nat)
section
attribute [local go_sem] G.cell
structure ProgAt (w : World) (ds : List S70) (bd : List S119) (A3 : Option Addr) (c3 : Nat) (A4 : Option Addr) (c4 : Nat) : Prop where
 hd : k70.C w A3 ds.length ds
 hld : ds.length <= c3
 hb : dC.C w A4 bd.length bd
 hlb : bd.length <= c4
theorem ProgAt.below {w w' : World} {ds : List S70} {bd : List S119} {A3 : Option Addr} {c3 : Nat} {A4 : Option Addr} {c4 : Nat} (h : ProgAt w ds bd A3 c3 A4 c4) (hb : Below w.heap.size w w') : ProgAt w' ds bd A3 c3 A4 c4 := ⟨Kd.aF h.hd hb, h.hld, Kd.aF h.hb hb, h.hlb⟩
theorem aE {w W : World} {a : Addr} {v : Value} (h : Below w.heap.size w W) (q : w.cell? a = ac v) : W.cell? a = ac v := (h.cell (aj w a q)).trans q
theorem mkG_ex {w w' : World} (h : Below w.heap.size w w') : ∃ g : G w, g.W = w' := ⟨⟨w', h⟩, rfl⟩
theorem in_v {l : List ByteArray} {s : ByteArray} {b : Bool} (h : iC l s = b) (A : Option Addr) (c : Nat) (w : World) (hc : Kd.string.C w A l.length l) (hl : l.length <= c) :
 Calls ak 131 #[.slice A l.length c, .string s] w fun e w' => e = .returned (.bool b) /\ Below w.heap.size w w' := by
 have hlm := hc.2.1
 exact (cadenceref16_in.calls (l.length + 1) A c l s b w hc hl (by unfold cadenceref16_in.f; exact (in_eq l.length (l.length + 1) 0 l s (by omega) (by omega) (by omega) (fun j hj => absurd hj (cq _))).trans (by rw [h]))).mono fun _ _ ⟨he, hd⟩ => ⟨he, hd.below⟩
theorem oA {nm : ByteArray} {wd ln : Int} {ds : List S70} {bd : List S119} {A3 : Option Addr} {c3 : Nat} {A4 : Option Addr} {c4 : Nat} {w : World} (hp : ProgAt w ds bd A3 c3 A4 c4) {s : ByteArray} {r : Int} (h : fQ ds s = r) :
 Calls ak 225 #[(.agg #[.string nm, .int .i64 wd, .int .i64 ln, .slice A3 ds.length c3, .slice A4 bd.length c4]), .string s] w fun e w' => e = .returned (.int .i64 r) /\ Below w.heap.size w w' := by
 have hlm := hp.hd.2.1
 exact cadenceref16_Decl.calls (ds.length + 1) nm wd ln A3 c3 ds A4 c4 bd s r w hp.hd hp.hld hp.hb hp.hlb (by unfold cadenceref16_Decl.f; exact (Decl_eq ds.length (ds.length + 1) 0 ds s nm wd ln bd (by omega) (by omega) (by omega) (fun j hj => absurd hj (cq _))).trans (by rw [h]))
theorem fits_v {wd z : Int} {b : Bool} (h : gH wd z = b) (h0 : 0 <= wd) (h1 : 0 <= z) (w : World) : Calls ak 226 #[.int .i64 wd, .int .u64 z] w fun e w' => e = .returned (.bool b) /\ Below w.heap.size w w' :=
 (cadenceref16_fits.calls wd z b w ((fits_eq wd z h0 h1).trans (by rw [h]))).mono fun _ _ ⟨he, hd⟩ => ⟨he, hd.below⟩
def kindW (d : S70) (x : TV) : Bool := if x.is = 2 then (if x.e.f0 = 2 then d.f2 == 0 else d.f2 != 0) else if x.s.f0 = 2 then d.f2 != 0 && d.f0 != 3 else d.f2 == 0
theorem bf {z a : Int} (h : ¬ z = a) : (z == a) = J := by simpa using h
set_option maxRecDepth 100000 in
theorem kind_in (x : TV) {A5 : Option Addr} {c5 : Nat} {A9 : Option Addr} {c9 : Nat} {A12 : Option Addr} {c12 : Nat} {A13 : Option Addr} {c13 : Nat} {A19 : Option Addr} {c19 : Nat} {A21 : Option Addr} {c21 : Nat} (s : ByteArray) (w : World)
 (hlo : Kd.string.C w A21 x.loops.length x.loops) (hll : x.loops.length <= c21) (hh : iC x.loops s = af) :
 Calls ak 228 #[(.agg #[.string nm, .int .i64 wd, .int .i64 ln, .slice A3 ds.length c3, .slice A4 bd.length c4]), (.agg #[.int .i64 x.is, .int .i64 x.d, .int .i64 x.s.f0, .string x.s.f1, .int .i64 x.s.f2.f0, .int .u64 x.s.f2.f1, .string x.s.f2.f2, .slice A5 x.s.f2.f3.length c5, .int .i64 x.s.f3.f0, .int .u64 x.s.f3.f1, .string x.s.f3.f2, .slice A9 x.s.f3.f3.length c9, .int .u64 x.s.f4, .int .u64 x.s.f5, .slice A12 x.s.f6.length c12, .slice A13 x.s.f7.length c13, .int .i64 x.e.f0, .int .u64 x.e.f1, .string x.e.f2, .slice A19 x.e.f3.length c19, .int .i64 x.deep, .slice A21 x.loops.length c21]), .string s] w fun e w' => e = .returned (.bool (x.is == 2 && x.e.f0 == 2)) /\ Below w.heap.size w w' := by
 have gout := @gB w
 have HLO := I hlo
 clear hlo
 go_enter Tryz.func228, Tryz.ntmps228
 go_upto_region 1 with (fail)
 refine aH ?_
 intro gg
 go_wp2_with fail
 refine (aD (g := gg) (in_v hh A21 c21 gg.W (Kd.aF HLO.out (gout gg)) hll)).mono ?_
 rintro _ _ ⟨rfl, gg, rfl⟩
 rcases aJ (x.is == 2) with h1 | h1
 ·rcases aJ (x.e.f0 == 2) with h2 | h2
  ·go_wp2_with fail
   go_ret
   exact ⟨by rw [h1, h2]; rfl, gout _⟩
  ·go_wp2_with fail
   go_ret
   exact ⟨by rw [h1, h2]; rfl, gout _⟩
 ·go_wp2_with fail
  go_ret
  exact ⟨by rw [h1]; rfl, gout _⟩
set_option maxRecDepth 100000 in
theorem kind_decl (x : TV) {A5 : Option Addr} {c5 : Nat} {A9 : Option Addr} {c9 : Nat} {A12 : Option Addr} {c12 : Nat} {A13 : Option Addr} {c13 : Nat} {A19 : Option Addr} {c19 : Nat} {A21 : Option Addr} {c21 : Nat} (s : ByteArray) (w : World) (hp : ProgAt w ds bd A3 c3 A4 c4)
 (hlo : Kd.string.C w A21 x.loops.length x.loops) (hll : x.loops.length <= c21) (hh : iC x.loops s = J) (i : Nat) (hi : i < ds.length) (hfi : fQ ds s = (i : Int)) :
 Calls ak 228 #[(.agg #[.string nm, .int .i64 wd, .int .i64 ln, .slice A3 ds.length c3, .slice A4 bd.length c4]), (.agg #[.int .i64 x.is, .int .i64 x.d, .int .i64 x.s.f0, .string x.s.f1, .int .i64 x.s.f2.f0, .int .u64 x.s.f2.f1, .string x.s.f2.f2, .slice A5 x.s.f2.f3.length c5, .int .i64 x.s.f3.f0, .int .u64 x.s.f3.f1, .string x.s.f3.f2, .slice A9 x.s.f3.f3.length c9, .int .u64 x.s.f4, .int .u64 x.s.f5, .slice A12 x.s.f6.length c12, .slice A13 x.s.f7.length c13, .int .i64 x.e.f0, .int .u64 x.e.f1, .string x.e.f2, .slice A19 x.e.f3.length c19, .int .i64 x.deep, .slice A21 x.loops.length c21]), .string s] w fun e w' => e = .returned (.bool (kindW (aG ds (i : Int)) x)) /\ Below w.heap.size w w' := by
 have gout := @gB w
 obtain ⟨adr, A9d, c9d, e1, q0, q1, q2, q3, l9, g9⟩ := dN hp.hd (i : Int) (bc _) (by omega)
 have hlm := hp.hd.2.1
 cases e1
 rw [av] at q0 q1 q2 q3
 have hi1 : (i : Int) < (ds.length : Int) := by omega
 have HLO := I hlo
 have PAt := I hp
 clear hlo hp l9 g9
 go_enter Tryz.func228, Tryz.ntmps228
 go_upto_region 1 with (fail)
 refine aH ?_
 intro gg
 have goutW : ∀ (g : G (gw0 gg)), Below w.heap.size w g.W := fun g => gout g
 go_wp2_with fail
 refine (aD (g := gg) (in_v hh A21 c21 gg.W (Kd.aF HLO.out (gout gg)) hll)).mono ?_
 rintro _ _ ⟨rfl, gg, rfl⟩
 go_upto_region 3 with (fail)
 have r0 : ∀ g' : G (gw0 gg), g'.W.cell? (adr.add (i * 4)) = ac (.int .i64 (aG ds (i : Int)).f0) := fun g' => aE (goutW g') q0
 have r1 : ∀ g' : G (gw0 gg), g'.W.cell? ⟨(adr.add (i * 4)).block, (adr.add (i * 4)).off + 1, ag⟩ = ac (.string (aG ds (i : Int)).f1) := fun g' => aE (goutW g') q1
 have r2 : ∀ g' : G (gw0 gg), g'.W.cell? ⟨(adr.add (i * 4)).block, (adr.add (i * 4)).off + 2, ag⟩ = ac (.int .i64 (aG ds (i : Int)).f2) := fun g' => aE (goutW g') q2
 have r3 : ∀ g' : G (gw0 gg), g'.W.cell? ⟨(adr.add (i * 4)).block, (adr.add (i * 4)).off + 3, ag⟩ = ac (.slice A9d (aG ds (i : Int)).f3.length c9d) := fun g' => aE (goutW g') q3
 refine fZ (n := 9) (S := fun w' => ∃ g' : G _, w' = g'.W) (ds := []) #[J, J, J, J, J, J, J, J, J] (by kernel_rfl) rfl rfl ⟨mkG (gg.2.drew), rfl⟩ (fun hHeld => ?_)
 obtain ⟨gd, hgd⟩ := hHeld
 rw [hgd]
 clear hgd
 refine bB (i := 0) (N := ac 21) (v := ?_) (a' := ?_) #[af, J, J, J, J, J, J, J, J] rfl rfl (by kernel_rfl) (fun _ _ _ h => h) (bg ⟨by rfl, ?_⟩) ?_ ?_
 rotate_left
 ·intro w'
  go_simp
  with_reducible rfl
 rotate_left
 ·simp only [ax, aa, ah, ai, aN, aM]
  rfl
 refine bB (i := 3) (N := ac 24) (v := ?_) (a' := ?_) #[af, J, J, af, J, J, J, J, J] rfl rfl (by kernel_rfl) (fun _ _ _ h => h) (bg ⟨by rfl, ?_⟩) ?_ ?_
 rotate_left
 ·intro w'
  go_simp
  with_reducible rfl
 rotate_left
 ·simp only [ax, aa, ah, ai, aN, aM]
  rfl
 refine dP (i := 1) (N := ac 22) (v := ?_) (a' := ?_) #[af, af, J, af, J, J, J, J, J] rfl rfl (by kernel_rfl) (fun _ _ _ h => h) (bg ⟨by rfl, ?_⟩) ⟨gd, rfl⟩ ?_ ?_
 rotate_left
 ·rintro w' ⟨g', rfl⟩
  go_simp
  with_reducible rfl
 rotate_left
 ·simp only [ax, aa, ah, ai, aN, aM]
  rfl
 refine dP (i := 2) (N := ac 23) (v := ?_) (a' := ?_) #[af, af, af, af, J, J, J, J, J] rfl rfl (by kernel_rfl) (fun _ _ _ h => h) (bg ⟨by rfl, ?_⟩) ⟨gd, rfl⟩ ?_ ?_
 rotate_left
 ·rintro w' ⟨g', rfl⟩
  go_simp
  with_reducible rfl
 rotate_left
 ·simp only [ax, aa, ah, ai, aN, aM]
  rfl
 refine join_ (σ := Nat) 1 #[af, af, af, af, af, af, af, af, J] (fun b => [(25, .int .i64 (i : Int)), (26, .pointer (ac (adr.add (i * 4)))), (27, .agg #[.int .i64 (aG ds (i : Int)).f0, .string (aG ds (i : Int)).f1, .int .i64 (aG ds (i : Int)).f2, .slice A9d (aG ds (i : Int)).f3.length c9d]), (7, .pointer (ac ⟨b, 0, ag⟩))]) (fun b w' => ∃ g : G (gw0 gg), w' = g.W /\ g.W.heap[b]? = ac (.cells #[.int .i64 0, .string (⟨#[]⟩ : ByteArray), .int .i64 0, .slice ag 0 0] 70 (0, 0)) /\ (gw0 gg).heap.size <= b) ?_ (fun hJ => ?_)
 rotate_left
 ·refine two_ (i := 4) (j := 7) (Ni := ac 25) (Nj := ac 7) #[af, af, af, af, af, J, J, J, J] #[af, af, af, af, J, J, J, af, J] rfl rfl rfl rfl (by kernel_rfl) (by simp) (by simp) ?_ ?_
  ·intro K hK
   refine j5 Tryz.func225 (by kernel_rfl) rfl #[(.agg #[.string nm, .int .i64 wd, .int .i64 ln, .slice (ac adr) ds.length c3, .slice A4 bd.length c4]), .string s] (by rfl) rfl rfl (by (try simp only [cb, cm, cw]); first | done | rfl) ?_
   refine (oA (PAt.out.below (goutW gd)) hfi).mono ?_
   rintro _ w9 ⟨rfl, hb⟩
   refine ⟨_, rfl, ?_⟩
   obtain ⟨gd, rfl⟩ : ∃ g' : G _, w9 = g'.W := ⟨mkG (gd.below.trans (hb.mono gd.below.size)), rfl⟩
   clear hb
   refine hK.out _ _ ⟨gd, rfl⟩ (fun _ => ?_)
   clear hK K
   refine cU (a' := ?_) ?_ ?_
   rotate_left
   ·show ax _ (ac 25) _ = _
    simp only [ax, aa, ah, ai, aN, aM]
    rfl
   refine bB (i := 5) (N := ac 26) (v := ?_) (a' := ?_) #[af, af, af, af, af, af, J, J, J] rfl rfl (by kernel_rfl) (fun _ _ _ h => h) (bg ⟨by rfl, ?_⟩) ?_ ?_
   rotate_left
   ·intro w'
    go_simp
    with_reducible rfl
   rotate_left
   ·simp only [ax, aa, ah, ai, aN, aM]
    rfl
   refine dP (i := 6) (N := ac 27) (v := ?_) (a' := ?_) #[af, af, af, af, af, af, af, J, J] rfl rfl (by kernel_rfl) (fun _ _ _ h => h) (bg ⟨by rfl, ?_⟩) ⟨gd, rfl⟩ ?_ ?_
   rotate_left
   ·rintro w' ⟨g', rfl⟩
    go_simp
    with_reducible rfl
   rotate_left
   ·simp only [ax, aa, ah, ai, aN, aM]
    rfl
   refine kJ (i := 7) (N := ac 7) #[af, af, af, af, af, af, af, af, J] rfl rfl (by kernel_rfl) (by simp) (fun K hK => ?_)
   refine box_step ?hg (N := 7) ?hd (cs := #[.int .i64 0, .string (⟨#[]⟩ : ByteArray), .int .i64 0, .slice ag 0 0]) (t := 70) ?hr ?_; (case hd => rfl); (case hg => rfl); (case hr => first | (go_simp; done) | (go_simp; rfl))
   intro b7 hb7 w7 hbx hbl
   have hbx := I hbx
   have hle : (gw0 gg).heap.size <= b7 := by rw [hb7]; exact gd.below.size
   clear hb7
   obtain ⟨gd, rfl⟩ : ∃ g' : G _, w7 = g'.W := ⟨mkG (gd.below.trans (hbl.mono gd.below.size)), rfl⟩
   clear hbl
   refine hK.out _ _ ⟨gd, rfl⟩ (fun _ => ?_)
   clear hK K
   refine cU (a' := ?_) ?_ ?_
   rotate_left
   ·show ax _ (ac 7) _ = _
    simp only [ax, aa, ah, ai, aN, aM]
    rfl
   exact cU (by first | (simp only [iJ, ax, aa, ah, ai]; done) | (simp only [iJ, ax, aa, ah, ai]; rfl)) (hJ b7 _ ⟨_, rfl, hbx.out, hle⟩)
  ·intro K hK
   refine box_step ?hg (N := 7) ?hd (cs := #[.int .i64 0, .string (⟨#[]⟩ : ByteArray), .int .i64 0, .slice ag 0 0]) (t := 70) ?hr ?_; (case hd => rfl); (case hg => rfl); (case hr => first | (go_simp; done) | (go_simp; rfl))
   intro b7 hb7 w7 hbx hbl
   have hbx := I hbx
   have hle : (gw0 gg).heap.size <= b7 := by rw [hb7]; exact gd.below.size
   clear hb7
   obtain ⟨gd, rfl⟩ : ∃ g' : G _, w7 = g'.W := ⟨mkG (gd.below.trans (hbl.mono gd.below.size)), rfl⟩
   clear hbl
   refine hK.out _ _ ⟨gd, rfl⟩ (fun _ => ?_)
   clear hK K
   refine cU (a' := ?_) ?_ ?_
   rotate_left
   ·show ax _ (ac 7) _ = _
    simp only [ax, aa, ah, ai, aN, aM]
    rfl
   refine kJ (i := 4) (N := ac 25) #[af, af, af, af, af, J, J, af, J] rfl rfl (by kernel_rfl) (by simp) (fun K hK => ?_)
   refine j5 Tryz.func225 (by kernel_rfl) rfl #[(.agg #[.string nm, .int .i64 wd, .int .i64 ln, .slice (ac adr) ds.length c3, .slice A4 bd.length c4]), .string s] (by rfl) rfl rfl (by (try simp only [cb, cm, cw]); first | done | rfl) ?_
   refine (oA (PAt.out.below (goutW gd)) hfi).mono ?_
   rintro _ w9 ⟨rfl, hb⟩
   refine ⟨_, rfl, ?_⟩
   have HBX := I (aB hbx.out hb)
   obtain ⟨gd, rfl⟩ : ∃ g' : G _, w9 = g'.W := ⟨mkG (gd.below.trans (hb.mono gd.below.size)), rfl⟩
   clear hb
   refine hK.out _ _ ⟨gd, rfl⟩ (fun _ => ?_)
   clear hK K
   refine cU (a' := ?_) ?_ ?_
   rotate_left
   ·show ax _ (ac 25) _ = _
    simp only [ax, aa, ah, ai, aN, aM]
    rfl
   refine bB (i := 5) (N := ac 26) (v := ?_) (a' := ?_) #[af, af, af, af, af, af, J, af, J] rfl rfl (by kernel_rfl) (fun _ _ _ h => h) (bg ⟨by rfl, ?_⟩) ?_ ?_
   rotate_left
   ·intro w'
    go_simp
    with_reducible rfl
   rotate_left
   ·simp only [ax, aa, ah, ai, aN, aM]
    rfl
   refine dP (i := 6) (N := ac 27) (v := ?_) (a' := ?_) #[af, af, af, af, af, af, af, af, J] rfl rfl (by kernel_rfl) (fun _ _ _ h => h) (bg ⟨by rfl, ?_⟩) ⟨gd, rfl⟩ ?_ ?_
   rotate_left
   ·rintro w' ⟨g', rfl⟩
    go_simp
    with_reducible rfl
   rotate_left
   ·simp only [ax, aa, ah, ai, aN, aM]
    rfl
   exact cU (by first | (simp only [iJ, ax, aa, ah, ai]; done) | (simp only [iJ, ax, aa, ah, ai]; rfl)) (hJ b7 _ ⟨_, rfl, HBX.out, hle⟩)
 rintro b7 _ ⟨gd, rfl, hbx, hle⟩
 refine cU (a' := ?_) ?_ ?_
 rotate_left
 ·simp only [iJ, ax, aa, ah, ai]
  rfl
 refine kJ (i := 8) (N := ag) #[af, af, af, af, af, af, af, af, af] rfl rfl (by kernel_rfl) (by simp) (fun K hK => ?_)
 have s0 : gd.W.cell? ⟨b7, 0, ag⟩ = ac (.int .i64 0) := (aA hbx 0).trans rfl
 have s1 : gd.W.cell? ⟨b7, 1, ag⟩ = ac (.string (⟨#[]⟩ : ByteArray)) := (aA hbx 1).trans rfl
 have s2 : gd.W.cell? ⟨b7, 2, ag⟩ = ac (.int .i64 0) := (aA hbx 2).trans rfl
 have s3 : gd.W.cell? ⟨b7, 3, ag⟩ = ac (.slice ag 0 0) := (aA hbx 3).trans rfl
 have f0 := aI hbx 0
 have f1 := aI hbx 1
 have f2 := aI hbx 2
 have f3 := aI hbx 3
 have hp := I (bQ (bQ (bQ (bQ hbx 0 (.int .i64 (aG ds (i : Int)).f0) rfl) 1 (.string (aG ds (i : Int)).f1) rfl) 2 (.int .i64 (aG ds (i : Int)).f2) rfl) 3 (.slice A9d (aG ds (i : Int)).f3.length c9d) rfl)
 have hq := I ((((gd.below.setCell (p := ⟨b7, 0, ag⟩) hle (.int .i64 (aG ds (i : Int)).f0)).setCell (p := ⟨b7, 1, ag⟩) hle (.string (aG ds (i : Int)).f1)).setCell (p := ⟨b7, 2, ag⟩) hle (.int .i64 (aG ds (i : Int)).f2)).setCell (p := ⟨b7, 3, ag⟩) hle (.slice A9d (aG ds (i : Int)).f3.length c9d))
 refine skip_ (w1 := ?_) (by rfl) rfl ?_ ?_
 rotate_left
 ·go_simp
  rfl
 refine hK.out _ _ ⟨mkG hq.out, rfl⟩ (fun _ => ?_)
 clear hK K s0 s1 s2 s3 f0 f1 f2 f3 hbx
 refine kH (by kernel_rfl) ?_
 have c0 : _ = ac (ba .i64 (aG ds (i : Int)).f0) := (aA hp.out 0).trans rfl
 have c2 : _ = ac (ba .i64 (aG ds (i : Int)).f2) := (aA hp.out 2).trans rfl
 obtain ⟨g3, hg3⟩ := mkG_ex hq.out
 rw [<- hg3] at c0 c2 ⊢
 clear hg3 hp hq r0 r1 r2 r3 q0 q1 q2 q3 hfi
 have t0 : g3.W.cell? ⟨w.heap.size + 1, 0, ag⟩ = ac (.int .i64 x.is) := by go_simp
 by_cases h1 : x.is = 2
 ·by_cases h2 : x.e.f0 = 2
  ·go_wp2_with fail
   go_ret
   exact ⟨aC (by simp [kindW, h1, h2]), goutW _⟩
  ·have b2 := bf h2
   go_wp2_with fail
   go_ret
   exact ⟨aC (by simp [kindW, h1, h2, bne]), goutW _⟩
 ·have b1 := bf h1
  by_cases h2 : x.s.f0 = 2
  ·by_cases h3 : (aG ds (i : Int)).f2 = 0
   ·go_wp2_with fail
    go_ret
    exact ⟨aC (by simp [kindW, h1, h2, h3]), goutW _⟩
   ·have b3 := bf h3
    go_wp2_with fail
    go_ret
    exact ⟨aC (by simp [kindW, h1, h2, h3, bne]), goutW _⟩
  ·have b2 := bf h2
   go_wp2_with fail
   go_ret
   exact ⟨aC (by simp [kindW, h1, h2]), goutW _⟩
end
end
section
attribute [local go_sem] G.cell
theorem nN {a b : Int} (h : a = b) : fw (.int .i64 a) = .returned (.int .i64 b) := by rw [h]
def lJ (x : TV) : Bool := decide (64 < x.deep)
set_option maxRecDepth 100000 in
theorem viol10_calls (nm : ByteArray) (wd ln : Int) (ds : List S70) (bd : List S119) (A3 : Option Addr) (c3 : Nat) (A4 : Option Addr) (c4 : Nat) (x : TV) {A5 : Option Addr} {c5 : Nat} {A9 : Option Addr} {c9 : Nat} {A12 : Option Addr} {c12 : Nat} {A13 : Option Addr} {c13 : Nat} {A19 : Option Addr} {c19 : Nat} {A21 : Option Addr} {c21 : Nat} (w : World) (hp : ProgAt w ds bd A3 c3 A4 c4)
 (hlo : Kd.string.C w A21 x.loops.length x.loops) (hll : x.loops.length <= c21) (hx : x.is = 0 \/ x.is = 1 \/ x.is = 2) (r : Int) (hr : r = if lJ x = af then 152 else 0) :
 Calls ak 146 #[(.agg #[.string nm, .int .i64 wd, .int .i64 ln, .slice A3 ds.length c3, .slice A4 bd.length c4]), (.agg #[.int .i64 x.is, .int .i64 x.d, .int .i64 x.s.f0, .string x.s.f1, .int .i64 x.s.f2.f0, .int .u64 x.s.f2.f1, .string x.s.f2.f2, .slice A5 x.s.f2.f3.length c5, .int .i64 x.s.f3.f0, .int .u64 x.s.f3.f1, .string x.s.f3.f2, .slice A9 x.s.f3.f3.length c9, .int .u64 x.s.f4, .int .u64 x.s.f5, .slice A12 x.s.f6.length c12, .slice A13 x.s.f7.length c13, .int .i64 x.e.f0, .int .u64 x.e.f1, .string x.e.f2, .slice A19 x.e.f3.length c19, .int .i64 x.deep, .slice A21 x.loops.length c21]), .int .i64 10] w fun e w' => e = .returned (.int .i64 r) /\ Below w.heap.size w w' := by
 have gout := @gB w
 have HLO := I hlo
 have PAt := I hp
 have HXX := I hx
 have HR := I hr
 clear hlo hp hx hr
 go_enter Tryz.func146, Tryz.ntmps146
 go_upto_region 1 with (fail)
 refine aH ?_
 intro gg
 have goutW : ∀ (g : G (gw0 gg)), Below w.heap.size w g.W := fun g => gout g
 have HBK := I (show ∀ g : G (gw0 gg), g.W.heap[w.heap.size + 1]? = ac (.cells #[.int .i64 x.is, .int .i64 x.d, .int .i64 x.s.f0, .string x.s.f1, .int .i64 x.s.f2.f0, .int .u64 x.s.f2.f1, .string x.s.f2.f2, .slice A5 x.s.f2.f3.length c5, .int .i64 x.s.f3.f0, .int .u64 x.s.f3.f1, .string x.s.f3.f2, .slice A9 x.s.f3.f3.length c9, .int .u64 x.s.f4, .int .u64 x.s.f5, .slice A12 x.s.f6.length c12, .slice A13 x.s.f7.length c13, .int .i64 x.e.f0, .int .u64 x.e.f1, .string x.e.f2, .slice A19 x.e.f3.length c19, .int .i64 x.deep, .slice A21 x.loops.length c21] 125 (0, 0)) from fun g => (g.below.block _ (by simp [gw0])).trans (heap_alloc2_new w _ _))
 go_wp2_with (refine wpList_load_row rfl 125 (.tmp 4) rfl (w.heap.size + 1) rfl 125 #[.int .i64 x.is, .int .i64 x.d, .int .i64 x.s.f0, .string x.s.f1, .int .i64 x.s.f2.f0, .int .u64 x.s.f2.f1, .string x.s.f2.f2, .slice A5 x.s.f2.f3.length c5, .int .i64 x.s.f3.f0, .int .u64 x.s.f3.f1, .string x.s.f3.f2, .slice A9 x.s.f3.f3.length c9, .int .u64 x.s.f4, .int .u64 x.s.f5, .slice A12 x.s.f6.length c12, .slice A13 x.s.f7.length c13, .int .i64 x.e.f0, .int .u64 x.e.f1, .string x.e.f2, .slice A19 x.e.f3.length c19, .int .i64 x.deep, .slice A21 x.loops.length c21] (0, 0) _ (HBK.out gg) ew rfl (by kernel_rfl) ?_)
 refine (aD (g := gg) (gE x gg.W HXX.out)).mono ?_
 rintro _ _ ⟨rfl, gg, rfl⟩
 rcases aJ (x.is == 1) with i1 | i1
 ·rcases aJ (x.s.f0 == 4) with s4 | s4
  ·rcases cu 64 x.deep with d | d
   ·go_wp2_with fail
    go_ret
    exact ⟨nN (by rw [HR.out]; simp [lJ, d]), goutW _⟩
   ·have d' : ¬ 64 < x.deep := by omega
    go_wp2_with fail
    go_ret
    exact ⟨nN (by rw [HR.out]; simp [lJ, d']), goutW _⟩
  ·rcases cu 64 x.deep with d | d
   ·go_wp2_with fail
    go_ret
    exact ⟨nN (by rw [HR.out]; simp [lJ, d]), goutW _⟩
   ·have d' : ¬ 64 < x.deep := by omega
    go_wp2_with fail
    go_ret
    exact ⟨nN (by rw [HR.out]; simp [lJ, d']), goutW _⟩
 ·rcases cu 64 x.deep with d | d
  ·go_wp2_with fail
   go_ret
   exact ⟨nN (by rw [HR.out]; simp [lJ, d]), goutW _⟩
  ·have d' : ¬ 64 < x.deep := by omega
   go_wp2_with fail
   go_ret
   exact ⟨nN (by rw [HR.out]; simp [lJ, d']), goutW _⟩
end
section
attribute [local go_sem] G.cell
def iD (ds : List S70) (x : TV) : Bool := (iR x).2 && !iC x.loops (iR x).1 && decide (fQ ds (iR x).1 < 0)
theorem eI {a b : Int} (h : a = b) : fw (.int .i64 a) = .returned (.int .i64 b) := by rw [h]
set_option maxRecDepth 100000 in
theorem viol11_calls (nm : ByteArray) (wd ln : Int) (ds : List S70) (bd : List S119) (A3 : Option Addr) (c3 : Nat) (A4 : Option Addr) (c4 : Nat) (x : TV) {A5 : Option Addr} {c5 : Nat} {A9 : Option Addr} {c9 : Nat} {A12 : Option Addr} {c12 : Nat} {A13 : Option Addr} {c13 : Nat} {A19 : Option Addr} {c19 : Nat} {A21 : Option Addr} {c21 : Nat} (w : World) (hp : ProgAt w ds bd A3 c3 A4 c4)
 (hlo : Kd.string.C w A21 x.loops.length x.loops) (hll : x.loops.length <= c21) (hx : x.is = 0 \/ x.is = 1 \/ x.is = 2) (r : Int) (hr : r = if iD ds x = af then 161 else 0) :
 Calls ak 146 #[(.agg #[.string nm, .int .i64 wd, .int .i64 ln, .slice A3 ds.length c3, .slice A4 bd.length c4]), (.agg #[.int .i64 x.is, .int .i64 x.d, .int .i64 x.s.f0, .string x.s.f1, .int .i64 x.s.f2.f0, .int .u64 x.s.f2.f1, .string x.s.f2.f2, .slice A5 x.s.f2.f3.length c5, .int .i64 x.s.f3.f0, .int .u64 x.s.f3.f1, .string x.s.f3.f2, .slice A9 x.s.f3.f3.length c9, .int .u64 x.s.f4, .int .u64 x.s.f5, .slice A12 x.s.f6.length c12, .slice A13 x.s.f7.length c13, .int .i64 x.e.f0, .int .u64 x.e.f1, .string x.e.f2, .slice A19 x.e.f3.length c19, .int .i64 x.deep, .slice A21 x.loops.length c21]), .int .i64 11] w fun e w' => e = .returned (.int .i64 r) /\ Below w.heap.size w w' := by
 have gout := @gB w
 have HLO := I hlo
 have PAt := I hp
 have HXX := I hx
 have HR := I hr
 clear hlo hp hx hr
 go_enter Tryz.func146, Tryz.ntmps146
 go_upto_region 1 with (fail)
 refine aH ?_
 intro gg
 have goutW : ∀ (g : G (gw0 gg)), Below w.heap.size w g.W := fun g => gout g
 have HBK := I (show ∀ g : G (gw0 gg), g.W.heap[w.heap.size + 1]? = ac (.cells #[.int .i64 x.is, .int .i64 x.d, .int .i64 x.s.f0, .string x.s.f1, .int .i64 x.s.f2.f0, .int .u64 x.s.f2.f1, .string x.s.f2.f2, .slice A5 x.s.f2.f3.length c5, .int .i64 x.s.f3.f0, .int .u64 x.s.f3.f1, .string x.s.f3.f2, .slice A9 x.s.f3.f3.length c9, .int .u64 x.s.f4, .int .u64 x.s.f5, .slice A12 x.s.f6.length c12, .slice A13 x.s.f7.length c13, .int .i64 x.e.f0, .int .u64 x.e.f1, .string x.e.f2, .slice A19 x.e.f3.length c19, .int .i64 x.deep, .slice A21 x.loops.length c21] 125 (0, 0)) from fun g => (g.below.block _ (by simp [gw0])).trans (heap_alloc2_new w _ _))
 go_wp2_with (refine wpList_load_row rfl 125 (.tmp 4) rfl (w.heap.size + 1) rfl 125 #[.int .i64 x.is, .int .i64 x.d, .int .i64 x.s.f0, .string x.s.f1, .int .i64 x.s.f2.f0, .int .u64 x.s.f2.f1, .string x.s.f2.f2, .slice A5 x.s.f2.f3.length c5, .int .i64 x.s.f3.f0, .int .u64 x.s.f3.f1, .string x.s.f3.f2, .slice A9 x.s.f3.f3.length c9, .int .u64 x.s.f4, .int .u64 x.s.f5, .slice A12 x.s.f6.length c12, .slice A13 x.s.f7.length c13, .int .i64 x.e.f0, .int .u64 x.e.f1, .string x.e.f2, .slice A19 x.e.f3.length c19, .int .i64 x.deep, .slice A21 x.loops.length c21] (0, 0) _ (HBK.out gg) ew rfl (by kernel_rfl) ?_)
 refine (aD (g := gg) (gE x gg.W HXX.out)).mono ?_
 rintro _ _ ⟨rfl, gg, rfl⟩
 rcases aJ (x.is == 1) with i1 | i1
 ·rcases aJ (x.s.f0 == 4) with s4 | s4
  ·rcases aJ (iR x).2 with u2 | u2
   ·go_wp2_with fail
    rcases aJ (iC x.loops (iR x).1) with hh | hh
    ·refine (aD (g := gg) (in_v hh A21 c21 gg.W (Kd.aF HLO.out (goutW gg)) hll)).mono ?_
     rintro _ _ ⟨rfl, gg, rfl⟩
     go_wp2_with fail
     go_ret
     exact ⟨eI (by rw [HR.out]; simp [iD, u2, hh]), goutW _⟩
    ·refine (aD (g := gg) (in_v hh A21 c21 gg.W (Kd.aF HLO.out (goutW gg)) hll)).mono ?_
     rintro _ _ ⟨rfl, gg, rfl⟩
     go_wp2_with fail
     refine (aD (g := gg) (oA (PAt.out.below (goutW gg)) rfl)).mono ?_
     rintro _ _ ⟨rfl, gg, rfl⟩
     rcases cu (fQ ds (iR x).1) 0 with d | d
     ·go_wp2_with fail
      go_ret
      exact ⟨eI (by rw [HR.out]; simp [iD, u2, hh, d]), goutW _⟩
     ·have d' : ¬ fQ ds (iR x).1 < 0 := by omega
      go_wp2_with fail
      go_ret
      exact ⟨eI (by rw [HR.out]; simp [iD, u2, hh, d']), goutW _⟩
   ·go_wp2_with fail
    go_ret
    exact ⟨eI (by rw [HR.out]; simp [iD, u2]), goutW _⟩
  ·rcases aJ (iR x).2 with u2 | u2
   ·go_wp2_with fail
    rcases aJ (iC x.loops (iR x).1) with hh | hh
    ·refine (aD (g := gg) (in_v hh A21 c21 gg.W (Kd.aF HLO.out (goutW gg)) hll)).mono ?_
     rintro _ _ ⟨rfl, gg, rfl⟩
     go_wp2_with fail
     go_ret
     exact ⟨eI (by rw [HR.out]; simp [iD, u2, hh]), goutW _⟩
    ·refine (aD (g := gg) (in_v hh A21 c21 gg.W (Kd.aF HLO.out (goutW gg)) hll)).mono ?_
     rintro _ _ ⟨rfl, gg, rfl⟩
     go_wp2_with fail
     refine (aD (g := gg) (oA (PAt.out.below (goutW gg)) rfl)).mono ?_
     rintro _ _ ⟨rfl, gg, rfl⟩
     rcases cu (fQ ds (iR x).1) 0 with d | d
     ·go_wp2_with fail
      go_ret
      exact ⟨eI (by rw [HR.out]; simp [iD, u2, hh, d]), goutW _⟩
     ·have d' : ¬ fQ ds (iR x).1 < 0 := by omega
      go_wp2_with fail
      go_ret
      exact ⟨eI (by rw [HR.out]; simp [iD, u2, hh, d']), goutW _⟩
   ·go_wp2_with fail
    go_ret
    exact ⟨eI (by rw [HR.out]; simp [iD, u2]), goutW _⟩
 ·rcases aJ (iR x).2 with u2 | u2
  ·go_wp2_with fail
   rcases aJ (iC x.loops (iR x).1) with hh | hh
   ·refine (aD (g := gg) (in_v hh A21 c21 gg.W (Kd.aF HLO.out (goutW gg)) hll)).mono ?_
    rintro _ _ ⟨rfl, gg, rfl⟩
    go_wp2_with fail
    go_ret
    exact ⟨eI (by rw [HR.out]; simp [iD, u2, hh]), goutW _⟩
   ·refine (aD (g := gg) (in_v hh A21 c21 gg.W (Kd.aF HLO.out (goutW gg)) hll)).mono ?_
    rintro _ _ ⟨rfl, gg, rfl⟩
    go_wp2_with fail
    refine (aD (g := gg) (oA (PAt.out.below (goutW gg)) rfl)).mono ?_
    rintro _ _ ⟨rfl, gg, rfl⟩
    rcases cu (fQ ds (iR x).1) 0 with d | d
    ·go_wp2_with fail
     go_ret
     exact ⟨eI (by rw [HR.out]; simp [iD, u2, hh, d]), goutW _⟩
    ·have d' : ¬ fQ ds (iR x).1 < 0 := by omega
     go_wp2_with fail
     go_ret
     exact ⟨eI (by rw [HR.out]; simp [iD, u2, hh, d']), goutW _⟩
  ·go_wp2_with fail
   go_ret
   exact ⟨eI (by rw [HR.out]; simp [iD, u2]), goutW _⟩
end
section
variable (nm : ByteArray) (wd ln : Int) (ds : List S70) (bd : List S119) (A3 : Option Addr) (c3 : Nat) (A4 : Option Addr) (c4 : Nat)
section
attribute [local go_sem] G.cell
def kindV (ds : List S70) (x : TV) (s : ByteArray) : Bool := if iC x.loops s = af then x.is == 2 && x.e.f0 == 2 else kindW (aG ds (fQ ds s)) x
def kC (ds : List S70) (x : TV) : Bool := (iR x).2 && !kindV ds x (iR x).1
theorem kind_v (x : TV) {A5 : Option Addr} {c5 : Nat} {A9 : Option Addr} {c9 : Nat} {A12 : Option Addr} {c12 : Nat} {A13 : Option Addr} {c13 : Nat} {A19 : Option Addr} {c19 : Nat} {A21 : Option Addr} {c21 : Nat} (s : ByteArray) (w : World) (hp : ProgAt w ds bd A3 c3 A4 c4)
 (hlo : Kd.string.C w A21 x.loops.length x.loops) (hll : x.loops.length <= c21) (hk : iC x.loops s = J -> ∃ i : Nat, i < ds.length /\ fQ ds s = (i : Int)) {b : Bool} (hb : kindV ds x s = b) :
 Calls ak 228 #[(.agg #[.string nm, .int .i64 wd, .int .i64 ln, .slice A3 ds.length c3, .slice A4 bd.length c4]), (.agg #[.int .i64 x.is, .int .i64 x.d, .int .i64 x.s.f0, .string x.s.f1, .int .i64 x.s.f2.f0, .int .u64 x.s.f2.f1, .string x.s.f2.f2, .slice A5 x.s.f2.f3.length c5, .int .i64 x.s.f3.f0, .int .u64 x.s.f3.f1, .string x.s.f3.f2, .slice A9 x.s.f3.f3.length c9, .int .u64 x.s.f4, .int .u64 x.s.f5, .slice A12 x.s.f6.length c12, .slice A13 x.s.f7.length c13, .int .i64 x.e.f0, .int .u64 x.e.f1, .string x.e.f2, .slice A19 x.e.f3.length c19, .int .i64 x.deep, .slice A21 x.loops.length c21]), .string s] w fun e w' => e = .returned (.bool b) /\ Below w.heap.size w w' := by
 subst hb
 unfold kindV
 rcases aJ (iC x.loops s) with h | h
 ·rw [if_pos h]
  exact kind_in nm wd ln ds bd A3 c3 A4 c4 x s w hlo hll h
 ·rw [if_neg (by simp [h])]
  obtain ⟨i, hi, he⟩ := hk h
  rw [he]
  exact kind_decl nm wd ln ds bd A3 c3 A4 c4 x s w hp hlo hll h i hi he
theorem fN {a b : Int} (h : a = b) : fw (.int .i64 a) = .returned (.int .i64 b) := by rw [h]
set_option maxRecDepth 100000 in
theorem viol12_calls (x : TV) {A5 : Option Addr} {c5 : Nat} {A9 : Option Addr} {c9 : Nat} {A12 : Option Addr} {c12 : Nat} {A13 : Option Addr} {c13 : Nat} {A19 : Option Addr} {c19 : Nat} {A21 : Option Addr} {c21 : Nat} (w : World) (hp : ProgAt w ds bd A3 c3 A4 c4)
 (hlo : Kd.string.C w A21 x.loops.length x.loops) (hll : x.loops.length <= c21) (hx : x.is = 0 \/ x.is = 1 \/ x.is = 2)
 (hk : (iR x).2 = af -> iC x.loops (iR x).1 = J -> ∃ i : Nat, i < ds.length /\ fQ ds (iR x).1 = (i : Int)) (r : Int) (hr : r = if kC ds x = af then 162 else 0) :
 Calls ak 146 #[(.agg #[.string nm, .int .i64 wd, .int .i64 ln, .slice A3 ds.length c3, .slice A4 bd.length c4]), (.agg #[.int .i64 x.is, .int .i64 x.d, .int .i64 x.s.f0, .string x.s.f1, .int .i64 x.s.f2.f0, .int .u64 x.s.f2.f1, .string x.s.f2.f2, .slice A5 x.s.f2.f3.length c5, .int .i64 x.s.f3.f0, .int .u64 x.s.f3.f1, .string x.s.f3.f2, .slice A9 x.s.f3.f3.length c9, .int .u64 x.s.f4, .int .u64 x.s.f5, .slice A12 x.s.f6.length c12, .slice A13 x.s.f7.length c13, .int .i64 x.e.f0, .int .u64 x.e.f1, .string x.e.f2, .slice A19 x.e.f3.length c19, .int .i64 x.deep, .slice A21 x.loops.length c21]), .int .i64 12] w fun e w' => e = .returned (.int .i64 r) /\ Below w.heap.size w w' := by
 have gout := @gB w
 have HLO := I hlo
 have PAt := I hp
 have HXX := I hx
 have HR := I hr
 clear hlo hp hx hr
 go_enter Tryz.func146, Tryz.ntmps146
 go_upto_region 1 with (fail)
 refine aH ?_
 intro gg
 have goutW : ∀ (g : G (gw0 gg)), Below w.heap.size w g.W := fun g => gout g
 have HBK := I (show ∀ g : G (gw0 gg), g.W.heap[w.heap.size + 1]? = ac (.cells #[.int .i64 x.is, .int .i64 x.d, .int .i64 x.s.f0, .string x.s.f1, .int .i64 x.s.f2.f0, .int .u64 x.s.f2.f1, .string x.s.f2.f2, .slice A5 x.s.f2.f3.length c5, .int .i64 x.s.f3.f0, .int .u64 x.s.f3.f1, .string x.s.f3.f2, .slice A9 x.s.f3.f3.length c9, .int .u64 x.s.f4, .int .u64 x.s.f5, .slice A12 x.s.f6.length c12, .slice A13 x.s.f7.length c13, .int .i64 x.e.f0, .int .u64 x.e.f1, .string x.e.f2, .slice A19 x.e.f3.length c19, .int .i64 x.deep, .slice A21 x.loops.length c21] 125 (0, 0)) from fun g => (g.below.block _ (by simp [gw0])).trans (heap_alloc2_new w _ _))
 go_wp2_with (refine wpList_load_row rfl 125 (.tmp 4) rfl (w.heap.size + 1) rfl 125 #[.int .i64 x.is, .int .i64 x.d, .int .i64 x.s.f0, .string x.s.f1, .int .i64 x.s.f2.f0, .int .u64 x.s.f2.f1, .string x.s.f2.f2, .slice A5 x.s.f2.f3.length c5, .int .i64 x.s.f3.f0, .int .u64 x.s.f3.f1, .string x.s.f3.f2, .slice A9 x.s.f3.f3.length c9, .int .u64 x.s.f4, .int .u64 x.s.f5, .slice A12 x.s.f6.length c12, .slice A13 x.s.f7.length c13, .int .i64 x.e.f0, .int .u64 x.e.f1, .string x.e.f2, .slice A19 x.e.f3.length c19, .int .i64 x.deep, .slice A21 x.loops.length c21] (0, 0) _ (HBK.out gg) ew rfl (by kernel_rfl) ?_)
 refine (aD (g := gg) (gE x gg.W HXX.out)).mono ?_
 rintro _ _ ⟨rfl, gg, rfl⟩
 have HK := I hk
 clear hk
 rcases aJ (x.is == 1) with i1 | i1
 ·rcases aJ (x.s.f0 == 4) with s4 | s4
  ·rcases aJ (iR x).2 with u2 | u2
   ·go_wp2_with (first | (refine wpList_load_row rfl 125 (.tmp 4) rfl (w.heap.size + 1) rfl 125 #[.int .i64 x.is, .int .i64 x.d, .int .i64 x.s.f0, .string x.s.f1, .int .i64 x.s.f2.f0, .int .u64 x.s.f2.f1, .string x.s.f2.f2, .slice A5 x.s.f2.f3.length c5, .int .i64 x.s.f3.f0, .int .u64 x.s.f3.f1, .string x.s.f3.f2, .slice A9 x.s.f3.f3.length c9, .int .u64 x.s.f4, .int .u64 x.s.f5, .slice A12 x.s.f6.length c12, .slice A13 x.s.f7.length c13, .int .i64 x.e.f0, .int .u64 x.e.f1, .string x.e.f2, .slice A19 x.e.f3.length c19, .int .i64 x.deep, .slice A21 x.loops.length c21] (0, 0) _ (HBK.out gg) ew rfl (by kernel_rfl) ?_) | (refine mZ (by rfl) ?_; refine wpList_load_row rfl 125 (.tmp 4) rfl (w.heap.size + 1) rfl 125 #[.int .i64 x.is, .int .i64 x.d, .int .i64 x.s.f0, .string x.s.f1, .int .i64 x.s.f2.f0, .int .u64 x.s.f2.f1, .string x.s.f2.f2, .slice A5 x.s.f2.f3.length c5, .int .i64 x.s.f3.f0, .int .u64 x.s.f3.f1, .string x.s.f3.f2, .slice A9 x.s.f3.f3.length c9, .int .u64 x.s.f4, .int .u64 x.s.f5, .slice A12 x.s.f6.length c12, .slice A13 x.s.f7.length c13, .int .i64 x.e.f0, .int .u64 x.e.f1, .string x.e.f2, .slice A19 x.e.f3.length c19, .int .i64 x.deep, .slice A21 x.loops.length c21] (0, 0) _ (HBK.out gg) ew rfl (by kernel_rfl) ?_))
    obtain ⟨kv, hkv⟩ : ∃ b, kindV ds x (iR x).1 = b := ⟨_, rfl⟩
    have KC := kind_v nm wd ln ds bd A3 c3 A4 c4 x (A5 := A5) (c5 := c5) (A9 := A9) (c9 := c9) (A12 := A12) (c12 := c12) (A13 := A13) (c13 := c13) (A19 := A19) (c19 := c19) (iR x).1 gg.W (PAt.out.below (goutW gg)) (Kd.aF HLO.out (goutW gg)) hll (HK.out u2) hkv
    refine (aD (g := gg) KC).mono ?_
    clear KC
    rintro _ _ ⟨rfl, gg, rfl⟩
    have HKV := I hkv
    clear hkv
    cases kv
    ·go_wp2_with fail
     go_ret
     exact ⟨fN (by rw [HR.out]; simp [kC, u2, HKV.out]), goutW _⟩
    ·go_wp2_with fail
     go_ret
     exact ⟨fN (by rw [HR.out]; simp [kC, u2, HKV.out]), goutW _⟩
   ·go_wp2_with fail
    go_ret
    exact ⟨fN (by rw [HR.out]; simp [kC, u2]), goutW _⟩
  ·rcases aJ (iR x).2 with u2 | u2
   ·go_wp2_with (first | (refine wpList_load_row rfl 125 (.tmp 4) rfl (w.heap.size + 1) rfl 125 #[.int .i64 x.is, .int .i64 x.d, .int .i64 x.s.f0, .string x.s.f1, .int .i64 x.s.f2.f0, .int .u64 x.s.f2.f1, .string x.s.f2.f2, .slice A5 x.s.f2.f3.length c5, .int .i64 x.s.f3.f0, .int .u64 x.s.f3.f1, .string x.s.f3.f2, .slice A9 x.s.f3.f3.length c9, .int .u64 x.s.f4, .int .u64 x.s.f5, .slice A12 x.s.f6.length c12, .slice A13 x.s.f7.length c13, .int .i64 x.e.f0, .int .u64 x.e.f1, .string x.e.f2, .slice A19 x.e.f3.length c19, .int .i64 x.deep, .slice A21 x.loops.length c21] (0, 0) _ (HBK.out gg) ew rfl (by kernel_rfl) ?_) | (refine mZ (by rfl) ?_; refine wpList_load_row rfl 125 (.tmp 4) rfl (w.heap.size + 1) rfl 125 #[.int .i64 x.is, .int .i64 x.d, .int .i64 x.s.f0, .string x.s.f1, .int .i64 x.s.f2.f0, .int .u64 x.s.f2.f1, .string x.s.f2.f2, .slice A5 x.s.f2.f3.length c5, .int .i64 x.s.f3.f0, .int .u64 x.s.f3.f1, .string x.s.f3.f2, .slice A9 x.s.f3.f3.length c9, .int .u64 x.s.f4, .int .u64 x.s.f5, .slice A12 x.s.f6.length c12, .slice A13 x.s.f7.length c13, .int .i64 x.e.f0, .int .u64 x.e.f1, .string x.e.f2, .slice A19 x.e.f3.length c19, .int .i64 x.deep, .slice A21 x.loops.length c21] (0, 0) _ (HBK.out gg) ew rfl (by kernel_rfl) ?_))
    obtain ⟨kv, hkv⟩ : ∃ b, kindV ds x (iR x).1 = b := ⟨_, rfl⟩
    have KC := kind_v nm wd ln ds bd A3 c3 A4 c4 x (A5 := A5) (c5 := c5) (A9 := A9) (c9 := c9) (A12 := A12) (c12 := c12) (A13 := A13) (c13 := c13) (A19 := A19) (c19 := c19) (iR x).1 gg.W (PAt.out.below (goutW gg)) (Kd.aF HLO.out (goutW gg)) hll (HK.out u2) hkv
    refine (aD (g := gg) KC).mono ?_
    clear KC
    rintro _ _ ⟨rfl, gg, rfl⟩
    have HKV := I hkv
    clear hkv
    cases kv
    ·go_wp2_with fail
     go_ret
     exact ⟨fN (by rw [HR.out]; simp [kC, u2, HKV.out]), goutW _⟩
    ·go_wp2_with fail
     go_ret
     exact ⟨fN (by rw [HR.out]; simp [kC, u2, HKV.out]), goutW _⟩
   ·go_wp2_with fail
    go_ret
    exact ⟨fN (by rw [HR.out]; simp [kC, u2]), goutW _⟩
 ·rcases aJ (iR x).2 with u2 | u2
  ·go_wp2_with (first | (refine wpList_load_row rfl 125 (.tmp 4) rfl (w.heap.size + 1) rfl 125 #[.int .i64 x.is, .int .i64 x.d, .int .i64 x.s.f0, .string x.s.f1, .int .i64 x.s.f2.f0, .int .u64 x.s.f2.f1, .string x.s.f2.f2, .slice A5 x.s.f2.f3.length c5, .int .i64 x.s.f3.f0, .int .u64 x.s.f3.f1, .string x.s.f3.f2, .slice A9 x.s.f3.f3.length c9, .int .u64 x.s.f4, .int .u64 x.s.f5, .slice A12 x.s.f6.length c12, .slice A13 x.s.f7.length c13, .int .i64 x.e.f0, .int .u64 x.e.f1, .string x.e.f2, .slice A19 x.e.f3.length c19, .int .i64 x.deep, .slice A21 x.loops.length c21] (0, 0) _ (HBK.out gg) ew rfl (by kernel_rfl) ?_) | (refine mZ (by rfl) ?_; refine wpList_load_row rfl 125 (.tmp 4) rfl (w.heap.size + 1) rfl 125 #[.int .i64 x.is, .int .i64 x.d, .int .i64 x.s.f0, .string x.s.f1, .int .i64 x.s.f2.f0, .int .u64 x.s.f2.f1, .string x.s.f2.f2, .slice A5 x.s.f2.f3.length c5, .int .i64 x.s.f3.f0, .int .u64 x.s.f3.f1, .string x.s.f3.f2, .slice A9 x.s.f3.f3.length c9, .int .u64 x.s.f4, .int .u64 x.s.f5, .slice A12 x.s.f6.length c12, .slice A13 x.s.f7.length c13, .int .i64 x.e.f0, .int .u64 x.e.f1, .string x.e.f2, .slice A19 x.e.f3.length c19, .int .i64 x.deep, .slice A21 x.loops.length c21] (0, 0) _ (HBK.out gg) ew rfl (by kernel_rfl) ?_))
   obtain ⟨kv, hkv⟩ : ∃ b, kindV ds x (iR x).1 = b := ⟨_, rfl⟩
   have KC := kind_v nm wd ln ds bd A3 c3 A4 c4 x (A5 := A5) (c5 := c5) (A9 := A9) (c9 := c9) (A12 := A12) (c12 := c12) (A13 := A13) (c13 := c13) (A19 := A19) (c19 := c19) (iR x).1 gg.W (PAt.out.below (goutW gg)) (Kd.aF HLO.out (goutW gg)) hll (HK.out u2) hkv
   refine (aD (g := gg) KC).mono ?_
   clear KC
   rintro _ _ ⟨rfl, gg, rfl⟩
   have HKV := I hkv
   clear hkv
   cases kv
   ·go_wp2_with fail
    go_ret
    exact ⟨fN (by rw [HR.out]; simp [kC, u2, HKV.out]), goutW _⟩
   ·go_wp2_with fail
    go_ret
    exact ⟨fN (by rw [HR.out]; simp [kC, u2, HKV.out]), goutW _⟩
  ·go_wp2_with fail
   go_ret
   exact ⟨fN (by rw [HR.out]; simp [kC, u2]), goutW _⟩
end
end
section
attribute [local go_sem] G.cell
def mT (wd : Int) (x : TV) : Bool := x.is == 2 && x.e.f0 == 1 && !gH wd x.e.f1
theorem jR {a b : Int} (h : a = b) : fw (.int .i64 a) = .returned (.int .i64 b) := by rw [h]
set_option maxRecDepth 100000 in
theorem viol13_calls (nm : ByteArray) (wd ln : Int) (ds : List S70) (bd : List S119) (A3 : Option Addr) (c3 : Nat) (A4 : Option Addr) (c4 : Nat) (x : TV) {A5 : Option Addr} {c5 : Nat} {A9 : Option Addr} {c9 : Nat} {A12 : Option Addr} {c12 : Nat} {A13 : Option Addr} {c13 : Nat} {A19 : Option Addr} {c19 : Nat} {A21 : Option Addr} {c21 : Nat} (w : World) (hp : ProgAt w ds bd A3 c3 A4 c4)
 (hlo : Kd.string.C w A21 x.loops.length x.loops) (hll : x.loops.length <= c21) (hx : x.is = 0 \/ x.is = 1 \/ x.is = 2) (hw : 0 <= wd) (hn : 0 <= x.e.f1) (r : Int) (hr : r = if mT wd x = af then 165 else 0) :
 Calls ak 146 #[(.agg #[.string nm, .int .i64 wd, .int .i64 ln, .slice A3 ds.length c3, .slice A4 bd.length c4]), (.agg #[.int .i64 x.is, .int .i64 x.d, .int .i64 x.s.f0, .string x.s.f1, .int .i64 x.s.f2.f0, .int .u64 x.s.f2.f1, .string x.s.f2.f2, .slice A5 x.s.f2.f3.length c5, .int .i64 x.s.f3.f0, .int .u64 x.s.f3.f1, .string x.s.f3.f2, .slice A9 x.s.f3.f3.length c9, .int .u64 x.s.f4, .int .u64 x.s.f5, .slice A12 x.s.f6.length c12, .slice A13 x.s.f7.length c13, .int .i64 x.e.f0, .int .u64 x.e.f1, .string x.e.f2, .slice A19 x.e.f3.length c19, .int .i64 x.deep, .slice A21 x.loops.length c21]), .int .i64 13] w fun e w' => e = .returned (.int .i64 r) /\ Below w.heap.size w w' := by
 have gout := @gB w
 have HLO := I hlo
 have PAt := I hp
 have HXX := I hx
 have HR := I hr
 clear hlo hp hx hr
 go_enter Tryz.func146, Tryz.ntmps146
 go_upto_region 1 with (fail)
 refine aH ?_
 intro gg
 have goutW : ∀ (g : G (gw0 gg)), Below w.heap.size w g.W := fun g => gout g
 have HBK := I (show ∀ g : G (gw0 gg), g.W.heap[w.heap.size + 1]? = ac (.cells #[.int .i64 x.is, .int .i64 x.d, .int .i64 x.s.f0, .string x.s.f1, .int .i64 x.s.f2.f0, .int .u64 x.s.f2.f1, .string x.s.f2.f2, .slice A5 x.s.f2.f3.length c5, .int .i64 x.s.f3.f0, .int .u64 x.s.f3.f1, .string x.s.f3.f2, .slice A9 x.s.f3.f3.length c9, .int .u64 x.s.f4, .int .u64 x.s.f5, .slice A12 x.s.f6.length c12, .slice A13 x.s.f7.length c13, .int .i64 x.e.f0, .int .u64 x.e.f1, .string x.e.f2, .slice A19 x.e.f3.length c19, .int .i64 x.deep, .slice A21 x.loops.length c21] 125 (0, 0)) from fun g => (g.below.block _ (by simp [gw0])).trans (heap_alloc2_new w _ _))
 go_wp2_with (refine wpList_load_row rfl 125 (.tmp 4) rfl (w.heap.size + 1) rfl 125 #[.int .i64 x.is, .int .i64 x.d, .int .i64 x.s.f0, .string x.s.f1, .int .i64 x.s.f2.f0, .int .u64 x.s.f2.f1, .string x.s.f2.f2, .slice A5 x.s.f2.f3.length c5, .int .i64 x.s.f3.f0, .int .u64 x.s.f3.f1, .string x.s.f3.f2, .slice A9 x.s.f3.f3.length c9, .int .u64 x.s.f4, .int .u64 x.s.f5, .slice A12 x.s.f6.length c12, .slice A13 x.s.f7.length c13, .int .i64 x.e.f0, .int .u64 x.e.f1, .string x.e.f2, .slice A19 x.e.f3.length c19, .int .i64 x.deep, .slice A21 x.loops.length c21] (0, 0) _ (HBK.out gg) ew rfl (by kernel_rfl) ?_)
 refine (aD (g := gg) (gE x gg.W HXX.out)).mono ?_
 rintro _ _ ⟨rfl, gg, rfl⟩
 rcases aJ (x.is == 2) with i2 | i2
 ·have i1 : (x.is == 1) = J := by have := beq_iff_eq.1 i2; rw [this]; rfl
  rcases aJ (x.e.f0 == 1) with e1 | e1
  ·go_wp2_with fail
   rcases aJ (gH wd x.e.f1) with hf | hf
   ·refine (aD (g := gg) (fits_v hf hw hn gg.W)).mono ?_
    rintro _ _ ⟨rfl, gg, rfl⟩
    go_wp2_with fail
    go_ret
    exact ⟨jR (by rw [HR.out]; simp [mT, i2, e1, hf]), goutW _⟩
   ·refine (aD (g := gg) (fits_v hf hw hn gg.W)).mono ?_
    rintro _ _ ⟨rfl, gg, rfl⟩
    go_wp2_with fail
    go_ret
    exact ⟨jR (by rw [HR.out]; simp [mT, i2, e1, hf]), goutW _⟩
  ·go_wp2_with fail
   go_ret
   exact ⟨jR (by rw [HR.out]; simp [mT, i2, e1]), goutW _⟩
 ·rcases aJ (x.is == 1) with i1 | i1
  ·rcases aJ (x.s.f0 == 4) with s4 | s4
   ·go_wp2_with fail
    go_ret
    exact ⟨jR (by rw [HR.out]; simp [mT, i2]), goutW _⟩
   ·go_wp2_with fail
    go_ret
    exact ⟨jR (by rw [HR.out]; simp [mT, i2]), goutW _⟩
  ·go_wp2_with fail
   go_ret
   exact ⟨jR (by rw [HR.out]; simp [mT, i2]), goutW _⟩
end
section
attribute [local go_sem] G.cell
def mE (wd : Int) (x : TV) : Bool := x.is == 1 && x.s.f0 == 4 && (decide (x.s.f5 < x.s.f4) || (decide (0 < x.s.f5) && !gH wd (x.s.f5 - 1)))
theorem u64_pred {z : Int} (h0 : 0 < z) (h1 : z < 18446744073709551616) : IntKind.u64.wrap (z - 1) = z - 1 := by simp only [IntKind.wrap, ik, jg, jb, jv, if_false]; omega
theorem jO {a b : Int} (h : a = b) : fw (.int .i64 a) = .returned (.int .i64 b) := by rw [h]
set_option maxRecDepth 100000 in
theorem viol14_calls (nm : ByteArray) (wd ln : Int) (ds : List S70) (bd : List S119) (A3 : Option Addr) (c3 : Nat) (A4 : Option Addr) (c4 : Nat) (x : TV) {A5 : Option Addr} {c5 : Nat} {A9 : Option Addr} {c9 : Nat} {A12 : Option Addr} {c12 : Nat} {A13 : Option Addr} {c13 : Nat} {A19 : Option Addr} {c19 : Nat} {A21 : Option Addr} {c21 : Nat} (w : World) (hp : ProgAt w ds bd A3 c3 A4 c4)
 (hlo : Kd.string.C w A21 x.loops.length x.loops) (hll : x.loops.length <= c21) (hx : x.is = 0 \/ x.is = 1 \/ x.is = 2) (hw : 0 <= wd) (hn : 0 <= x.s.f5 /\ x.s.f5 < 18446744073709551616) (r : Int) (hr : r = if mE wd x = af then 166 else 0) :
 Calls ak 146 #[(.agg #[.string nm, .int .i64 wd, .int .i64 ln, .slice A3 ds.length c3, .slice A4 bd.length c4]), (.agg #[.int .i64 x.is, .int .i64 x.d, .int .i64 x.s.f0, .string x.s.f1, .int .i64 x.s.f2.f0, .int .u64 x.s.f2.f1, .string x.s.f2.f2, .slice A5 x.s.f2.f3.length c5, .int .i64 x.s.f3.f0, .int .u64 x.s.f3.f1, .string x.s.f3.f2, .slice A9 x.s.f3.f3.length c9, .int .u64 x.s.f4, .int .u64 x.s.f5, .slice A12 x.s.f6.length c12, .slice A13 x.s.f7.length c13, .int .i64 x.e.f0, .int .u64 x.e.f1, .string x.e.f2, .slice A19 x.e.f3.length c19, .int .i64 x.deep, .slice A21 x.loops.length c21]), .int .i64 14] w fun e w' => e = .returned (.int .i64 r) /\ Below w.heap.size w w' := by
 have gout := @gB w
 have HLO := I hlo
 have PAt := I hp
 have HXX := I hx
 have HR := I hr
 clear hlo hp hx hr
 go_enter Tryz.func146, Tryz.ntmps146
 go_upto_region 1 with (fail)
 refine aH ?_
 intro gg
 have goutW : ∀ (g : G (gw0 gg)), Below w.heap.size w g.W := fun g => gout g
 have HBK := I (show ∀ g : G (gw0 gg), g.W.heap[w.heap.size + 1]? = ac (.cells #[.int .i64 x.is, .int .i64 x.d, .int .i64 x.s.f0, .string x.s.f1, .int .i64 x.s.f2.f0, .int .u64 x.s.f2.f1, .string x.s.f2.f2, .slice A5 x.s.f2.f3.length c5, .int .i64 x.s.f3.f0, .int .u64 x.s.f3.f1, .string x.s.f3.f2, .slice A9 x.s.f3.f3.length c9, .int .u64 x.s.f4, .int .u64 x.s.f5, .slice A12 x.s.f6.length c12, .slice A13 x.s.f7.length c13, .int .i64 x.e.f0, .int .u64 x.e.f1, .string x.e.f2, .slice A19 x.e.f3.length c19, .int .i64 x.deep, .slice A21 x.loops.length c21] 125 (0, 0)) from fun g => (g.below.block _ (by simp [gw0])).trans (heap_alloc2_new w _ _))
 go_wp2_with (refine wpList_load_row rfl 125 (.tmp 4) rfl (w.heap.size + 1) rfl 125 #[.int .i64 x.is, .int .i64 x.d, .int .i64 x.s.f0, .string x.s.f1, .int .i64 x.s.f2.f0, .int .u64 x.s.f2.f1, .string x.s.f2.f2, .slice A5 x.s.f2.f3.length c5, .int .i64 x.s.f3.f0, .int .u64 x.s.f3.f1, .string x.s.f3.f2, .slice A9 x.s.f3.f3.length c9, .int .u64 x.s.f4, .int .u64 x.s.f5, .slice A12 x.s.f6.length c12, .slice A13 x.s.f7.length c13, .int .i64 x.e.f0, .int .u64 x.e.f1, .string x.e.f2, .slice A19 x.e.f3.length c19, .int .i64 x.deep, .slice A21 x.loops.length c21] (0, 0) _ (HBK.out gg) ew rfl (by kernel_rfl) ?_)
 refine (aD (g := gg) (gE x gg.W HXX.out)).mono ?_
 rintro _ _ ⟨rfl, gg, rfl⟩
 have HN := I hn
 clear hn
 rcases aJ (x.is == 1) with i1 | i1
 ·rcases aJ (x.s.f0 == 4) with s4 | s4
  ·rcases cu x.s.f5 x.s.f4 with d | d
   ·go_wp2_with fail
    go_ret
    exact ⟨jO (by rw [HR.out]; simp [mE, i1, s4, d]), goutW _⟩
   ·have d' : ¬ x.s.f5 < x.s.f4 := by omega
    rcases cu 0 x.s.f5 with p | p
    ·go_wp2_with fail
     obtain ⟨z, hz⟩ : ∃ z, z = x.s.f5 - 1 := ⟨_, rfl⟩
     rw [show IntKind.u64.wrap (x.s.f5 - 1) = z by rw [hz]; exact u64_pred p HN.out.2]
     have HZ := I hz
     rcases aJ (gH wd z) with hf | hf
     ·refine (aD (g := gg) (fits_v hf hw (by have := HZ.out; omega) gg.W)).mono ?_
      rintro _ _ ⟨rfl, gg, rfl⟩
      clear hz
      go_wp2_with fail
      go_ret
      exact ⟨jO (by rw [HR.out]; rw [HZ.out] at hf; simp [mE, i1, s4, d', p, hf]), goutW _⟩
     ·refine (aD (g := gg) (fits_v hf hw (by have := HZ.out; omega) gg.W)).mono ?_
      rintro _ _ ⟨rfl, gg, rfl⟩
      clear hz
      go_wp2_with fail
      go_ret
      exact ⟨jO (by rw [HR.out]; rw [HZ.out] at hf; simp [mE, i1, s4, d', p, hf]), goutW _⟩
    ·have p' : ¬ 0 < x.s.f5 := by omega
     have P := I (decide_eq_false p')
     go_wp2_with fail
     go_ret
     exact ⟨jO (by rw [HR.out]; simp [mE, i1, s4, d', P.out]), goutW _⟩
  ·go_wp2_with fail
   go_ret
   exact ⟨jO (by rw [HR.out]; simp [mE, i1, s4]), goutW _⟩
 ·go_wp2_with fail
  go_ret
  exact ⟨jO (by rw [HR.out]; simp [mE, i1]), goutW _⟩
end
section
attribute [local go_sem] G.cell
def lL (ds : List S70) (x : TV) : Bool := x.is == 1 && x.s.f0 == 4 && (decide (0 <= fQ ds x.s.f1) || iC x.loops x.s.f1)
theorem kR {a b : Int} (h : a = b) : fw (.int .i64 a) = .returned (.int .i64 b) := by rw [h]
set_option maxRecDepth 100000 in
theorem viol15_calls (nm : ByteArray) (wd ln : Int) (ds : List S70) (bd : List S119) (A3 : Option Addr) (c3 : Nat) (A4 : Option Addr) (c4 : Nat) (x : TV) {A5 : Option Addr} {c5 : Nat} {A9 : Option Addr} {c9 : Nat} {A12 : Option Addr} {c12 : Nat} {A13 : Option Addr} {c13 : Nat} {A19 : Option Addr} {c19 : Nat} {A21 : Option Addr} {c21 : Nat} (w : World) (hp : ProgAt w ds bd A3 c3 A4 c4)
 (hlo : Kd.string.C w A21 x.loops.length x.loops) (hll : x.loops.length <= c21) (hx : x.is = 0 \/ x.is = 1 \/ x.is = 2) (r : Int) (hr : r = if lL ds x = af then 167 else 0) :
 Calls ak 146 #[(.agg #[.string nm, .int .i64 wd, .int .i64 ln, .slice A3 ds.length c3, .slice A4 bd.length c4]), (.agg #[.int .i64 x.is, .int .i64 x.d, .int .i64 x.s.f0, .string x.s.f1, .int .i64 x.s.f2.f0, .int .u64 x.s.f2.f1, .string x.s.f2.f2, .slice A5 x.s.f2.f3.length c5, .int .i64 x.s.f3.f0, .int .u64 x.s.f3.f1, .string x.s.f3.f2, .slice A9 x.s.f3.f3.length c9, .int .u64 x.s.f4, .int .u64 x.s.f5, .slice A12 x.s.f6.length c12, .slice A13 x.s.f7.length c13, .int .i64 x.e.f0, .int .u64 x.e.f1, .string x.e.f2, .slice A19 x.e.f3.length c19, .int .i64 x.deep, .slice A21 x.loops.length c21]), .int .i64 15] w fun e w' => e = .returned (.int .i64 r) /\ Below w.heap.size w w' := by
 have gout := @gB w
 have HLO := I hlo
 have PAt := I hp
 have HXX := I hx
 have HR := I hr
 clear hlo hp hx hr
 go_enter Tryz.func146, Tryz.ntmps146
 go_upto_region 1 with (fail)
 refine aH ?_
 intro gg
 have goutW : ∀ (g : G (gw0 gg)), Below w.heap.size w g.W := fun g => gout g
 have HBK := I (show ∀ g : G (gw0 gg), g.W.heap[w.heap.size + 1]? = ac (.cells #[.int .i64 x.is, .int .i64 x.d, .int .i64 x.s.f0, .string x.s.f1, .int .i64 x.s.f2.f0, .int .u64 x.s.f2.f1, .string x.s.f2.f2, .slice A5 x.s.f2.f3.length c5, .int .i64 x.s.f3.f0, .int .u64 x.s.f3.f1, .string x.s.f3.f2, .slice A9 x.s.f3.f3.length c9, .int .u64 x.s.f4, .int .u64 x.s.f5, .slice A12 x.s.f6.length c12, .slice A13 x.s.f7.length c13, .int .i64 x.e.f0, .int .u64 x.e.f1, .string x.e.f2, .slice A19 x.e.f3.length c19, .int .i64 x.deep, .slice A21 x.loops.length c21] 125 (0, 0)) from fun g => (g.below.block _ (by simp [gw0])).trans (heap_alloc2_new w _ _))
 go_wp2_with (refine wpList_load_row rfl 125 (.tmp 4) rfl (w.heap.size + 1) rfl 125 #[.int .i64 x.is, .int .i64 x.d, .int .i64 x.s.f0, .string x.s.f1, .int .i64 x.s.f2.f0, .int .u64 x.s.f2.f1, .string x.s.f2.f2, .slice A5 x.s.f2.f3.length c5, .int .i64 x.s.f3.f0, .int .u64 x.s.f3.f1, .string x.s.f3.f2, .slice A9 x.s.f3.f3.length c9, .int .u64 x.s.f4, .int .u64 x.s.f5, .slice A12 x.s.f6.length c12, .slice A13 x.s.f7.length c13, .int .i64 x.e.f0, .int .u64 x.e.f1, .string x.e.f2, .slice A19 x.e.f3.length c19, .int .i64 x.deep, .slice A21 x.loops.length c21] (0, 0) _ (HBK.out gg) ew rfl (by kernel_rfl) ?_)
 refine (aD (g := gg) (gE x gg.W HXX.out)).mono ?_
 rintro _ _ ⟨rfl, gg, rfl⟩
 rcases aJ (x.is == 1) with i1 | i1
 ·rcases aJ (x.s.f0 == 4) with s4 | s4
  ·go_wp2_with fail
   refine (aD (g := gg) (oA (PAt.out.below (goutW gg)) rfl)).mono ?_
   rintro _ _ ⟨rfl, gg, rfl⟩
   rcases cu (fQ ds x.s.f1) 0 with d | d
   ·have d' : ¬ 0 <= fQ ds x.s.f1 := by omega
    go_wp2_with fail
    rcases aJ (iC x.loops x.s.f1) with hh | hh
    ·refine (aD (g := gg) (in_v hh A21 c21 gg.W (Kd.aF HLO.out (goutW gg)) hll)).mono ?_
     rintro _ _ ⟨rfl, gg, rfl⟩
     go_wp2_with fail
     go_ret
     exact ⟨kR (by rw [HR.out]; simp [lL, i1, s4, d', hh]), goutW _⟩
    ·refine (aD (g := gg) (in_v hh A21 c21 gg.W (Kd.aF HLO.out (goutW gg)) hll)).mono ?_
     rintro _ _ ⟨rfl, gg, rfl⟩
     go_wp2_with fail
     go_ret
     exact ⟨kR (by rw [HR.out]; simp [lL, i1, s4, d', hh]), goutW _⟩
   ·go_wp2_with fail
    go_ret
    exact ⟨kR (by rw [HR.out]; simp [lL, i1, s4, d]), goutW _⟩
  ·go_wp2_with fail
   go_ret
   exact ⟨kR (by rw [HR.out]; simp [lL, i1, s4]), goutW _⟩
 ·go_wp2_with fail
  go_ret
  exact ⟨kR (by rw [HR.out]; simp [lL, i1]), goutW _⟩
end
section
attribute [local go_sem] G.cell
theorem bn {z a : Int} (h : ¬ z = a) : (z != a) = af := by simpa using h
theorem power_v {n : Int} {b : Bool} (h : cZ n = b) (w : World) : Calls ak 224 #[.int .u64 n] w fun e w' => e = .returned (.bool b) /\ Below w.heap.size w w' :=
 (cadenceref16_power.calls 10 n b w ((power_eq n).trans (by rw [h]))).mono fun _ _ ⟨he, hd⟩ => ⟨he, hd.below⟩
theorem form_v {nm : ByteArray} {wd ln : Int} {ds : List S70} {bd : List S119} {A3 : Option Addr} {c3 : Nat} {A4 : Option Addr} {c4 : Nat} {w : World} (hp : ProgAt w ds bd A3 c3 A4 c4) {b : Bool} (h : dG nm wd ln ds bd = b) :
 Calls ak 78 #[.agg #[.string nm, .int .i64 wd, .int .i64 ln, .slice A3 ds.length c3, .slice A4 bd.length c4]] w fun e w' => e = .returned (.bool b) /\ Below w.heap.size w w' := h ▸ refForm_walk nm wd ln ds bd A3 c3 A4 c4 w hp.hd hp.hld hp.hb hp.hlb
theorem wf_v {nm : ByteArray} {wd ln : Int} {ds : List S70} {bd : List S119} {A3 : Option Addr} {c3 : Nat} {A4 : Option Addr} {c4 : Nat} {w : World} (hp : ProgAt w ds bd A3 c3 A4 c4) {b : Bool} (h : dG nm wd ln ds bd = b) :
 Calls ak 75 #[.agg #[.string nm, .int .i64 wd, .int .i64 ln, .slice A3 ds.length c3, .slice A4 bd.length c4]] w fun e w' => e = .returned (.bool b) /\ Below w.heap.size w w' := h ▸ Form_walk nm wd ln ds bd A3 c3 A4 c4 w hp.hd hp.hld hp.hb hp.hlb
theorem nA {nm : ByteArray} {wd ln : Int} {ds : List S70} {bd : List S119} (h : dG nm wd ln ds bd = af) : 0 <= wd /\ 0 <= ln /\ (∀ d ∈ ds, 0 <= d.f2) /\ bdB bd = af := by
 unfold dG at h
 simp only [bo, decide_eq_true_eq, dz] at h
 obtain ⟨⟨⟨_, h1⟩, h2⟩, h3, h4⟩ := h
 refine ⟨h1, h2, fun d hd => ?_, h4⟩
 have := h3 d hd
 unfold dcB at this
 simp only [bo, decide_eq_true_eq] at this
 exact this.1.2
def oC (nm : ByteArray) (wd ln : Int) (ds : List S70) (bd : List S119) : Int × Int :=
 if dG nm wd ln ds bd = J then (1, 1) else if cV wd = J then (2, 5) else if cZ ln = J then (3, 163) else if 256 < ds.length then (4, 4) else (0, 0)
theorem u64_id {z : Int} (h0 : 0 <= z) (h1 : z < 18446744073709551616) : IntKind.u64.wrap z = z := by simp only [IntKind.wrap, ik, jg, jb, jv, if_false]; omega
theorem lU {a b c d : Int} (h1 : a = c) (h2 : b = d) : fw (.tuple #[.int .i64 a, .int .i64 b]) = .returned (.tuple #[.int .i64 c, .int .i64 d]) := by rw [h1, h2]
set_option maxRecDepth 100000 in
theorem head_calls (nm : ByteArray) (wd ln : Int) (ds : List S70) (bd : List S119) (A3 : Option Addr) (c3 : Nat) (A4 : Option Addr) (c4 : Nat) (w : World) (hp : ProgAt w ds bd A3 c3 A4 c4) (hln : ln < 18446744073709551616) (r : Int × Int) (hr : r = oC nm wd ln ds bd) :
 Calls ak 144 #[.agg #[.string nm, .int .i64 wd, .int .i64 ln, .slice A3 ds.length c3, .slice A4 bd.length c4]] w fun e w' => e = .returned (.tuple #[.int .i64 r.1, .int .i64 r.2]) /\ Below w.heap.size w w' := by
 have gout := @gA w
 have PAt := I hp
 have HR := I hr
 have hlm := hp.hd.2.1
 clear hp hr
 go_enter Tryz.func144, Tryz.ntmps144
 go_upto_region 1 with (fail)
 refine aH ?_
 intro gg
 go_wp2_with fail
 rcases aJ (dG nm wd ln ds bd) with hf | hf
 ·have HF := I hf
  clear hf
  refine (aD (g := gg) (form_v (PAt.out.below (gout gg)) HF.out)).mono ?_
  rintro _ _ ⟨rfl, gg, rfl⟩
  have hw : wd = 4 \/ wd = 8 \/ wd = 16 \/ wd = 32 \/ wd = 64 \/ (¬ wd = 4 /\ ¬ wd = 8 /\ ¬ wd = 16 /\ ¬ wd = 32 /\ ¬ wd = 64) := by omega
  rcases aJ (cV wd) with h1 | h1
  ·have W1 := I h1
   rcases hw with h | h | h | h | h | ⟨k1, k2, k3, k4, k5⟩
   rotate_right
   ·exfalso
    simp [cV, k1, k2, k3, k4, k5] at h1
   all_goals
    clear h1
    go_wp2_with fail
    have e := I (u64_id (nA HF.out).2.1 hln)
    rw [e.out]
    rcases aJ (cZ ln) with h2 | h2
    ·have W2 := I h2
     clear h2
     refine (aD (g := gg) (power_v W2.out gg.W)).mono ?_
     rintro _ _ ⟨rfl, gg, rfl⟩
     by_cases h3 : 256 < ds.length
     ·have h3' : (256 : Int) < (ds.length : Int) := by omega
      go_wp2_with fail
      go_ret2
      have e2 : r = (4, 4) := by rw [HR.out]; unfold oC; rw [if_neg (by simp [HF.out]), if_neg (by simp [W1.out]), if_neg (by simp [W2.out]), if_pos h3]
      exact ⟨lU (by rw [e2]) (by rw [e2]), gout _⟩
     ·have h3' : ¬ (256 : Int) < (ds.length : Int) := by omega
      go_wp2_with fail
      go_ret2
      have e2 : r = (0, 0) := by rw [HR.out]; unfold oC; rw [if_neg (by simp [HF.out]), if_neg (by simp [W1.out]), if_neg (by simp [W2.out]), if_neg h3]
      exact ⟨lU (by rw [e2]) (by rw [e2]), gout _⟩
    ·have W2 := I h2
     clear h2
     refine (aD (g := gg) (power_v W2.out gg.W)).mono ?_
     rintro _ _ ⟨rfl, gg, rfl⟩
     go_wp2_with fail
     go_ret2
     have e2 : r = (3, 163) := by rw [HR.out]; unfold oC; rw [if_neg (by simp [HF.out]), if_neg (by simp [W1.out]), if_pos W2.out]
     exact ⟨lU (by rw [e2]) (by rw [e2]), gout _⟩
  ·have W1 := I h1
   rcases hw with h | h | h | h | h | ⟨k1, k2, k3, k4, k5⟩
   rotate_right
   ·clear h1
    have b1 := bn k1
    have b2 := bn k2
    have b3 := bn k3
    have b4 := bn k4
    have b5 := bn k5
    go_wp2_with fail
    go_ret2
    have e2 : r = (2, 5) := by rw [HR.out]; unfold oC; rw [if_neg (by simp [HF.out]), if_pos W1.out]
    exact ⟨lU (by rw [e2]) (by rw [e2]), gout _⟩
   all_goals
    exfalso
    simp [cV, h] at h1
 ·have HF := I hf
  clear hf
  refine (aD (g := gg) (form_v (PAt.out.below (gout gg)) HF.out)).mono ?_
  rintro _ _ ⟨rfl, gg, rfl⟩
  go_wp2_with fail
  go_ret2
  have e2 : r = (1, 1) := by rw [HR.out]; unfold oC; rw [if_pos HF.out]
  exact ⟨lU (by rw [e2]) (by rw [e2]), gout _⟩
end
section
attribute [local go_sem] G.cell
def lF (wd : Int) (ds : List S70) : Ans := match aZ ds.length (cP ds) with
 | some i => ⟨5, i, 160⟩
 | none => match aZ ds.length (bS ds) with
   | some i => ⟨6, i, 163⟩
   | none => match aZ ds.length (bD ds) with
     | some i => ⟨7, i, 164⟩
     | none => match aZ ds.length (cC wd ds) with
       | some i => ⟨8, i, 165⟩
       | none => if 4096 < dB ds then ⟨9, -1, 169⟩ else ⟨0, 0, 0⟩
theorem findI_at {ds : List S70} {i : Nat} (hi : i < ds.length) : (fQ ds (aG ds (i : Int)).f1 < (i : Int)) ↔ cP ds i = af := by
 unfold cP fQ bZ
 rcases dD ds.length (fun j => eqS (aG ds (j : Int)).f1 (aG ds (i : Int)).f1) with ⟨h1, h2⟩ | ⟨m, h0, h1, h2, h3⟩
 ·have := h2 i hi
  simp [eqS] at this
 ·rw [h1]
  show ((m : Int) < (i : Int)) ↔ _
  have hm : m <= i := by
   rcases gj i m with h | h
   ·have := h3 i h
    simp [eqS] at this
   ·exact h
  rcases gj m i with h | h
  ·rw [cB h h2 h3]
   simp
   omega
  ·rw [bG fun j hj => h3 j (by omega)]
   simp
   omega
theorem declS_5 {wd : Int} {ds : List S70} {i : Nat} (hi : i < ds.length) (hf : cP ds i = af) (h : ∀ j, j < i -> cP ds j = J) : lF wd ds = ⟨5, i, 160⟩ := by unfold lF; rw [cB hi hf h]
theorem declS_6 {wd : Int} {ds : List S70} {i : Nat} (h5 : ∀ j, j < ds.length -> cP ds j = J) (hi : i < ds.length) (hf : bS ds i = af) (h : ∀ j, j < i -> bS ds j = J) : lF wd ds = ⟨6, i, 163⟩ := by unfold lF; rw [bG h5, cB hi hf h]
theorem declS_7 {wd : Int} {ds : List S70} {i : Nat} (h5 : ∀ j, j < ds.length -> cP ds j = J) (h6 : ∀ j, j < ds.length -> bS ds j = J) (hi : i < ds.length) (hf : bD ds i = af) (h : ∀ j, j < i -> bD ds j = J) : lF wd ds = ⟨7, i, 164⟩ := by unfold lF; rw [bG h5, bG h6, cB hi hf h]
theorem declS_8 {wd : Int} {ds : List S70} {i : Nat} (h5 : ∀ j, j < ds.length -> cP ds j = J) (h6 : ∀ j, j < ds.length -> bS ds j = J) (h7 : ∀ j, j < ds.length -> bD ds j = J) (hi : i < ds.length) (hf : cC wd ds i = af) (h : ∀ j, j < i -> cC wd ds j = J) : lF wd ds = ⟨8, i, 165⟩ := by
 unfold lF; rw [bG h5, bG h6, bG h7, cB hi hf h]
theorem declS_9 {wd : Int} {ds : List S70} (h5 : ∀ j, j < ds.length -> cP ds j = J) (h6 : ∀ j, j < ds.length -> bS ds j = J) (h7 : ∀ j, j < ds.length -> bD ds j = J) (h8 : ∀ j, j < ds.length -> cC wd ds j = J) : lF wd ds = if 4096 < dB ds then ⟨9, -1, 169⟩ else ⟨0, 0, 0⟩ := by
 unfold lF; rw [bG h5, bG h6, bG h7, bG h8]
theorem pS {l : List S70} {k : Nat} (hlt : k < l.length) : l.take (k + 1) = l.take k ++ [aG l (k : Int)] := by
 unfold aG
 rw [av, au, az hlt, List.take_add_one, az hlt]
 rfl
theorem kY (l : List S70) (x : S70) : dB (l ++ [x]) = dB l + if isIn x = af then cK x else 0 := by
 unfold dB
 rw [List.filter_append, fg, List.sum_append]
 by_cases h : isIn x = af <;> simp [h]
theorem qW {n : Int} (h : cZ n = af) : 1 <= n /\ n <= 256 := by
 unfold cZ at h
 simp only [Bool.or_eq_true, beq_iff_eq] at h
 omega
theorem words_le {d : S70} (h : d.f2 = 0 \/ cZ d.f2 = af) : 1 <= cK d /\ cK d <= 256 := by
 unfold cK
 split
 ·omega
 ·rcases h with h | h
  ·contradiction
  ·exact qW h
theorem o7 (x : S70) (A : Option Addr) (c : Nat) (w : World) (hc : (Kd.int .u64).C w A x.f3.length x.f3) (hl : x.f3.length <= c) : Calls ak 56 #[.agg #[.int .i64 x.f0, .string x.f1, .int .i64 x.f2, .slice A x.f3.length c]] w fun e w' => e = .returned (.int .i64 (cK x)) /\ Below w.heap.size w w' := by
 refine (cadenceref16_Words.calls x.f0 x.f1 x.f2 A c x.f3 (cK x) w hc hl (by unfold cadenceref16_Words.f cK; split <;> rfl)).mono fun _ _ ⟨he, hd⟩ => ⟨he, ?_⟩
 first | exact hd | exact hd.below
theorem o4 {l : List Int} {j : Nat} (h : j < l.length) : l.getD j 0 ∈ l := by rw [au, az h]; exact ef _
theorem range_bad {wd : Int} {ds : List S70} {k j : Nat} (hj : j < (aG ds (k : Int)).f3.length) (hf : gH wd ((aG ds (k : Int)).f3.getD j 0) = J) : cC wd ds k = af := by
 unfold cC
 rw [List.any_eq_true]
 exact ⟨_, o4 hj, by rw [hf]; rfl⟩
theorem range_good {wd : Int} {ds : List S70} {k : Nat} (h : ∀ j, j < (aG ds (k : Int)).f3.length -> gH wd ((aG ds (k : Int)).f3.getD j 0) = af) : cC wd ds k = J := by
 unfold cC
 rw [List.any_eq_false]
 intro v hv
 obtain ⟨j, hj, rfl⟩ := fz hv
 have := h j hj
 rw [au, az hj] at this
 rw [show (aG ds (k : Int)).f3[j] = (ac (aG ds (k : Int)).f3[j]).getD 0 from rfl, this]
 simp
theorem size_good {ds : List S70} {k : Nat} (h : bS ds k = J) : (aG ds (k : Int)).f2 = 0 \/ cZ (aG ds (k : Int)).f2 = af := by
 unfold bS at h
 by_cases z : (aG ds (k : Int)).f2 = 0
 ·exact .inl z
 ·right
  have e := bn z
  rw [e] at h
  simpa using h
theorem jS {a b c d e f : Int} (h1 : a = d) (h2 : b = e) (h3 : c = f) : fw (.tuple #[.int .i64 a, .int .i64 b, .int .i64 c]) = .returned (.tuple #[.int .i64 d, .int .i64 e, .int .i64 f]) := by rw [h1, h2, h3]
set_option maxRecDepth 100000 in
theorem decls_calls (nm : ByteArray) (wd ln : Int) (ds : List S70) (bd : List S119) (A3 : Option Addr) (c3 : Nat) (A4 : Option Addr) (c4 : Nat) (w : World) (hp : ProgAt w ds bd A3 c3 A4 c4) (hw : 0 <= wd) (hd : ∀ d ∈ ds, 0 <= d.f2 /\ d.f2 < 18446744073709551616 /\ ∀ v ∈ d.f3, 0 <= v) (hl : ds.length <= 256)
 (r : Ans) (hr : r = lF wd ds) :
 Calls ak 145 #[(.agg #[.string nm, .int .i64 wd, .int .i64 ln, .slice A3 ds.length c3, .slice A4 bd.length c4])] w fun e w' => e = .returned (.tuple #[.int .i64 r.c, .int .i64 r.at', .int .i64 r.e]) /\ Below w.heap.size w w' := by
 have gout := @gA w
 have PAt := I hp
 have HR := I hr
 have HD := I hd
 have HL := I hl
 have hlm := hp.hd.2.1
 clear hp hr hd hl
 go_enter Tryz.func145, Tryz.ntmps145
 go_upto_region 1 with (fail)
 refine aH ?_
 intro gg
 have goutW : ∀ (g : G (gw0 gg)), Below w.heap.size w g.W := fun g => gout g
 go_wp2_with fail
 go_loopw [5] (fun i W => ∃ (k : Nat) (g : G (gw0 gg)), i = .int .i64 k /\ W = g.W /\ k <= ds.length /\ Aside0 (∀ j, j < k -> cP ds j = J)) (fun i _ => ds.length - (intOf i).toNat)
 case atStart => exact ⟨0, gg, rfl, rfl, bi _, ⟨fun j hj => absurd hj (cq _)⟩⟩
 case round =>
  obtain ⟨k, gx, rfl, rfl, hk, HK5⟩ := hrel
  by_cases hlt : k < ds.length
  ·obtain ⟨adr, A9d, c9d, e1, q0, q1, q2, q3, l9, g9⟩ := dN PAt.out.hd (k : Int) (bc _) (by omega)
   cases e1
   rw [av] at q0 q1 q2 q3
   have r0 : ∀ g' : G (gw0 gg), g'.W.cell? (adr.add (k * 4)) = ac (.int .i64 (aG ds (k : Int)).f0) := fun g' => aE (goutW g') q0
   have r1 : ∀ g' : G (gw0 gg), g'.W.cell? ⟨(adr.add (k * 4)).block, (adr.add (k * 4)).off + 1, ag⟩ = ac (.string (aG ds (k : Int)).f1) := fun g' => aE (goutW g') q1
   have r2 : ∀ g' : G (gw0 gg), g'.W.cell? ⟨(adr.add (k * 4)).block, (adr.add (k * 4)).off + 2, ag⟩ = ac (.int .i64 (aG ds (k : Int)).f2) := fun g' => aE (goutW g') q2
   have r3 : ∀ g' : G (gw0 gg), g'.W.cell? ⟨(adr.add (k * 4)).block, (adr.add (k * 4)).off + 3, ag⟩ = ac (.slice A9d (aG ds (k : Int)).f3.length c9d) := fun g' => aE (goutW g') q3
   have VAL := I (ae l9 g9)
   clear q0 q1 q2 q3 l9 g9
   have hi1 : (k : Int) < (ds.length : Int) := by omega
   have MEM := I (dO hlt)
   have TW := I (findI_at hlt)
   rcases aJ (cP ds k) with hy | hy
   ·have d : fQ ds (aG ds (k : Int)).f1 < (k : Int) := TW.out.2 hy
    have HY := I hy
    clear hy
    go_upto_region 4 with (fail)
    refine aP (g := gx) (by kernel_rfl) (by kernel_rfl) ?_
    repeat (go_big_quiet_step (fail))
    go_big_quiet_step (first | (go_at_call 225; exact aD (oA (PAt.out.below (goutW _)) rfl)))
    repeat (go_big_quiet_step (fail))
    refine wpQuiet_nil ?_
    rintro _ ⟨gg2, rfl⟩
    go_wp2_with fail
    go_ret3
    have e2 : r = _ := HR.out.trans (declS_5 hlt HY.out HK5.out)
    exact ⟨jS (by rw [e2]) (by rw [e2]) (by rw [e2]), goutW _⟩
   ·have d : ¬ fQ ds (aG ds (k : Int)).f1 < (k : Int) := fun h => by rw [TW.out.1 h] at hy; cases hy
    have HY := I hy
    clear hy
    go_upto_region 4 with (fail)
    refine aP (g := gx) (by kernel_rfl) (by kernel_rfl) ?_
    repeat (go_big_quiet_step (fail))
    go_big_quiet_step (first | (go_at_call 225; exact aD (oA (PAt.out.below (goutW _)) rfl)))
    repeat (go_big_quiet_step (fail))
    refine wpQuiet_nil ?_
    rintro _ ⟨gg2, rfl⟩
    go_wp2_with fail
    exact ⟨⟨k + 1, gg2, by go_num, rfl, by omega, ⟨fun j hj => (gh (j = k)).elim (fun h => h ▸ HY.out) (fun h => HK5.out j (by omega))⟩⟩, by simp [intOf]; omega⟩
  ·have HK5' := I (show ∀ j, j < ds.length -> cP ds j = J from fun j hj => HK5.out j (by omega))
   have hge : ¬ (k : Int) < (ds.length : Int) := by omega
   go_wp2_with fail
   go_loopw [6] (fun i W => ∃ (k : Nat) (g : G (gw0 gg)), i = .int .i64 k /\ W = g.W /\ k <= ds.length /\ Aside0 (∀ j, j < k -> bS ds j = J)) (fun i _ => ds.length - (intOf i).toNat)
   case atStart => exact ⟨0, gx, rfl, rfl, bi _, ⟨fun j hj => absurd hj (cq _)⟩⟩
   case round =>
    obtain ⟨k, gx, rfl, rfl, hk, HK6⟩ := hrel
    by_cases hlt : k < ds.length
    ·obtain ⟨adr, A9d, c9d, e1, q0, q1, q2, q3, l9, g9⟩ := dN PAt.out.hd (k : Int) (bc _) (by omega)
     cases e1
     rw [av] at q0 q1 q2 q3
     have r0 : ∀ g' : G (gw0 gg), g'.W.cell? (adr.add (k * 4)) = ac (.int .i64 (aG ds (k : Int)).f0) := fun g' => aE (goutW g') q0
     have r1 : ∀ g' : G (gw0 gg), g'.W.cell? ⟨(adr.add (k * 4)).block, (adr.add (k * 4)).off + 1, ag⟩ = ac (.string (aG ds (k : Int)).f1) := fun g' => aE (goutW g') q1
     have r2 : ∀ g' : G (gw0 gg), g'.W.cell? ⟨(adr.add (k * 4)).block, (adr.add (k * 4)).off + 2, ag⟩ = ac (.int .i64 (aG ds (k : Int)).f2) := fun g' => aE (goutW g') q2
     have r3 : ∀ g' : G (gw0 gg), g'.W.cell? ⟨(adr.add (k * 4)).block, (adr.add (k * 4)).off + 3, ag⟩ = ac (.slice A9d (aG ds (k : Int)).f3.length c9d) := fun g' => aE (goutW g') q3
     have VAL := I (ae l9 g9)
     clear q0 q1 q2 q3 l9 g9
     have hi1 : (k : Int) < (ds.length : Int) := by omega
     have MEM := I (dO hlt)
     by_cases z : (aG ds (k : Int)).f2 = 0
     ·have HY := I (show bS ds k = J by simp [bS, z])
      go_wp2_with fail
      exact ⟨⟨k + 1, gx, by go_num, rfl, by omega, ⟨fun j hj => (gh (j = k)).elim (fun h => h ▸ HY.out) (fun h => HK6.out j (by omega))⟩⟩, by simp [intOf]; omega⟩
     ·have bz := bn z
      have e := I (u64_id (HD.out _ MEM.out).1 (HD.out _ MEM.out).2.1)
      go_wp2_with fail
      rw [e.out]
      rcases aJ (cZ (aG ds (k : Int)).f2) with h2 | h2
      ·have HY := I (show bS ds k = J by simp [bS, h2])
       refine (aD (g := gx) (power_v h2 gx.W)).mono ?_
       rintro _ _ ⟨rfl, gg2, rfl⟩
       clear h2
       go_wp2_with fail
       exact ⟨⟨k + 1, gg2, by go_num, rfl, by omega, ⟨fun j hj => (gh (j = k)).elim (fun h => h ▸ HY.out) (fun h => HK6.out j (by omega))⟩⟩, by simp [intOf]; omega⟩
      ·have HY := I (show bS ds k = af by simp [bS, h2, z])
       refine (aD (g := gx) (power_v h2 gx.W)).mono ?_
       rintro _ _ ⟨rfl, gg2, rfl⟩
       clear h2
       go_wp2_with fail
       go_ret3
       have e2 : r = _ := HR.out.trans (declS_6 HK5'.out hlt HY.out HK6.out)
       exact ⟨jS (by rw [e2]) (by rw [e2]) (by rw [e2]), goutW _⟩
    ·have HK6' := I (show ∀ j, j < ds.length -> bS ds j = J from fun j hj => HK6.out j (by omega))
     have hge : ¬ (k : Int) < (ds.length : Int) := by omega
     go_wp2_with fail
     go_loopw [7] (fun i W => ∃ (k : Nat) (g : G (gw0 gg)), i = .int .i64 k /\ W = g.W /\ k <= ds.length /\ Aside0 (∀ j, j < k -> bD ds j = J)) (fun i _ => ds.length - (intOf i).toNat)
     case atStart => exact ⟨0, gx, rfl, rfl, bi _, ⟨fun j hj => absurd hj (cq _)⟩⟩
     case round =>
      obtain ⟨k, gx, rfl, rfl, hk, HK7⟩ := hrel
      by_cases hlt : k < ds.length
      ·obtain ⟨adr, A9d, c9d, e1, q0, q1, q2, q3, l9, g9⟩ := dN PAt.out.hd (k : Int) (bc _) (by omega)
       cases e1
       rw [av] at q0 q1 q2 q3
       have r0 : ∀ g' : G (gw0 gg), g'.W.cell? (adr.add (k * 4)) = ac (.int .i64 (aG ds (k : Int)).f0) := fun g' => aE (goutW g') q0
       have r1 : ∀ g' : G (gw0 gg), g'.W.cell? ⟨(adr.add (k * 4)).block, (adr.add (k * 4)).off + 1, ag⟩ = ac (.string (aG ds (k : Int)).f1) := fun g' => aE (goutW g') q1
       have r2 : ∀ g' : G (gw0 gg), g'.W.cell? ⟨(adr.add (k * 4)).block, (adr.add (k * 4)).off + 2, ag⟩ = ac (.int .i64 (aG ds (k : Int)).f2) := fun g' => aE (goutW g') q2
       have r3 : ∀ g' : G (gw0 gg), g'.W.cell? ⟨(adr.add (k * 4)).block, (adr.add (k * 4)).off + 3, ag⟩ = ac (.slice A9d (aG ds (k : Int)).f3.length c9d) := fun g' => aE (goutW g') q3
       have VAL := I (ae l9 g9)
       clear q0 q1 q2 q3 l9 g9
       have hi1 : (k : Int) < (ds.length : Int) := by omega
       have MEM := I (dO hlt)
       by_cases z : (aG ds (k : Int)).f0 = 3
       ·by_cases y : ((aG ds (k : Int)).f3.length : Int) = (aG ds (k : Int)).f2
        ·have HY := I (show bD ds k = J by simp [bD, y])
         have by' : (((aG ds (k : Int)).f3.length : Int) != (aG ds (k : Int)).f2) = J := by simpa using y
         clear y
         go_upto_region 14 with (fail)
         refine aP (g := gx) (by kernel_rfl) (by kernel_rfl) ?_
         repeat (go_big_quiet_step (fail))
         refine wpQuiet_nil ?_
         rintro _ ⟨gg2, rfl⟩
         go_wp2_with fail
         exact ⟨⟨k + 1, gg2, by go_num, rfl, by omega, ⟨fun j hj => (gh (j = k)).elim (fun h => h ▸ HY.out) (fun h => HK7.out j (by omega))⟩⟩, by simp [intOf]; omega⟩
        ·have HY := I (show bD ds k = af by simp [bD, y, z])
         have by' := bn y
         clear y
         go_upto_region 14 with (fail)
         refine aP (g := gx) (by kernel_rfl) (by kernel_rfl) ?_
         repeat (go_big_quiet_step (fail))
         refine wpQuiet_nil ?_
         rintro _ ⟨gg2, rfl⟩
         go_wp2_with fail
         go_ret3
         have e2 : r = _ := HR.out.trans (declS_7 HK5'.out HK6'.out hlt HY.out HK7.out)
         exact ⟨jS (by rw [e2]) (by rw [e2]) (by rw [e2]), goutW _⟩
       ·have HY := I (show bD ds k = J by simp [bD, z])
        have bz := bf z
        go_upto_region 14 with (fail)
        refine aP (g := gx) (by kernel_rfl) (by kernel_rfl) ?_
        repeat (go_big_quiet_step (fail))
        refine wpQuiet_nil ?_
        rintro _ ⟨gg2, rfl⟩
        go_wp2_with fail
        exact ⟨⟨k + 1, gg2, by go_num, rfl, by omega, ⟨fun j hj => (gh (j = k)).elim (fun h => h ▸ HY.out) (fun h => HK7.out j (by omega))⟩⟩, by simp [intOf]; omega⟩
      ·have HK7' := I (show ∀ j, j < ds.length -> bD ds j = J from fun j hj => HK7.out j (by omega))
       have hge : ¬ (k : Int) < (ds.length : Int) := by omega
       go_wp2_with fail
       go_loopw [9, 8] (fun i n W => ∃ (k : Nat) (m : Int) (g : G (gw0 gg)), i = .int .i64 k /\ n = .int .i64 m /\ W = g.W /\ k <= ds.length /\ Aside0 ((∀ j, j < k -> cC wd ds j = J) /\ m = dB (ds.take k) /\ 0 <= m /\ m <= 256 * (k : Int))) (fun i _ _ => ds.length - (intOf i).toNat)
       case atStart => exact ⟨0, 0, gx, rfl, rfl, rfl, bi _, ⟨fun j hj => absurd hj (cq _), by simp [dB], by omega, by omega⟩⟩
       case round =>
        obtain ⟨k, m, gx, rfl, rfl, rfl, hk, HK8⟩ := hrel
        by_cases hlt : k < ds.length
        ·obtain ⟨adr, A9d, c9d, e1, q0, q1, q2, q3, l9, g9⟩ := dN PAt.out.hd (k : Int) (bc _) (by omega)
         cases e1
         rw [av] at q0 q1 q2 q3
         have r0 : ∀ g' : G (gw0 gg), g'.W.cell? (adr.add (k * 4)) = ac (.int .i64 (aG ds (k : Int)).f0) := fun g' => aE (goutW g') q0
         have r1 : ∀ g' : G (gw0 gg), g'.W.cell? ⟨(adr.add (k * 4)).block, (adr.add (k * 4)).off + 1, ag⟩ = ac (.string (aG ds (k : Int)).f1) := fun g' => aE (goutW g') q1
         have r2 : ∀ g' : G (gw0 gg), g'.W.cell? ⟨(adr.add (k * 4)).block, (adr.add (k * 4)).off + 2, ag⟩ = ac (.int .i64 (aG ds (k : Int)).f2) := fun g' => aE (goutW g') q2
         have r3 : ∀ g' : G (gw0 gg), g'.W.cell? ⟨(adr.add (k * 4)).block, (adr.add (k * 4)).off + 3, ag⟩ = ac (.slice A9d (aG ds (k : Int)).f3.length c9d) := fun g' => aE (goutW g') q3
         have VAL := I (ae l9 g9)
         clear q0 q1 q2 q3 l9 g9
         have hi1 : (k : Int) < (ds.length : Int) := by omega
         have MEM := I (dO hlt)
         replace r0 := r0 gx
         replace r1 := r1 gx
         replace r2 := r2 gx
         replace r3 := r3 gx
         have hlv := VAL.out.2.2.1
         have hsz : w.heap.size < gx.W.heap.size := bq (by simp [gw0]) gx.below.size
         go_upto_region 21 with (fail)
         refine aH ?_
         intro g2
         have goutX : ∀ (g : G (gw0 g2)), Below (gw0 gg).heap.size (gw0 gg) g.W := fun g => (gx.below.alloc gx.below.size _).trans (g.below.mono (bh gx.below.size (by simp [gw0])))
         have goutI : ∀ (g : G (gw0 g2)), Below w.heap.size w g.W := fun g => goutW (mkG (goutX g))
         go_wp2_with fail
         go_loopw [11] (fun i W => ∃ (j : Nat) (g : G (gw0 g2)), i = .int .i64 j /\ W = g.W /\ j <= (aG ds (k : Int)).f3.length /\ Aside0 (∀ i, i < j -> gH wd ((aG ds (k : Int)).f3.getD i 0) = af)) (fun i _ => (aG ds (k : Int)).f3.length - (intOf i).toNat)
         case atStart => exact ⟨0, g2, rfl, rfl, bi _, ⟨fun j hj => absurd hj (cq _)⟩⟩
         case round =>
          obtain ⟨j, g3, rfl, rfl, hj, HK9⟩ := hrel
          by_cases hjl : j < (aG ds (k : Int)).f3.length
          ·have hv9 := VAL.out.2.2.1
           obtain ⟨adv, cs9, eA, ec9, eK9, hc9⟩ := Kd.oI (d := Kd.int .u64) VAL.out.2 (0 : Int) (j : Int) (bc _) (by omega)
           cases eA
           have eK9' : cs9 = [.int .u64 ((aG ds (k : Int)).f3.getD (j : Int).toNat 0)] := eK9
           subst eK9'
           have s0 := hc9 0 _ rfl
           rw [av] at s0
           clear hc9 eK9 ec9
           have t0 : ∀ g' : G (gw0 g2), g'.W.cell? (adv.add (j * 1 + 0)) = ac (.int .u64 ((aG ds (k : Int)).f3.getD j 0)) := fun g' => aE (goutI g') s0
           simp only [gu, fq] at t0
           clear s0
           have hj1 : (j : Int) < ((aG ds (k : Int)).f3.length : Int) := by omega
           have hv0 := I (show 0 <= (aG ds (k : Int)).f3.getD j 0 from (HD.out _ MEM.out).2.2 _ (o4 hjl))
           obtain ⟨z, hz⟩ : ∃ z, (aG ds (k : Int)).f3.getD j 0 = z := ⟨_, rfl⟩
           rw [hz] at hv0 t0
           have HZ := I hz
           clear hz
           rcases aJ (gH wd z) with hf | hf
           ·have HF := I hf
            clear hf
            go_upto_region 24 with (fail)
            refine aP (g := g3) (by kernel_rfl) (by kernel_rfl) ?_
            repeat (go_big_quiet_step (fail))
            go_big_quiet_step (first | (go_at_call 226; exact aD (fits_v HF.out hw hv0.out _)))
            repeat (go_big_quiet_step (fail))
            refine wpQuiet_nil ?_
            rintro _ ⟨g4, rfl⟩
            go_wp2_with fail
            exact ⟨⟨j + 1, g4, by go_num, rfl, by omega, ⟨fun i hi => (gh (i = j)).elim (fun h => by rw [h, HZ.out]; exact HF.out) (fun h => HK9.out i (by omega))⟩⟩, by simp [intOf]; omega⟩
           ·have HF := I hf
            clear hf
            go_upto_region 24 with (fail)
            refine aP (g := g3) (by kernel_rfl) (by kernel_rfl) ?_
            repeat (go_big_quiet_step (fail))
            go_big_quiet_step (first | (go_at_call 226; exact aD (fits_v HF.out hw hv0.out _)))
            repeat (go_big_quiet_step (fail))
            refine wpQuiet_nil ?_
            rintro _ ⟨g4, rfl⟩
            go_wp2_with fail
            go_ret3
            have e2 : r = _ := HR.out.trans (declS_8 HK5'.out HK6'.out HK7'.out hlt (range_bad hjl (by rw [HZ.out]; exact HF.out)) HK8.out.1)
            exact ⟨jS (by rw [e2]) (by rw [e2]) (by rw [e2]), goutI _⟩
          ·have HY := I (range_good (wd := wd) (ds := ds) (k := k) fun i hi => HK9.out i (by omega))
           have hgj : ¬ (j : Int) < ((aG ds (k : Int)).f3.length : Int) := by omega
           have T := I (congrArg dB (pS hlt))
           have WL := I (words_le (d := (aG ds (k : Int))) (size_good (HK6'.out k hlt)))
           by_cases f1 : (aG ds (k : Int)).f0 = 1
           ·have b1 : ((aG ds (k : Int)).f0 == 1) = af := by simp [f1]
            have F1 := I f1
            clear f1
            obtain ⟨m', hm'⟩ : ∃ z, z = m + cK (aG ds (k : Int)) := ⟨_, rfl⟩
            have HM' := I (show m' = dB (ds.take (k + 1)) /\ 0 <= m' /\ m' <= 256 * ((k + 1 : Nat) : Int) by have h1 := T.out; have h2 := HK8.out.2; have h3 := WL.out; have h4 := HL.out; rw [kY, if_pos (by simp [isIn, F1.out])] at h1; rw [hm', h1]; omega)
            have HM2 := I (show wrap64 (m + cK (aG ds (k : Int))) = m' by rw [hm']; exact jD (by have h2 := HK8.out.2; have h3 := WL.out; omega) (by have h2 := HK8.out.2; have h3 := WL.out; have h4 := HL.out; omega))
            clear hm'
            go_wp2_with fail
            refine (aD (g := g3) (o7 (aG ds (k : Int)) A9d c9d g3.W (Kd.aF VAL.out.2 (goutI g3)) VAL.out.1)).mono ?_
            rintro _ _ ⟨rfl, g5, rfl⟩
            go_wp2_with fail
            refine ⟨⟨k + 1, m', mkG (goutX g5), by go_num, (by rw [HM2.out]), rfl, by omega, ⟨fun i hi => (gh (i = k)).elim (fun h => h ▸ HY.out) (fun h => HK8.out.1 i (by omega)), HM'.out⟩⟩, by simp [intOf]; omega⟩
           ·have b1 := bf f1
            by_cases f2 : (aG ds (k : Int)).f0 = 2
            ·have b2 : ((aG ds (k : Int)).f0 == 2) = af := by simp [f2]
             have F2 := I f2
             clear f2
             obtain ⟨m', hm'⟩ : ∃ z, z = m + cK (aG ds (k : Int)) := ⟨_, rfl⟩
             have HM' := I (show m' = dB (ds.take (k + 1)) /\ 0 <= m' /\ m' <= 256 * ((k + 1 : Nat) : Int) by have h1 := T.out; have h2 := HK8.out.2; have h3 := WL.out; have h4 := HL.out; rw [kY, if_pos (by simp [isIn, F2.out])] at h1; rw [hm', h1]; omega)
             have HM2 := I (show wrap64 (m + cK (aG ds (k : Int))) = m' by rw [hm']; exact jD (by have h2 := HK8.out.2; have h3 := WL.out; omega) (by have h2 := HK8.out.2; have h3 := WL.out; have h4 := HL.out; omega))
             clear hm'
             go_wp2_with fail
             refine (aD (g := g3) (o7 (aG ds (k : Int)) A9d c9d g3.W (Kd.aF VAL.out.2 (goutI g3)) VAL.out.1)).mono ?_
             rintro _ _ ⟨rfl, g5, rfl⟩
             go_wp2_with fail
             refine ⟨⟨k + 1, m', mkG (goutX g5), by go_num, (by rw [HM2.out]), rfl, by omega, ⟨fun i hi => (gh (i = k)).elim (fun h => h ▸ HY.out) (fun h => HK8.out.1 i (by omega)), HM'.out⟩⟩, by simp [intOf]; omega⟩
            ·have b2 := bf f2
             obtain ⟨m', hm'⟩ : ∃ z, z = m := ⟨_, rfl⟩
             have HM' := I (show m' = dB (ds.take (k + 1)) /\ 0 <= m' /\ m' <= 256 * ((k + 1 : Nat) : Int) by have h1 := T.out; have h2 := HK8.out.2; rw [kY, if_neg (by simp [isIn, f1, f2])] at h1; rw [hm', h1]; omega)
             have HM2 := I hm'
             clear hm'
             go_wp2_with fail
             refine ⟨⟨k + 1, m', mkG (goutX g3), by go_num, (by rw [HM2.out]), rfl, by omega, ⟨fun i hi => (gh (i = k)).elim (fun h => h ▸ HY.out) (fun h => HK8.out.1 i (by omega)), HM'.out⟩⟩, by simp [intOf]; omega⟩
        ·have hge : ¬ (k : Int) < (ds.length : Int) := by omega
         have E9 := I (declS_9 (wd := wd) HK5'.out HK6'.out HK7'.out (fun j hj => HK8.out.1 j (by omega)))
         have M9 := I (show m = dB ds by have h := HK8.out.2.1; rw [show k = ds.length by omega, di] at h; exact h)
         by_cases h9 : 4096 < m
         ·have H9 := I h9
          go_wp2_with fail
          go_ret3
          have e2 : r = ⟨9, -1, 169⟩ := by rw [HR.out, E9.out, if_pos (by rw [<- M9.out]; have := H9.out; omega)]
          exact ⟨jS (by rw [e2]) (by rw [e2]) (by rw [e2]), goutW _⟩
         ·have H9 := I h9
          go_wp2_with fail
          go_ret3
          have e2 : r = ⟨0, 0, 0⟩ := by rw [HR.out, E9.out, if_neg (by rw [<- M9.out]; have := H9.out; omega)]
          exact ⟨jS (by rw [e2]) (by rw [e2]) (by rw [e2]), goutW _⟩
end
def pO : Th -> Prop
 | .decl _ => True
 | .stmt s _ _ => 0 <= s.f5 /\ s.f5 < 18446744073709551616
 | .expr e _ => 0 <= e.f1
theorem okU_b {n : Int} (h : Ot.okU n) : 0 <= n /\ n < 18446744073709551616 := by
 unfold Ot.okU at h
 simp [Lit.wf, IntKind.min, IntKind.max, ik, jg] at h
 omega
mutual
theorem pQ : ∀ (e : S116) (lo : List ByteArray), Ot.kU e -> ∀ t ∈ dX e lo, pO t
 | ⟨a, b, s, l⟩, lo, h, t, ht => by
   rw [Ot.kU] at h
   rw [dX] at ht
   rcases gi.1 ht with rfl | ht
   ·exact (okU_b h.2.1).1
   ·exact good_exThs l lo h.2.2.2.2 t ht
theorem good_exThs : ∀ (l : List S116) (lo : List ByteArray), Ot.pX l -> ∀ t ∈ e7 l lo, pO t
 | [], _, _, t, ht => by rw [e7] at ht; cases ht
 | x :: r, lo, h, t, ht => by
   rw [Ot.pX] at h
   rw [e7] at ht
   rcases fu.1 ht with ht | ht
   ·exact pQ x lo h.1 t ht
   ·exact good_exThs r lo h.2 t ht
end
mutual
theorem good_stTh : ∀ (x : S119) (d : Nat) (lo : List ByteArray), Ot.jE x -> ∀ t ∈ stTh x d lo, pO t
 | ⟨k, nm, e, f, l, h, th, el⟩, d, lo, hg, t, ht => by
   rw [Ot.jE] at hg
   obtain ⟨_, _, h1, h2, _, h3, _, _, h4, h5⟩ := hg
   rw [stTh] at ht
   rcases gi.1 ht with rfl | ht
   ·exact okU_b h3
   ·rcases fu.1 ht with ht | ht
    ·rcases fu.1 ht with ht | ht
     ·split at ht
      ·exact pQ e lo h1 t ht
      ·cases ht
     ·split at ht
      ·exact pQ f lo h2 t ht
      ·cases ht
    ·rcases fu.1 ht with ht | ht
     ·exact lE th _ _ h4 t ht
     ·exact lE el _ _ h5 t ht
theorem lE : ∀ (l : List S119) (d : Nat) (lo : List ByteArray), Ot.kG l -> ∀ t ∈ aL l d lo, pO t
 | [], _, _, _, t, ht => by rw [aL] at ht; cases ht
 | x :: r, d, lo, h, t, ht => by
   rw [Ot.kG] at h
   rw [aL] at ht
   rcases fu.1 ht with ht | ht
   ·exact good_stTh x d lo h.1 t ht
   ·exact lE r d lo h.2 t ht
end
theorem qL {ds : List S70} {bd : List S119} (h : ∀ t ∈ bd, Ot.jE t) : ∀ t ∈ things ds bd, pO t := by
 intro t ht
 unfold things at ht
 rcases fu.1 ht with ht | ht
 ·obtain ⟨i, _, rfl⟩ := List.mem_map.1 ht
  trivial
 ·exact lE bd 1 [] ((Ot.cO bd).2 h) t ht
theorem mU {t : Th} {s : ByteArray} (h : iO t = ac s) : iR (aY t) = (s, af) := by
 cases t with
 | decl i => simp [iO] at h
 | stmt x d lo =>
   simp only [iO] at h
   split at h
   ·rename_i hk
    injection h with h
    subst h
    simp [iR, aY, hk]
   ·cases h
 | expr e lo =>
   simp only [iO] at h
   split at h
   ·rename_i hk
    injection h with h
    subst h
    simp [iR, aY, hk]
   ·cases h
theorem qV {t : Th} (h : iO t = ag) : (iR (aY t)).2 = J := by
 cases t with
 | decl i => rfl
 | stmt x d lo =>
   simp only [iO] at h
   split at h
   ·cases h
   ·rename_i hk
    simp [iR, aY, hk]
 | expr e lo =>
   simp only [iO] at h
   split at h
   ·cases h
   ·rename_i hk
    simp [iR, aY, hk]
theorem nM (t : Th) : (aY t).loops = gF t := by cases t <;> rfl
theorem findI_lt {ds : List S70} {s : ByteArray} : decide (fQ ds s < 0) = (bZ ds s).isNone := by
 unfold fQ
 cases bZ ds s with
 | none => simp
 | some i => simp
theorem findI_ge {ds : List S70} {s : ByteArray} : decide (0 <= fQ ds s) = (bZ ds s).isSome := by
 unfold fQ
 cases bZ ds s with
 | none => simp
 | some i => simp
theorem findB_lt {ds : List S70} {s : ByteArray} {i : Nat} (h : bZ ds s = ac i) : i < ds.length := by
 unfold bZ at h
 rcases dD ds.length (fun j => eqS (aG ds (j : Int)).f1 s) with ⟨h1, _⟩ | ⟨m, h0, h1, _, _⟩
 ·rw [h1] at h; cases h
 ·rw [h1] at h; injection h with h; omega
theorem viol10_eq (t : Th) : lJ (aY t) = qZ t := by
 cases t with
 | decl i => rfl
 | stmt x d lo => simp only [lJ, aY, qZ]; congr 1; exact propext ⟨fun h => by omega, fun h => by omega⟩
 | expr e lo => simp only [lJ, aY, qZ]; congr 1; exact propext ⟨fun h => by omega, fun h => by omega⟩
theorem viol11_eq (ds : List S70) (t : Th) : iD ds (aY t) = jF ds t := by
 unfold iD jF
 cases h : iO t with
 | none => rw [qV h]; rfl
 | some s => rw [mU h, nM, findI_lt]; rfl
theorem viol12_eq (ds : List S70) (t : Th) (h11 : jF ds t = J) : kC ds (aY t) = mY ds t := by
 unfold kC mY
 cases h : iO t with
 | none => rw [qV h]; rfl
 | some s =>
   rw [mU h]
   unfold kindV oH
   rw [nM]
   simp only [jy]
   congr 1
   by_cases hh : iC (gF t) s = af
   ·rw [if_pos hh, if_pos hh]
    cases t <;> simp [aY, nW]
   ·rw [if_neg hh, if_neg hh]
    unfold jF at h11
    rw [h] at h11
    simp only [Bool.and_eq_false_iff, Bool.not_eq_false'] at h11
    rcases h11 with h11 | h11
    ·exact absurd h11 hh
    ·cases hf : bZ ds s with
     | none => rw [hf] at h11; cases h11
     | some i =>
       have e : fQ ds s = (i : Int) := by unfold fQ; rw [hf]
       rw [e, Option.getD_some]
       cases t with
       | decl j => simp [iO] at h
       | stmt x d lo => simp [kindW, aY, mM] <;> rfl
       | expr x lo => simp [kindW, aY, mM] <;> rfl
theorem viol13_eq (wd : Int) (t : Th) : mT wd (aY t) = bad13 wd t := by cases t <;> simp [mT, aY, bad13] <;> rfl
theorem viol14_eq (wd : Int) (t : Th) : mE wd (aY t) = oG wd t := by cases t <;> simp [mE, aY, oG] <;> rfl
theorem viol15_eq (ds : List S70) (t : Th) : lL ds (aY t) = lP ds t := by
 cases t with
 | decl i => simp [lL, aY, lP]
 | stmt x d lo => unfold lL lP; rw [show (aY (.stmt x d lo)).s.f1 = x.f1 from rfl, findI_ge]; rfl
 | expr e lo => simp [lL, aY, lP]
theorem viol_v (nm : ByteArray) (wd ln : Int) (ds : List S70) (bd : List S119) (A3 : Option Addr) (c3 : Nat) (A4 : Option Addr) (c4 : Nat) (t : Th) {A5 : Option Addr} {c5 : Nat} {A9 : Option Addr} {c9 : Nat} {A12 : Option Addr} {c12 : Nat} {A13 : Option Addr} {c13 : Nat} {A19 : Option Addr} {c19 : Nat} {A21 : Option Addr} {c21 : Nat} (w : World) (hp : ProgAt w ds bd A3 c3 A4 c4)
 (hlo : Kd.string.C w A21 (aY t).loops.length (aY t).loops) (hll : (aY t).loops.length <= c21) (hw : 0 <= wd) (hg : pO t) (c : Nat) (h10 : 10 <= c) (h15 : c <= 15) (h12 : c = 12 -> jF ds t = J) (r : Int) (hr : r = if nC wd ds c t = af then oT c else 0) :
 Calls ak 146 #[(.agg #[.string nm, .int .i64 wd, .int .i64 ln, .slice A3 ds.length c3, .slice A4 bd.length c4]), (.agg #[.int .i64 (aY t).is, .int .i64 (aY t).d, .int .i64 (aY t).s.f0, .string (aY t).s.f1, .int .i64 (aY t).s.f2.f0, .int .u64 (aY t).s.f2.f1, .string (aY t).s.f2.f2, .slice A5 (aY t).s.f2.f3.length c5, .int .i64 (aY t).s.f3.f0, .int .u64 (aY t).s.f3.f1, .string (aY t).s.f3.f2, .slice A9 (aY t).s.f3.f3.length c9, .int .u64 (aY t).s.f4, .int .u64 (aY t).s.f5, .slice A12 (aY t).s.f6.length c12, .slice A13 (aY t).s.f7.length c13, .int .i64 (aY t).e.f0, .int .u64 (aY t).e.f1, .string (aY t).e.f2, .slice A19 (aY t).e.f3.length c19, .int .i64 (aY t).deep, .slice A21 (aY t).loops.length c21]), .int .i64 (c : Int)] w fun e w' => e = .returned (.int .i64 r) /\ Below w.heap.size w w' := by
 have hx : (aY t).is = 0 \/ (aY t).is = 1 \/ (aY t).is = 2 := by cases t <;> simp [aY]
 have hc : c = 10 \/ c = 11 \/ c = 12 \/ c = 13 \/ c = 14 \/ c = 15 := by omega
 rcases hc with rfl | rfl | rfl | rfl | rfl | rfl
 ·exact viol10_calls nm wd ln ds bd A3 c3 A4 c4 (aY t) w hp hlo hll hx r (by rw [hr, viol10_eq]; rfl)
 ·exact viol11_calls nm wd ln ds bd A3 c3 A4 c4 (aY t) w hp hlo hll hx r (by rw [hr, viol11_eq]; rfl)
 ·refine viol12_calls nm wd ln ds bd A3 c3 A4 c4 (aY t) w hp hlo hll hx ?_ r (by rw [hr, viol12_eq ds t (h12 rfl)]; rfl)
  intro hu hh
  have h11 := h12 rfl
  cases h : iO t with
  | none => rw [qV h] at hu; cases hu
  | some s =>
    rw [mU h, nM] at hh
    rw [mU h]
    unfold jF at h11
    rw [h] at h11
    simp only [hh, Bool.not_false, jy] at h11
    cases hf : bZ ds s with
    | none => rw [hf] at h11; cases h11
    | some i => exact ⟨i, findB_lt hf, by unfold fQ; rw [hf]⟩
 ·refine viol13_calls nm wd ln ds bd A3 c3 A4 c4 (aY t) w hp hlo hll hx hw ?_ r (by rw [hr, viol13_eq]; rfl)
  cases t with
  | decl i => exact Int.le_refl 0
  | stmt x d lo => exact Int.le_refl 0
  | expr e lo => exact hg
 ·refine viol14_calls nm wd ln ds bd A3 c3 A4 c4 (aY t) w hp hlo hll hx hw ?_ r (by rw [hr, viol14_eq]; rfl)
  cases t with
  | decl i => exact ⟨Int.le_refl 0, show (0 : Int) < 18446744073709551616 by decide⟩
  | stmt x d lo => exact hg
  | expr e lo => exact ⟨Int.le_refl 0, show (0 : Int) < 18446744073709551616 by decide⟩
 ·exact viol15_calls nm wd ln ds bd A3 c3 A4 c4 (aY t) w hp hlo hll hx r (by rw [hr, viol15_eq]; rfl)
theorem faultC_at {wd : Int} {ds : List S70} {bd : List S119} {l : List Th} {c i : Nat} (h10 : 10 <= c) (h15 : c <= 15) (hp : ∀ c', 10 <= c' -> c' < c -> ∀ j, j < l.length -> nC wd ds c' (bM l j) = J) (hi : i < l.length) (hb : nC wd ds c (bM l i) = af) (hj : ∀ j, j < i -> nC wd ds c (bM l j) = J) :
 dH wd ds bd l 6 = ⟨(c : Int), i, oT c⟩ := by
 have e : bI wd ds l c = ac i := cB hi hb hj
 have n : ∀ c', 10 <= c' -> c' < c -> bI wd ds l c' = ag := fun c' h1 h2 => bG (hp c' h1 h2)
 have hc : c = 10 \/ c = 11 \/ c = 12 \/ c = 13 \/ c = 14 \/ c = 15 := by omega
 rcases hc with rfl | rfl | rfl | rfl | rfl | rfl
 ·simp only [dH, e] <;> rfl
 ·simp only [dH, n 10 (by decide) (by decide), e] <;> rfl
 ·simp only [dH, n 10 (by decide) (by decide), n 11 (by decide) (by decide), e] <;> rfl
 ·simp only [dH, n 10 (by decide) (by decide), n 11 (by decide) (by decide), n 12 (by decide) (by decide), e] <;> rfl
 ·simp only [dH, n 10 (by decide) (by decide), n 11 (by decide) (by decide), n 12 (by decide) (by decide), n 13 (by decide) (by decide), e] <;> rfl
 ·simp only [dH, n 10 (by decide) (by decide), n 11 (by decide) (by decide), n 12 (by decide) (by decide), n 13 (by decide) (by decide), n 14 (by decide) (by decide), e] <;> rfl
theorem faultC_none {wd : Int} {ds : List S70} {bd : List S119} {l : List Th} (hp : ∀ c', 10 <= c' -> c' <= 15 -> ∀ j, j < l.length -> nC wd ds c' (bM l j) = J) :
 dH wd ds bd l 6 = if 65536 < bR bd then ⟨16, -1, 168⟩ else ⟨0, 0, 0⟩ := by
 have n : ∀ c', 10 <= c' -> c' <= 15 -> bI wd ds l c' = ag := fun c' h1 h2 => bG (hp c' h1 h2)
 simp only [dH, n 10 (by decide) (by decide), n 11 (by decide) (by decide), n 12 (by decide) (by decide), n 13 (by decide) (by decide), n 14 (by decide) (by decide), n 15 (by decide) (by decide)]
theorem declS_e {bd : List S119} {wd : Int} {ds : List S70} : ((lF wd ds).e = 0 /\ eZ wd ds bd = dH wd ds bd (things ds bd) 6) \/ ((lF wd ds).e ≠ 0 /\ eZ wd ds bd = lF wd ds) := by
 unfold lF eZ
 cases aZ ds.length (cP ds) with
 | some i => right; simp
 | none =>
   cases aZ ds.length (bS ds) with
   | some i => right; simp
   | none =>
     cases aZ ds.length (bD ds) with
     | some i => right; simp
     | none =>
       cases aZ ds.length (cC wd ds) with
       | some i => right; simp
       | none =>
         by_cases h : 4096 < dB ds
         ·right; simp [h]
         ·left; simp [h]
theorem headS_e {nm : ByteArray} {wd ln : Int} {ds : List S70} {bd : List S119} : ((oC nm wd ln ds bd).2 = 0 /\ dG nm wd ln ds bd = af /\ cV wd = af /\ cZ ln = af /\ ds.length <= 256 /\ bJ nm wd ln ds bd = eZ wd ds bd) \/
 ((oC nm wd ln ds bd).2 ≠ 0 /\ bJ nm wd ln ds bd = ⟨(oC nm wd ln ds bd).1, -1, (oC nm wd ln ds bd).2⟩) := by
 unfold oC bJ
 by_cases h1 : dG nm wd ln ds bd = J
 ·right; simp [h1]
 by_cases h2 : cV wd = J
 ·right; simp [h1, h2]
 by_cases h3 : cZ ln = J
 ·right; simp [h1, h2, h3]
 by_cases h4 : 256 < ds.length
 ·right; simp [h1, h2, h3, h4]
 ·left
  rw [if_neg h1, if_neg h2, if_neg h3, if_neg h4, if_neg h1, if_neg h2, if_neg h3, if_neg h4]
  exact ⟨rfl, by simpa using h1, by simpa using h2, by simpa using h3, by omega, rfl⟩
section
attribute [local go_sem] G.cell
def zTh : Value := .agg #[.int .i64 0, .int .i64 0, .int .i64 0, .string ⟨#[]⟩, .int .i64 0, .int .u64 0, .string ⟨#[]⟩, .slice ag 0 0, .int .i64 0, .int .u64 0, .string ⟨#[]⟩, .slice ag 0 0, .int .u64 0, .int .u64 0, .slice ag 0 0, .slice ag 0 0, .int .i64 0, .int .u64 0, .string ⟨#[]⟩, .slice ag 0 0, .int .i64 0, .slice ag 0 0]
theorem rG : (Tryz.prog.info? 125).map (fun i => (i.zero, i.size, i.bytes)) = ac (ac zTh, 22, 304) := by kernel_rfl
theorem lY : Tryz.prog.underlying 112 = ac (.slice 125) := by kernel_rfl
theorem weight_pos (e : S116) : 0 < aK e := by obtain ⟨a, b, s, l⟩ := e; rw [aK]; omega
theorem Lo.below {W0 w w1 : World} {v lv : Value} {lo : List ByteArray} (h : Lo W0 w v lv lo) (hb : Below w.heap.size w w1) : Lo W0 w1 v lv lo := Kd.bK h hb
theorem Li.lt {W0 w : World} {v : Value} {xs : List Th} (h : Li 125 W0 w v xs) : ∀ k, v.ownBlock = ac k -> k < w.heap.size := by
 obtain ⟨_, inner, ho, _⟩ := h
 exact fun k hk => qU ho k hk
theorem Gro.cell {W0 w w1 : World} {v v1 : Value} (h : Gro W0 w w1 v v1) {a : Addr} (ha : a.block < w.heap.size) (hn : ac a.block ≠ v.ownBlock) : w1.cell? a = w.cell? a := World.cell?_of_block (w := w) (h.grown.block a.block ha hn)
theorem fM {v : Value} {n : Nat} (h : ∀ k, v.ownBlock = ac k -> k < n) {m : Nat} (hm : n <= m) : ac m ≠ v.ownBlock := fun e => by have := h m e.symm; omega
def ExprsC (e : S116) : Prop := ∀ (W0 w : World) (v lv : Value) (xs : List Th) (lo : List ByteArray) (A : Option Addr) (c : Nat), Below W0.heap.size W0 w -> cQ.C W0 A e.f3.length e.f3 -> e.f3.length <= c ->
 Li 125 W0 w v xs -> Lo W0 w v lv lo -> xs.length + aK e <= 8388608 ->
 Calls ak 173 #[v, .agg #[.int .i64 e.f0, .int .u64 e.f1, .string e.f2, .slice A e.f3.length c], lv] w fun r w' => ∃ v1, r = .returned v1 /\ Li 125 W0 w' v1 (xs ++ dX e lo) /\ Gro W0 w w' v v1
set_option maxRecDepth 100000 in
theorem exprs_walk (e : S116) (ih : ∀ y ∈ e.f3, ExprsC y) : ExprsC e := by
 intro W0 w v lv xs lo A c hb hc hl HL HO hn
 obtain ⟨La, lc, rfl⟩ := Kd.cD HO
 have IH := I ih
 have HC := I hc
 have HB := I hb
 have HLi := I HL
 have HLo := I HO
 have HN := I hn
 have hlm := hc.2.1
 clear ih hc hb HL HO hn
 go_enter Tryz.func173, Tryz.ntmps173
 go_upto_region 1 with (fail)
 refine aH ?_
 intro gg
 have gout := @gA w
 refine fZ (n := 9) (S := fun w' => ∃ g' : G _, w' = g'.W) (ds := [7]) #[J, J, J, J, J, J, J, J, J] (by kernel_rfl) rfl rfl ⟨mkG (gg.2.drew), rfl⟩ (fun hHeld => ?_)
 obtain ⟨gd, hgd⟩ := hHeld
 rw [hgd]
 clear hgd
 refine bB (i := 0) (N := ac 8) (v := ?_) (a' := ?_) #[af, J, J, J, J, J, J, J, J] rfl rfl (by kernel_rfl) (fun _ _ _ h => h) (bg ⟨by rfl, ?_⟩) ?_ ?_
 rotate_left
 ·intro w'
  go_simp
  with_reducible rfl
 rotate_left
 ·simp only [ax, aa, ah, ai, aN, aM]
  rfl
 refine dP (i := 1) (N := ac 9) (v := ?_) (a' := ?_) #[af, af, J, J, J, J, J, J, J] rfl rfl (by kernel_rfl) (fun _ _ _ h => h) (bg ⟨by rfl, ?_⟩) ⟨gd, rfl⟩ ?_ ?_
 rotate_left
 ·rintro w' ⟨g', rfl⟩
  go_simp
  with_reducible rfl
 rotate_left
 ·simp only [ax, aa, ah, ai, aN, aM]
  rfl
 refine dP (i := 2) (N := ac 10) (v := ?_) (a' := ?_) #[af, af, af, J, J, J, J, J, J] rfl rfl (by kernel_rfl) (fun _ _ _ h => h) (bg ⟨by rfl, ?_⟩) ⟨gd, rfl⟩ ?_ ?_
 rotate_left
 ·rintro w' ⟨g', rfl⟩
  go_simp
  with_reducible rfl
 rotate_left
 ·simp only [ax, aa, ah, ai, aN, aM]
  rfl
 refine bB (i := 4) (N := ac 12) (v := ?_) (a' := ?_) #[af, af, af, J, af, J, J, J, J] rfl rfl (by kernel_rfl) (fun _ _ _ h => h) (bg ⟨by rfl, ?_⟩) ?_ ?_
 rotate_left
 ·intro w'
  go_simp
  with_reducible rfl
 rotate_left
 ·simp only [ax, aa, ah, ai, aN, aM]
  rfl
 refine kJ (i := 3) (N := ac 11) #[af, af, af, af, af, J, J, J, J] rfl rfl (by kernel_rfl) (by simp) (fun Kr hKr => ?_)
 refine j5 Tryz.func245 (by kernel_rfl) rfl #[.agg #[.int .i64 e.f0, .int .u64 e.f1, .string e.f2, .slice A e.f3.length c]] (by rfl) rfl rfl (by (try simp only [cb, cm, cw]); first | done | rfl) ?_
 refine (deep_calls _ e (ar _) (by have := lZ e; have := HN.out; omega) A c gd.W (Kd.aF HC.out (HB.out.trans ((gout gd).mono HB.out.size))) hl).mono ?_
 rintro _ w9 ⟨rfl, hb⟩
 refine ⟨_, rfl, ?_⟩
 obtain ⟨gd, rfl⟩ : ∃ g' : G _, w9 = g'.W := ⟨mkG (gd.below.trans (hb.mono gd.below.size)), rfl⟩
 clear hb
 refine hKr.out _ _ ⟨gd, rfl⟩ (fun _ => ?_)
 clear hKr Kr
 refine cU (a' := ?_) ?_ ?_
 rotate_left
 ·show ax _ (ac 11) _ = _
  simp only [ax, aa, ah, ai, aN, aM]
  rfl
 refine bB (i := 5) (N := ac 13) (v := ?_) (a' := ?_) #[af, af, af, af, af, af, J, J, J] rfl rfl (by kernel_rfl) (fun _ _ _ h => h) (bg ⟨by rfl, ?_⟩) ?_ ?_
 rotate_left
 ·intro w'
  go_simp
  with_reducible rfl
 rotate_left
 ·simp only [ax, aa, ah, ai, aN, aM]
  rfl
 refine kJ (i := 6) (N := ac 14) #[af, af, af, af, af, af, af, J, J] rfl rfl (by kernel_rfl) (by simp) (fun Kr hKr => ?_)
 refine dZ (v := .slice (ac ⟨gd.W.heap.size, 0, ag⟩) 1 1) (w1 := gd.W.alloc (.cells #[.int .i64 2, .int .i64 0, .int .i64 0, .string ⟨#[]⟩, .int .i64 0, .int .u64 0, .string ⟨#[]⟩, .slice ag 0 0, .int .i64 0, .int .u64 0, .string ⟨#[]⟩, .slice ag 0 0, .int .u64 0, .int .u64 0, .slice ag 0 0, .slice ag 0 0, .int .i64 e.f0, .int .u64 e.f1, .string e.f2, .slice A e.f3.length c, .int .i64 ((fY e : Nat) : Int), .slice La lo.length lc] 125)) (by rfl) (by first | (go_simp; done) | (go_simp; rfl)) ?_
 refine hKr.out _ _ ⟨mkG (G.ball gd _), rfl⟩ (fun _ => ?_)
 clear hKr Kr
 refine cU (a' := ?_) ?_ ?_
 rotate_left
 ·show ax _ (ac 14) _ = _
  simp only [ax, aa, ah, ai, aN, aM]
  rfl
 refine oF (i := 7) (N := ac 15) #[af, af, af, af, af, af, af, af, J] rfl rfl (by kernel_rfl) (by simp) (fun Kr hKr => ?_)
 refine Kd.gX (kTh W0) (w0 := W0) W0.heap.size (by rfl) (.tmp 8) (.tmp 14) 112 125 zTh 304 rfl lY rG rfl (show 0 < 22 by decide) (by decide) v (xs.map aY) (aY (.expr e lo)) [.int .i64 2, .int .i64 0, .int .i64 0, .string ⟨#[]⟩, .int .i64 0, .int .u64 0, .string ⟨#[]⟩, .slice ag 0 0, .int .i64 0, .int .u64 0, .string ⟨#[]⟩, .slice ag 0 0, .int .u64 0, .int .u64 0, .slice ag 0 0, .slice ag 0 0, .int .i64 e.f0, .int .u64 e.f1, .string e.f2, .slice A e.f3.length c, .int .i64 ((fY e : Nat) : Int), .slice La lo.length lc] (fun _ => True) (fun k => ac k ≠ v.ownBlock) rfl rfl (qK (x := aY (.expr e lo)) (k119_zero W0) (rD W0 e hl HC.out) (HLo.out.below (gout gd))) (fun _ h => ⟨trivial, h⟩) (fun _ _ => trivial) (HLi.out.below (gout gd)) (HB.out.trans ((gout gd).mono HB.out.size)) (bh HB.out.size (gout gd).size) (by have := HN.out; have := weight_pos e; simp; omega) ?_
 intro v1 w1 ho hb1 hg1 hat1
 refine hKr.out _ _ ?_
 clear hKr Kr
 refine cU (a' := ?_) ?_ ?_
 rotate_left
 ·show ax _ (ac 15) _ = _
  simp only [ax, aa, ah, ai, aN, aM]
  rfl
 refine bB (i := 8) (N := ac 0) (v := ?_) (a' := ?_) #[af, af, af, af, af, af, af, af, af] rfl rfl (by kernel_rfl) (fun _ _ _ h => h) (bg ⟨by rfl, ?_⟩) ?_ ?_
 rotate_left
 ·intro w'
  go_simp
  with_reducible rfl
 rotate_left
 ·simp only [ax, aa, ah, ai, aN, aM]
  rfl
 refine kH (by kernel_rfl) ?_
 have HG := I ((Gro.of_below v (HB.out.trans (((aq w.heap.size w).alloc (ar _) _).mono HB.out.size)) gd.below).trans ⟨hb1, hg1, hat1⟩ : Gro W0 (gw0 gg) w1 v v1)
 have HLi1 := I (show Li 125 W0 w1 v1 (xs ++ [.expr e lo]) by unfold Li; rw [fg]; exact ho)
 have HLo1 := I ((HLo.out.below (gout gd)).step ⟨hb1, hg1, hat1⟩)
 have hvl := I (Li.lt HLi.out)
 clear ho hb1 hg1 hat1
 go_wp2_with fail
 go_loopw [7, 0] (fun i l W => ∃ (k : Nat) (l1 : Value) (W1 : World), i = .int .i64 k /\ l1 = l /\ W1 = W /\ k <= e.f3.length /\ Aside0 (Li 125 W0 W1 l1 (xs ++ [.expr e lo] ++ e7 (e.f3.take k) lo) /\ Gro W0 (gw0 gg) W1 v l1 /\ Lo W0 W1 l1 (.slice La lo.length lc) lo)) (fun i _ _ => e.f3.length - (intOf i).toNat)
 case atStart => exact ⟨0, _, _, rfl, rfl, rfl, bi _, ⟨by simpa [e7] using HLi1.out, HG.out, HLo1.out⟩⟩
 case round =>
  obtain ⟨k, l1, W1, rfl, rfl, rfl, hk, HREL⟩ := hrel
  have hbox : W1.cell? ⟨w.heap.size, 3, ag⟩ = ac (.slice A e.f3.length c) := (HREL.out.2.1.cell (a := ⟨w.heap.size, 3, ag⟩) (by simp [gw0]) (fM hvl.out (ar _))).trans (by simp [gw0, go_sem])
  by_cases hlt : k < e.f3.length
  ·obtain ⟨ad, A3, c3, e1, q0, q1, q2, q3, l3, g3⟩ := fR HC.out (k : Int) (bc _) (by omega)
   cases e1
   rw [av] at q0 q1 q2 q3
   have hBB := HREL.out.2.1.below
   replace q0 := (hBB.cell (aj W0 _ q0)).trans q0
   replace q1 := (hBB.cell (aj W0 _ q1)).trans q1
   replace q2 := (hBB.cell (aj W0 _ q2)).trans q2
   replace q3 := (hBB.cell (aj W0 _ q3)).trans q3
   have hi1 : (k : Int) < (e.f3.length : Int) := by omega
   have K := I (ae l3 g3)
   have HBB := I hBB
   clear l3 g3 hBB
   have MEM := I (gM hlt)
   have T := I (congrArg (fun l => e7 l lo) (dK hlt))
   have T2 := I (congrArg bN (dK hlt))
   have IH1 := I (IH.out _ MEM.out)
   clear MEM
   generalize bO e.f3 (k : Int) = y at *
   go_wp2_with fail
   have HN1 : (xs ++ [Th.expr e lo] ++ e7 (e.f3.take k) lo).length + aK y <= 8388608 := by
    have h1 := HN.out
    have h2 := T2.out
    have h3 := fH e.f3 (k + 1)
    rw [eE] at h2
    rw [eB] at h1
    simp only [ay, mA, bk]
    omega
   have CALL := IH1.out W0 W1 l1 (.slice La lo.length lc) (xs ++ [Th.expr e lo] ++ e7 (e.f3.take k) lo) lo A3 c3 HBB.out K.out.2 K.out.1 HREL.out.1 HREL.out.2.2 HN1
   refine CALL.mono ?_
   clear CALL
   rintro _ W2 ⟨l2, rfl, hLi2, hGro2⟩
   have HR2 := I (ae hLi2 hGro2)
   clear hLi2 hGro2
   go_wp2_with fail
   refine ⟨⟨k + 1, l2, W2, by go_num, rfl, rfl, by omega, ⟨?_, HREL.out.2.1.trans HR2.out.2, HREL.out.2.2.step HR2.out.2⟩⟩, by simp [intOf]; omega⟩
   have h1 := HR2.out.1
   have h2 := T.out
   simp only [rJ] at h2
   rw [h2, <- dr]
   exact h1
  ·go_wp2_with fail
   go_ret
   refine ⟨l1, rfl, ?_, ?_⟩
   ·have h1 := HREL.out.1
    rw [show k = e.f3.length by omega, di, dr] at h1
    rw [iI]
    exact h1
   ·exact (Gro.of_below v HB.out ((aq _ _).alloc (ar _) _)).trans HREL.out.2.1
theorem kA : ∀ (n : Nat) (e : S116), cd e <= n -> ExprsC e := by
 intro n
 induction n with
 | zero => intro e h; obtain ⟨a, b, s, l⟩ := e; simp at h
 | succ n ih => exact fun e h => exprs_walk e fun y hy => ih y (eK rfl hy h)
end
section
def H (W0 wb : World) (v : Value) := { p : World × Value // Gro W0 wb p.1 v p.2 }
def H.W {W0 wb : World} {v : Value} (h : H W0 wb v) : World := h.1.1
def H.v {W0 wb : World} {v : Value} (h : H W0 wb v) : Value := h.1.2
theorem H.gro {W0 wb : World} {v : Value} (h : H W0 wb v) : Gro W0 wb h.W v h.v := h.2
def mkH {W0 wb w : World} {v v1 : Value} (h : Gro W0 wb w v v1) : H W0 wb v := ⟨(w, v1), h⟩
theorem H.cell {W0 wb : World} {v : Value} (h : H W0 wb v) {b o : Nat} (hb : b < wb.heap.size) (hn : ac b ≠ v.ownBlock) : h.W.cell? ⟨b, o, ag⟩ = wb.cell? ⟨b, o, ag⟩ := h.gro.cell (a := ⟨b, o, ag⟩) hb hn
attribute [local go_sem] G.cell H.cell
theorem under78 : Tryz.prog.underlying 52 = ac (.slice 9) := by kernel_rfl
def StmtsC (l : List S119) : Prop := ∀ (W0 w : World) (v lv : Value) (xs : List Th) (lo : List ByteArray) (A : Option Addr) (c d : Nat) (dI : Int), dI = (d : Int) -> Below W0.heap.size W0 w -> dC.C W0 A l.length l -> l.length <= c ->
 Li 125 W0 w v xs -> Lo W0 w v lv lo -> xs.length + Ot.bW l <= 8388608 -> d + Ot.bW l <= 8388608 -> lo.length <= d ->
 Calls ak 127 #[v, .slice A l.length c, .int .i64 dI, lv] w fun r w' => ∃ v1, r = .returned v1 /\ Li 125 W0 w' v1 (xs ++ aL l d lo) /\ Gro W0 w w' v v1
theorem gG {l : List S119} {x : S119} (h : x ∈ l) : Ot.nQ x <= Ot.bW l := by
 induction l with
 | nil => cases h
 | cons y r ih =>
   rw [Ot.bW]
   rcases gi.1 h with rfl | h
   ·omega
   ·have := ih h; omega
theorem mK (l r : List S119) : Ot.bW (l ++ r) = Ot.bW l + Ot.bW r := by
 induction l with
 | nil => simp [Ot.bW]
 | cons y s ih => rw [gq, Ot.bW, ih, Ot.bW]; omega
theorem bulkTs_take (l : List S119) (k : Nat) : Ot.bW (l.take k) <= Ot.bW l := by
 have h := mK (l.take k) (l.drop k)
 rw [List.take_append_drop] at h
 omega
theorem bH (x : S119) : Ot.nQ x = 1 + Ot.lG x.f2 + Ot.lG x.f3 + Ot.bW x.f6 + Ot.bW x.f7 := by
 obtain ⟨a, b, c, d, e, f, g, h⟩ := x
 rw [Ot.nQ]
theorem reps_nil {w : World} {b : Nat} {ok : Nat -> Prop} : dF (Kd.string.M w b ok) Kd.string.sz [] [] := ⟨rfl, fun j p hj => by simp at hj⟩
theorem R_lt {α : Type} {d : Kd α} {e : Nat} {w : World} {base : Nat} {ok : Nat -> Prop} {v : Value} {xs : List α} (h : d.R e w base ok v xs) : ∀ k, v.ownBlock = ac k -> k < w.heap.size := by
 obtain ⟨_, inner, ho, _⟩ := h
 exact fun k hk => qU ho k hk
theorem R_apart {α : Type} {d : Kd α} {e : Nat} {w w1 : World} {base : Nat} {ok : Nat -> Prop} {v u : Value} {xs : List α} (h : d.R e w base ok v xs) (hg : w.grownBy w1 ag) {b : Nat} (hb : u.ownBlock = ac b) (hle : w.heap.size <= b) : d.R e w1 base (fun k => ac k ≠ u.ownBlock) v xs :=
 Kd.eD (Kd.nJ (Kd.eG h) hg (fun _ _ => by simp)) (fun k hk he => by
  rw [hb] at he
  injection he with he
  have := hk.2.2.1
  omega)
theorem Lo.reads {W0 w : World} {v : Value} {A : Option Addr} {n c : Nat} {lo : List ByteArray} (h : Lo W0 w v (.slice A n c) lo) : Kd.string.C w A lo.length lo := by
 obtain ⟨A', c', e, l, g⟩ := Kd.d7 h
 injection e with e1 e2 e3
 subst e1
 exact g
theorem Lo.new {W0 w w1 : World} {v lv : Value} {lo : List ByteArray} (hv : ∀ k, v.ownBlock = ac k -> k < w.heap.size) (hb : W0.heap.size <= w.heap.size) (h : Kd.string.R 9 w1 w.heap.size (fun _ => True) lv lo) : Lo W0 w1 v lv lo :=
 Kd.fX (Kd.eD (Kd.eG h) (fun k hk he => by
  have h1 := hk.2.1
  have h2 := hv k he.symm
  omega)) hb
set_option maxRecDepth 100000 in
theorem stmts_walk (l : List S119) (ih : ∀ x ∈ l, StmtsC x.f6 /\ StmtsC x.f7) : StmtsC l := by
 intro W0 w v lv xs lo A c d dI hdI hb hc hl HL HO hn hd hld
 obtain ⟨La, lc, rfl⟩ := Kd.cD HO
 have IH := I ih
 have HC := I hc
 have HB := I hb
 have HLi := I HL
 have HLo := I HO
 have HN := I (ae hn (ae hd hld))
 subst hdI
 have hlm := hc.2.1
 clear ih hc hb HL HO hn hd hld
 go_enter Tryz.func127, Tryz.ntmps127
 go_wp2_with fail
 go_loopw [9, 0] (fun i l2 W => ∃ (k : Nat) (l1 : Value) (W1 : World), i = .int .i64 k /\ l1 = l2 /\ W1 = W /\ k <= l.length /\ Aside0 (Li 125 W0 W1 l1 (xs ++ aL (l.take k) d lo) /\ Gro W0 w W1 v l1 /\ Lo W0 W1 l1 (.slice La lo.length lc) lo)) (fun i _ _ => l.length - (intOf i).toNat)
 case atStart => exact ⟨0, _, _, rfl, rfl, rfl, bi _, ⟨by simpa [aL] using HLi.out, Gro.of_below v HB.out (aq _ _), HLo.out⟩⟩
 case round =>
  obtain ⟨k, l1, W1, rfl, rfl, rfl, hk, HREL⟩ := hrel
  by_cases hlt : k < l.length
  ·obtain ⟨ad, A5, c5, A9, c9, A12, c12, A13, c13, e1, q0, q1, q2, q3, q4, q5, q6, q7, q8, q9, q10, q11, q12, q13, l5, g5, l9, g9, l12, g12, l13, g13⟩ := gV HC.out (k : Int) (bc _) (by omega)
   cases e1
   rw [av] at q0 q1 q2 q3 q4 q5 q6 q7 q8 q9 q10 q11 q12 q13
   have hBB := HREL.out.2.1.below
   replace q0 := (hBB.cell (aj W0 _ q0)).trans q0
   replace q1 := (hBB.cell (aj W0 _ q1)).trans q1
   replace q2 := (hBB.cell (aj W0 _ q2)).trans q2
   replace q3 := (hBB.cell (aj W0 _ q3)).trans q3
   replace q4 := (hBB.cell (aj W0 _ q4)).trans q4
   replace q5 := (hBB.cell (aj W0 _ q5)).trans q5
   replace q6 := (hBB.cell (aj W0 _ q6)).trans q6
   replace q7 := (hBB.cell (aj W0 _ q7)).trans q7
   replace q8 := (hBB.cell (aj W0 _ q8)).trans q8
   replace q9 := (hBB.cell (aj W0 _ q9)).trans q9
   replace q10 := (hBB.cell (aj W0 _ q10)).trans q10
   replace q11 := (hBB.cell (aj W0 _ q11)).trans q11
   replace q12 := (hBB.cell (aj W0 _ q12)).trans q12
   replace q13 := (hBB.cell (aj W0 _ q13)).trans q13
   have hi1 : (k : Int) < (l.length : Int) := by omega
   have K := I (ae l5 (ae g5 (ae l9 (ae g9 (ae l12 (ae g12 (ae l13 g13)))))))
   have HBB := I hBB
   clear l5 g5 l9 g9 l12 g12 l13 g13 hBB
   have MEM := iK hlt
   have T := I (congrArg (fun l => aL l d lo) (fA hlt))
   have T2 := I (ae (congrArg Ot.bW (fA hlt)) (bulkTs_take l (k + 1)))
   have IH1 := I (IH.out _ MEM)
   clear MEM
   generalize aQ l (k : Int) = y at *
   have HSZ : xs.length + (aL (l.take k) d lo).length + Ot.nQ y <= 8388608 /\ d + Ot.nQ y <= 8388608 := by
    obtain ⟨h1, h2⟩ := T2.out
    obtain ⟨h3, h4, _⟩ := HN.out
    have h5 := cY (l.take k) d lo
    rw [mK] at h1
    simp only [Ot.bW] at h1
    omega
   have HS := I HSZ
   clear HSZ
   have hvl := I (Li.lt HREL.out.1)
   have hne : ac W1.heap.size ≠ l1.ownBlock := fM hvl.out (ar _)
   have kk : y.f0 = 1 \/ y.f0 = 3 \/ y.f0 = 2 \/ y.f0 = 4 \/ (¬ y.f0 = 1 /\ ¬ y.f0 = 3 /\ ¬ y.f0 = 2 /\ ¬ y.f0 = 4) := by omega
   rcases kk with h0 | h0 | h0 | h0 | ⟨n1, n3, n2, n4⟩
   ·rw [h0] at q0
    have H0 := I h0
    clear h0
    go_upto_region 5 with (fail)
    refine aH ?_
    intro gg
    have gout := @gA W1
    go_wp2_with ((with_reducible refine eV (b := .append) (xs := #[.tmp 22, .tmp 27]) rfl ?_); at_builtin; refine Kd.cW (kTh W0) (w0 := W0) W0.heap.size rfl (.tmp 22) (.tmp 27) 112 125 zTh 304 rfl lY rG rfl (show 0 < 22 by decide) (by decide) l1 ((xs ++ aL (l.take k) d lo).map aY) (aY (.stmt y d lo)) [.int .i64 1, .int .i64 0, .int .i64 1, .string y.f1, .int .i64 y.f2.f0, .int .u64 y.f2.f1, .string y.f2.f2, .slice A5 y.f2.f3.length c5, .int .i64 y.f3.f0, .int .u64 y.f3.f1, .string y.f3.f2, .slice A9 y.f3.f3.length c9, .int .u64 y.f4, .int .u64 y.f5, .slice A12 y.f6.length c12, .slice A13 y.f7.length c13, .int .i64 0, .int .u64 0, .string ⟨#[]⟩, .slice ag 0 0, .int .i64 (d : Int), .slice La lo.length lc] (fun _ => True) (fun k => ac k ≠ l1.ownBlock) rfl rfl (by have hm := (qK (x := aY (.stmt y d lo)) (lS W0 y K.out.1 K.out.2.1 K.out.2.2.1 K.out.2.2.2.1 K.out.2.2.2.2.1 K.out.2.2.2.2.2.1 K.out.2.2.2.2.2.2.1 K.out.2.2.2.2.2.2.2) (jH W0) (HREL.out.2.2.below (gout gg))); rw [H0.out] at hm; exact hm) (fun _ h => ⟨trivial, h⟩) (fun _ _ => trivial) (HREL.out.1.below (gout gg)) (HBB.out.trans ((gout gg).mono HBB.out.size)) (bh HBB.out.size (gout gg).size) (by have := HS.out; have := bH y; simp; omega) ?_; intro v2 w2 ho hb2 hg2 hat2; obtain ⟨h, rfl, rfl⟩ : ∃ h : H W0 (gw0 gg) l1, h.W = w2 /\ h.v = v2 := ⟨mkH ((Gro.of_below l1 (HBB.out.trans (((aq W1.heap.size W1).alloc (ar _) _).mono HBB.out.size)) gg.below).trans ⟨hb2, hg2, hat2⟩), rfl, rfl⟩; have HL2 := I (show Li 125 W0 h.W h.v (xs ++ aL (l.take k) d lo ++ [.stmt y d lo]) by unfold Li; rw [fg]; exact ho); have HO2 := I ((HREL.out.2.2.below (gout gg)).step ⟨hb2, hg2, hat2⟩); clear ho hb2 hg2 hat2)
    have C := kA _ y.f3 (ar _) W0 h.W h.v (.slice La lo.length lc) (xs ++ aL (l.take k) d lo ++ [Th.stmt y d lo]) lo A9 c9 h.gro.below K.out.2.2.2.1 K.out.2.2.1 HL2.out HO2.out (by have h1 := HS.out.1; have h2 := bH y; have h3 := aS y.f3; have h4 := aS y.f2; simp only [ay, bk, cG]; omega)
    refine C.mono ?_
    clear C
    rintro _ w3 ⟨v3, rfl, hL, hG⟩
    have HL2 := I hL
    have HO2 := I (HO2.out.step hG)
    obtain ⟨h, rfl, rfl⟩ : ∃ h' : H W0 (gw0 gg) l1, h'.W = w3 /\ h'.v = v3 := ⟨mkH (h.gro.trans hG), rfl, rfl⟩
    clear hL hG
    go_wp2_with fail
    have C := IH1.out.1 W0 h.W h.v (.slice La lo.length lc) (xs ++ aL (l.take k) d lo ++ [Th.stmt y d lo] ++ dX y.f3 lo) (lo) A12 c12 (d + 1) (wrap64 ((d : Int) + 1)) (kT (by have := HN.out.2.1; omega)) h.gro.below K.out.2.2.2.2.2.1 K.out.2.2.2.2.1 HL2.out HO2.out (by have h1 := HS.out.1; have h2 := bH y; have h3 := aS y.f3; have h4 := aS y.f2; have h5 := cY y.f6 (d + 1) (lo); simp only [ay, bk, cG]; omega) (by have h1 := HS.out.2; have h2 := bH y; omega) (by have h1 := HN.out.2.2; simp; omega)
    refine C.mono ?_
    clear C
    rintro _ w3 ⟨v3, rfl, hL, hG⟩
    have HL2 := I hL
    have HO2 := I (HO2.out.step hG)
    obtain ⟨h, rfl, rfl⟩ : ∃ h' : H W0 (gw0 gg) l1, h'.W = w3 /\ h'.v = v3 := ⟨mkH (h.gro.trans hG), rfl, rfl⟩
    clear hL hG
    go_wp2_with fail
    have C := IH1.out.2 W0 h.W h.v (.slice La lo.length lc) (xs ++ aL (l.take k) d lo ++ [Th.stmt y d lo] ++ dX y.f3 lo ++ aL y.f6 (d + 1) (lo)) (lo) A13 c13 (d + 1) (wrap64 ((d : Int) + 1)) (kT (by have := HN.out.2.1; omega)) h.gro.below K.out.2.2.2.2.2.2.2 K.out.2.2.2.2.2.2.1 HL2.out HO2.out (by have h1 := HS.out.1; have h2 := bH y; have h3 := aS y.f3; have h4 := aS y.f2; have h5 := cY y.f6 (d + 1) (lo); simp only [ay, bk, cG]; omega) (by have h1 := HS.out.2; have h2 := bH y; omega) (by have h1 := HN.out.2.2; simp; omega)
    refine C.mono ?_
    clear C
    rintro _ w3 ⟨v3, rfl, hL, hG⟩
    have HL2 := I hL
    have HO2 := I (HO2.out.step hG)
    obtain ⟨h, rfl, rfl⟩ : ∃ h' : H W0 (gw0 gg) l1, h'.W = w3 /\ h'.v = v3 := ⟨mkH (h.gro.trans hG), rfl, rfl⟩
    clear hL hG
    go_wp2_with fail
    have hx : xs ++ aL (l.take k) d lo ++ [Th.stmt y d lo] ++ dX y.f3 lo ++ aL y.f6 (d + 1) (lo) ++ aL y.f7 (d + 1) (lo) = xs ++ aL (l.take (k + 1)) d lo := by
     have e1 := T.out
     simp only [eY] at e1
     rw [e1, dR]
     simp [H0.out, inLoop]
    refine ⟨⟨k + 1, h.v, h.W, by go_num, rfl, rfl, by omega, ⟨hx ▸ HL2.out, HREL.out.2.1.trans ((Gro.of_below l1 HBB.out ((aq _ _).alloc (ar _) _)).trans h.gro), HO2.out⟩⟩, by simp [intOf]; omega⟩
   ·rw [h0] at q0
    have H0 := I h0
    clear h0
    go_upto_region 5 with (fail)
    refine aH ?_
    intro gg
    have gout := @gA W1
    go_wp2_with ((with_reducible refine eV (b := .append) (xs := #[.tmp 22, .tmp 27]) rfl ?_); at_builtin; refine Kd.cW (kTh W0) (w0 := W0) W0.heap.size rfl (.tmp 22) (.tmp 27) 112 125 zTh 304 rfl lY rG rfl (show 0 < 22 by decide) (by decide) l1 ((xs ++ aL (l.take k) d lo).map aY) (aY (.stmt y d lo)) [.int .i64 1, .int .i64 0, .int .i64 3, .string y.f1, .int .i64 y.f2.f0, .int .u64 y.f2.f1, .string y.f2.f2, .slice A5 y.f2.f3.length c5, .int .i64 y.f3.f0, .int .u64 y.f3.f1, .string y.f3.f2, .slice A9 y.f3.f3.length c9, .int .u64 y.f4, .int .u64 y.f5, .slice A12 y.f6.length c12, .slice A13 y.f7.length c13, .int .i64 0, .int .u64 0, .string ⟨#[]⟩, .slice ag 0 0, .int .i64 (d : Int), .slice La lo.length lc] (fun _ => True) (fun k => ac k ≠ l1.ownBlock) rfl rfl (by have hm := (qK (x := aY (.stmt y d lo)) (lS W0 y K.out.1 K.out.2.1 K.out.2.2.1 K.out.2.2.2.1 K.out.2.2.2.2.1 K.out.2.2.2.2.2.1 K.out.2.2.2.2.2.2.1 K.out.2.2.2.2.2.2.2) (jH W0) (HREL.out.2.2.below (gout gg))); rw [H0.out] at hm; exact hm) (fun _ h => ⟨trivial, h⟩) (fun _ _ => trivial) (HREL.out.1.below (gout gg)) (HBB.out.trans ((gout gg).mono HBB.out.size)) (bh HBB.out.size (gout gg).size) (by have := HS.out; have := bH y; simp; omega) ?_; intro v2 w2 ho hb2 hg2 hat2; obtain ⟨h, rfl, rfl⟩ : ∃ h : H W0 (gw0 gg) l1, h.W = w2 /\ h.v = v2 := ⟨mkH ((Gro.of_below l1 (HBB.out.trans (((aq W1.heap.size W1).alloc (ar _) _).mono HBB.out.size)) gg.below).trans ⟨hb2, hg2, hat2⟩), rfl, rfl⟩; have HL2 := I (show Li 125 W0 h.W h.v (xs ++ aL (l.take k) d lo ++ [.stmt y d lo]) by unfold Li; rw [fg]; exact ho); have HO2 := I ((HREL.out.2.2.below (gout gg)).step ⟨hb2, hg2, hat2⟩); clear ho hb2 hg2 hat2)
    have C := kA _ y.f3 (ar _) W0 h.W h.v (.slice La lo.length lc) (xs ++ aL (l.take k) d lo ++ [Th.stmt y d lo]) lo A9 c9 h.gro.below K.out.2.2.2.1 K.out.2.2.1 HL2.out HO2.out (by have h1 := HS.out.1; have h2 := bH y; have h3 := aS y.f3; have h4 := aS y.f2; simp only [ay, bk, cG]; omega)
    refine C.mono ?_
    clear C
    rintro _ w3 ⟨v3, rfl, hL, hG⟩
    have HL2 := I hL
    have HO2 := I (HO2.out.step hG)
    obtain ⟨h, rfl, rfl⟩ : ∃ h' : H W0 (gw0 gg) l1, h'.W = w3 /\ h'.v = v3 := ⟨mkH (h.gro.trans hG), rfl, rfl⟩
    clear hL hG
    go_wp2_with fail
    have C := IH1.out.1 W0 h.W h.v (.slice La lo.length lc) (xs ++ aL (l.take k) d lo ++ [Th.stmt y d lo] ++ dX y.f3 lo) (lo) A12 c12 (d + 1) (wrap64 ((d : Int) + 1)) (kT (by have := HN.out.2.1; omega)) h.gro.below K.out.2.2.2.2.2.1 K.out.2.2.2.2.1 HL2.out HO2.out (by have h1 := HS.out.1; have h2 := bH y; have h3 := aS y.f3; have h4 := aS y.f2; have h5 := cY y.f6 (d + 1) (lo); simp only [ay, bk, cG]; omega) (by have h1 := HS.out.2; have h2 := bH y; omega) (by have h1 := HN.out.2.2; simp; omega)
    refine C.mono ?_
    clear C
    rintro _ w3 ⟨v3, rfl, hL, hG⟩
    have HL2 := I hL
    have HO2 := I (HO2.out.step hG)
    obtain ⟨h, rfl, rfl⟩ : ∃ h' : H W0 (gw0 gg) l1, h'.W = w3 /\ h'.v = v3 := ⟨mkH (h.gro.trans hG), rfl, rfl⟩
    clear hL hG
    go_wp2_with fail
    have C := IH1.out.2 W0 h.W h.v (.slice La lo.length lc) (xs ++ aL (l.take k) d lo ++ [Th.stmt y d lo] ++ dX y.f3 lo ++ aL y.f6 (d + 1) (lo)) (lo) A13 c13 (d + 1) (wrap64 ((d : Int) + 1)) (kT (by have := HN.out.2.1; omega)) h.gro.below K.out.2.2.2.2.2.2.2 K.out.2.2.2.2.2.2.1 HL2.out HO2.out (by have h1 := HS.out.1; have h2 := bH y; have h3 := aS y.f3; have h4 := aS y.f2; have h5 := cY y.f6 (d + 1) (lo); simp only [ay, bk, cG]; omega) (by have h1 := HS.out.2; have h2 := bH y; omega) (by have h1 := HN.out.2.2; simp; omega)
    refine C.mono ?_
    clear C
    rintro _ w3 ⟨v3, rfl, hL, hG⟩
    have HL2 := I hL
    have HO2 := I (HO2.out.step hG)
    obtain ⟨h, rfl, rfl⟩ : ∃ h' : H W0 (gw0 gg) l1, h'.W = w3 /\ h'.v = v3 := ⟨mkH (h.gro.trans hG), rfl, rfl⟩
    clear hL hG
    go_wp2_with fail
    have hx : xs ++ aL (l.take k) d lo ++ [Th.stmt y d lo] ++ dX y.f3 lo ++ aL y.f6 (d + 1) (lo) ++ aL y.f7 (d + 1) (lo) = xs ++ aL (l.take (k + 1)) d lo := by
     have e1 := T.out
     simp only [eY] at e1
     rw [e1, dR]
     simp [H0.out, inLoop]
    refine ⟨⟨k + 1, h.v, h.W, by go_num, rfl, rfl, by omega, ⟨hx ▸ HL2.out, HREL.out.2.1.trans ((Gro.of_below l1 HBB.out ((aq _ _).alloc (ar _) _)).trans h.gro), HO2.out⟩⟩, by simp [intOf]; omega⟩
   ·rw [h0] at q0
    have H0 := I h0
    clear h0
    go_upto_region 5 with (fail)
    refine aH ?_
    intro gg
    have gout := @gA W1
    go_wp2_with ((with_reducible refine eV (b := .append) (xs := #[.tmp 22, .tmp 27]) rfl ?_); at_builtin; refine Kd.cW (kTh W0) (w0 := W0) W0.heap.size rfl (.tmp 22) (.tmp 27) 112 125 zTh 304 rfl lY rG rfl (show 0 < 22 by decide) (by decide) l1 ((xs ++ aL (l.take k) d lo).map aY) (aY (.stmt y d lo)) [.int .i64 1, .int .i64 0, .int .i64 2, .string y.f1, .int .i64 y.f2.f0, .int .u64 y.f2.f1, .string y.f2.f2, .slice A5 y.f2.f3.length c5, .int .i64 y.f3.f0, .int .u64 y.f3.f1, .string y.f3.f2, .slice A9 y.f3.f3.length c9, .int .u64 y.f4, .int .u64 y.f5, .slice A12 y.f6.length c12, .slice A13 y.f7.length c13, .int .i64 0, .int .u64 0, .string ⟨#[]⟩, .slice ag 0 0, .int .i64 (d : Int), .slice La lo.length lc] (fun _ => True) (fun k => ac k ≠ l1.ownBlock) rfl rfl (by have hm := (qK (x := aY (.stmt y d lo)) (lS W0 y K.out.1 K.out.2.1 K.out.2.2.1 K.out.2.2.2.1 K.out.2.2.2.2.1 K.out.2.2.2.2.2.1 K.out.2.2.2.2.2.2.1 K.out.2.2.2.2.2.2.2) (jH W0) (HREL.out.2.2.below (gout gg))); rw [H0.out] at hm; exact hm) (fun _ h => ⟨trivial, h⟩) (fun _ _ => trivial) (HREL.out.1.below (gout gg)) (HBB.out.trans ((gout gg).mono HBB.out.size)) (bh HBB.out.size (gout gg).size) (by have := HS.out; have := bH y; simp; omega) ?_; intro v2 w2 ho hb2 hg2 hat2; obtain ⟨h, rfl, rfl⟩ : ∃ h : H W0 (gw0 gg) l1, h.W = w2 /\ h.v = v2 := ⟨mkH ((Gro.of_below l1 (HBB.out.trans (((aq W1.heap.size W1).alloc (ar _) _).mono HBB.out.size)) gg.below).trans ⟨hb2, hg2, hat2⟩), rfl, rfl⟩; have HL2 := I (show Li 125 W0 h.W h.v (xs ++ aL (l.take k) d lo ++ [.stmt y d lo]) by unfold Li; rw [fg]; exact ho); have HO2 := I ((HREL.out.2.2.below (gout gg)).step ⟨hb2, hg2, hat2⟩); clear ho hb2 hg2 hat2)
    have C := kA _ y.f2 (ar _) W0 h.W h.v (.slice La lo.length lc) (xs ++ aL (l.take k) d lo ++ [Th.stmt y d lo]) lo A5 c5 h.gro.below K.out.2.1 K.out.1 HL2.out HO2.out (by have h1 := HS.out.1; have h2 := bH y; have h3 := aS y.f3; have h4 := aS y.f2; simp only [ay, bk, cG]; omega)
    refine C.mono ?_
    clear C
    rintro _ w3 ⟨v3, rfl, hL, hG⟩
    have HL2 := I hL
    have HO2 := I (HO2.out.step hG)
    obtain ⟨h, rfl, rfl⟩ : ∃ h' : H W0 (gw0 gg) l1, h'.W = w3 /\ h'.v = v3 := ⟨mkH (h.gro.trans hG), rfl, rfl⟩
    clear hL hG
    go_wp2_with fail
    have C := kA _ y.f3 (ar _) W0 h.W h.v (.slice La lo.length lc) (xs ++ aL (l.take k) d lo ++ [Th.stmt y d lo] ++ dX y.f2 lo) lo A9 c9 h.gro.below K.out.2.2.2.1 K.out.2.2.1 HL2.out HO2.out (by have h1 := HS.out.1; have h2 := bH y; have h3 := aS y.f3; have h4 := aS y.f2; simp only [ay, bk, cG]; omega)
    refine C.mono ?_
    clear C
    rintro _ w3 ⟨v3, rfl, hL, hG⟩
    have HL2 := I hL
    have HO2 := I (HO2.out.step hG)
    obtain ⟨h, rfl, rfl⟩ : ∃ h' : H W0 (gw0 gg) l1, h'.W = w3 /\ h'.v = v3 := ⟨mkH (h.gro.trans hG), rfl, rfl⟩
    clear hL hG
    go_wp2_with fail
    have C := IH1.out.1 W0 h.W h.v (.slice La lo.length lc) (xs ++ aL (l.take k) d lo ++ [Th.stmt y d lo] ++ dX y.f2 lo ++ dX y.f3 lo) (lo) A12 c12 (d + 1) (wrap64 ((d : Int) + 1)) (kT (by have := HN.out.2.1; omega)) h.gro.below K.out.2.2.2.2.2.1 K.out.2.2.2.2.1 HL2.out HO2.out (by have h1 := HS.out.1; have h2 := bH y; have h3 := aS y.f3; have h4 := aS y.f2; have h5 := cY y.f6 (d + 1) (lo); simp only [ay, bk, cG]; omega) (by have h1 := HS.out.2; have h2 := bH y; omega) (by have h1 := HN.out.2.2; simp; omega)
    refine C.mono ?_
    clear C
    rintro _ w3 ⟨v3, rfl, hL, hG⟩
    have HL2 := I hL
    have HO2 := I (HO2.out.step hG)
    obtain ⟨h, rfl, rfl⟩ : ∃ h' : H W0 (gw0 gg) l1, h'.W = w3 /\ h'.v = v3 := ⟨mkH (h.gro.trans hG), rfl, rfl⟩
    clear hL hG
    go_wp2_with fail
    have C := IH1.out.2 W0 h.W h.v (.slice La lo.length lc) (xs ++ aL (l.take k) d lo ++ [Th.stmt y d lo] ++ dX y.f2 lo ++ dX y.f3 lo ++ aL y.f6 (d + 1) (lo)) (lo) A13 c13 (d + 1) (wrap64 ((d : Int) + 1)) (kT (by have := HN.out.2.1; omega)) h.gro.below K.out.2.2.2.2.2.2.2 K.out.2.2.2.2.2.2.1 HL2.out HO2.out (by have h1 := HS.out.1; have h2 := bH y; have h3 := aS y.f3; have h4 := aS y.f2; have h5 := cY y.f6 (d + 1) (lo); simp only [ay, bk, cG]; omega) (by have h1 := HS.out.2; have h2 := bH y; omega) (by have h1 := HN.out.2.2; simp; omega)
    refine C.mono ?_
    clear C
    rintro _ w3 ⟨v3, rfl, hL, hG⟩
    have HL2 := I hL
    have HO2 := I (HO2.out.step hG)
    obtain ⟨h, rfl, rfl⟩ : ∃ h' : H W0 (gw0 gg) l1, h'.W = w3 /\ h'.v = v3 := ⟨mkH (h.gro.trans hG), rfl, rfl⟩
    clear hL hG
    go_wp2_with fail
    have hx : xs ++ aL (l.take k) d lo ++ [Th.stmt y d lo] ++ dX y.f2 lo ++ dX y.f3 lo ++ aL y.f6 (d + 1) (lo) ++ aL y.f7 (d + 1) (lo) = xs ++ aL (l.take (k + 1)) d lo := by
     have e1 := T.out
     simp only [eY] at e1
     rw [e1, dR]
     simp [H0.out, inLoop]
    refine ⟨⟨k + 1, h.v, h.W, by go_num, rfl, rfl, by omega, ⟨hx ▸ HL2.out, HREL.out.2.1.trans ((Gro.of_below l1 HBB.out ((aq _ _).alloc (ar _) _)).trans h.gro), HO2.out⟩⟩, by simp [intOf]; omega⟩
   ·rw [h0] at q0
    have H0 := I h0
    clear h0
    go_upto_region 5 with (fail)
    refine aH ?_
    intro gg
    have gout := @gA W1
    go_wp2_with ((with_reducible refine eV (b := .append) (xs := #[.tmp 22, .tmp 27]) rfl ?_); at_builtin; refine Kd.cW (kTh W0) (w0 := W0) W0.heap.size rfl (.tmp 22) (.tmp 27) 112 125 zTh 304 rfl lY rG rfl (show 0 < 22 by decide) (by decide) l1 ((xs ++ aL (l.take k) d lo).map aY) (aY (.stmt y d lo)) [.int .i64 1, .int .i64 0, .int .i64 4, .string y.f1, .int .i64 y.f2.f0, .int .u64 y.f2.f1, .string y.f2.f2, .slice A5 y.f2.f3.length c5, .int .i64 y.f3.f0, .int .u64 y.f3.f1, .string y.f3.f2, .slice A9 y.f3.f3.length c9, .int .u64 y.f4, .int .u64 y.f5, .slice A12 y.f6.length c12, .slice A13 y.f7.length c13, .int .i64 0, .int .u64 0, .string ⟨#[]⟩, .slice ag 0 0, .int .i64 (d : Int), .slice La lo.length lc] (fun _ => True) (fun k => ac k ≠ l1.ownBlock) rfl rfl (by have hm := (qK (x := aY (.stmt y d lo)) (lS W0 y K.out.1 K.out.2.1 K.out.2.2.1 K.out.2.2.2.1 K.out.2.2.2.2.1 K.out.2.2.2.2.2.1 K.out.2.2.2.2.2.2.1 K.out.2.2.2.2.2.2.2) (jH W0) (HREL.out.2.2.below (gout gg))); rw [H0.out] at hm; exact hm) (fun _ h => ⟨trivial, h⟩) (fun _ _ => trivial) (HREL.out.1.below (gout gg)) (HBB.out.trans ((gout gg).mono HBB.out.size)) (bh HBB.out.size (gout gg).size) (by have := HS.out; have := bH y; simp; omega) ?_; intro v2 w2 ho hb2 hg2 hat2; obtain ⟨h, rfl, rfl⟩ : ∃ h : H W0 (gw0 gg) l1, h.W = w2 /\ h.v = v2 := ⟨mkH ((Gro.of_below l1 (HBB.out.trans (((aq W1.heap.size W1).alloc (ar _) _).mono HBB.out.size)) gg.below).trans ⟨hb2, hg2, hat2⟩), rfl, rfl⟩; have HL2 := I (show Li 125 W0 h.W h.v (xs ++ aL (l.take k) d lo ++ [.stmt y d lo]) by unfold Li; rw [fg]; exact ho); have HO2 := I ((HREL.out.2.2.below (gout gg)).step ⟨hb2, hg2, hat2⟩); clear ho hb2 hg2 hat2)
    go_upto_region 15 with (fail)
    have hsz : W1.heap.size < h.W.heap.size := bq (by simp [gw0]) h.gro.grown.size
    have hw : Below W1.heap.size W1 h.W -> True := fun _ => trivial
    clear hw
    refine fZ (n := 8) (S := fun w' => ∃ g' : G h.W, w' = g'.W) (ds := []) #[J, J, J, J, J, J, J, J] (by kernel_rfl) rfl rfl ⟨mkG (aq _ _).drew, rfl⟩ (fun hHeld => ?_)
    obtain ⟨gd, hgd⟩ := hHeld
    rw [hgd]
    clear hgd
    refine bB (i := 1) (N := ac 56) (v := ?_) (a' := ?_) #[J, af, J, J, J, J, J, J] rfl rfl (by kernel_rfl) (fun _ _ _ h => h) (bg ⟨by rfl, ?_⟩) ?_ ?_
    rotate_left
    ·intro w'
     go_simp
     with_reducible rfl
    rotate_left
    ·simp only [ax, aa, ah, ai, aN, aM]
     rfl
    refine bB (i := 3) (N := ac 58) (v := ?_) (a' := ?_) #[J, af, J, af, J, J, J, J] rfl rfl (by kernel_rfl) (fun _ _ _ h => h) (bg ⟨by rfl, ?_⟩) ?_ ?_
    rotate_left
    ·intro w'
     go_simp
     with_reducible rfl
    rotate_left
    ·simp only [ax, aa, ah, ai, aN, aM]
     rfl
    refine dP (i := 4) (N := ac 59) (v := ?_) (a' := ?_) #[J, af, J, af, af, J, J, J] rfl rfl (by kernel_rfl) (fun _ _ _ h => h) (bg ⟨by rfl, ?_⟩) ⟨gd, rfl⟩ ?_ ?_
    rotate_left
    ·rintro w' ⟨g', rfl⟩
     go_simp
     with_reducible rfl
    rotate_left
    ·simp only [ax, aa, ah, ai, aN, aM]
     rfl
    refine join_ (σ := Value × Value × Value) 2 #[af, af, af, af, af, af, J, J] (fun s => [(55, s.1), (57, s.2.1), (60, s.2.2)]) (fun s w' => ∃ g : G h.W, w' = g.W /\ Kd.string.R 9 g.W h.W.heap.size (fun _ => True) s.2.1 lo /\ Kd.string.R 9 g.W h.W.heap.size (fun _ => True) s.2.2 [y.f1]) ?_ (fun hJ => ?_)
    rotate_left
    ·refine two_ (i := 0) (j := 5) (Ni := ac 55) (Nj := ac 60) #[af, af, J, af, af, J, J, J] #[J, af, J, af, af, af, J, J] rfl rfl rfl rfl (by kernel_rfl) (by simp) (by simp) ?_ ?_
     ·intro K hK
      refine Kd.jI Kd.string (w0 := h.W) h.W.heap.size 9 (by rfl) (N := 55) rfl (xs := []) (inner := []) (ok := fun _ => True) (okp := fun _ => False) (by first | (go_simp; done) | (go_simp; rfl)) reps_nil (fun _ h => h.elim) trivial gd.below gd.below.size (by simp) ?_
      intro v55 w5 ho5 hb5 hg5 hat5
      obtain ⟨g5, rfl⟩ : ∃ g : G h.W, w5 = g.W := ⟨mkG hb5, rfl⟩
      refine hK.out _ _ ⟨g5, rfl⟩ (fun _ => ?_)
      clear hK K
      refine cU (a' := ?_) ?_ ?_
      rotate_left
      ·show ax _ (ac 55) _ = _
       simp only [ax, aa, ah, ai, aN, aM]
       rfl
      refine two_ (i := 2) (j := 5) (Ni := ac 57) (Nj := ac 60) #[af, af, af, af, af, J, J, J] #[af, af, J, af, af, af, J, J] rfl rfl rfl rfl (by kernel_rfl) (by simp) (by simp) ?_ ?_
      ·intro K hK
       refine Kd.dQ Kd.string (Rr := Kd.string.K g5.W) (w0 := h.W) h.W.heap.size (by rfl) (.tmp 55) (.tmp 56) 52 9 (.string ⟨#[]⟩) 16 rfl under78 info9 rfl (by decide) (by decide) v55 [] lo La lo.length lc (fun _ => True) (fun _ => False) rfl rfl ho5 (Lo.reads (HO2.out.below g5.below)) (fun _ _ h => h) (fun _ h => h.elim) (fun _ _ => trivial) g5.below g5.below.size (by have := HN.out; simp; omega) ?_
       intro v57 w7 ho7 hb7 hg7 hat7
       obtain ⟨g7, rfl⟩ : ∃ g : G h.W, w7 = g.W := ⟨mkG hb7, rfl⟩
       refine hK.out _ _ ⟨g7, rfl⟩ (fun _ => ?_)
       clear hK K
       refine cU (a' := ?_) ?_ ?_
       rotate_left
       ·show ax _ (ac 57) _ = _
        simp only [ax, aa, ah, ai, aN, aM]
        rfl
       refine kJ (i := 5) (N := ac 60) #[af, af, af, af, af, af, J, J] rfl rfl (by kernel_rfl) (by simp) (fun K hK => ?_)
       refine Kd.jI Kd.string (w0 := h.W) h.W.heap.size 9 (by rfl) (N := 60) rfl (xs := [y.f1]) (inner := [.string y.f1]) (ok := fun _ => True) (okp := fun _ => False) (by first | (go_simp; done) | (go_simp; rfl)) (Kd.jZ (enc := Value.string) [y.f1]) (fun _ h => h.elim) trivial g7.below g7.below.size (by simp) ?_
       intro v60 w6 ho6 hb6 hg6 hat6
       obtain ⟨g6, rfl⟩ : ∃ g : G h.W, w6 = g.W := ⟨mkG hb6, rfl⟩
       refine hK.out _ _ ⟨g6, rfl⟩ (fun _ => ?_)
       clear hK K
       refine cU (a' := ?_) ?_ ?_
       rotate_left
       ·show ax _ (ac 60) _ = _
        simp only [ax, aa, ah, ai, aN, aM]
        rfl
       exact cU (by first | (simp only [iJ, ax, aa, ah, ai]; done) | (simp only [iJ, ax, aa, ah, ai]; rfl)) (hJ (v55, v57, v60) _ ⟨_, rfl, Kd.nJ ho7 hg6 (fun _ _ => by simp), ho6⟩)
      ·intro K hK
       refine Kd.jI Kd.string (w0 := h.W) h.W.heap.size 9 (by rfl) (N := 60) rfl (xs := [y.f1]) (inner := [.string y.f1]) (ok := fun k => ac k ≠ v55.ownBlock) (okp := fun _ => False) (by first | (go_simp; done) | (go_simp; rfl)) (Kd.jZ (enc := Value.string) [y.f1]) (fun _ h => h.elim) (fun e => by have := R_lt ho5 _ e.symm; omega) g5.below g5.below.size (by simp) ?_
       intro v60 w6 ho6 hb6 hg6 hat6
       obtain ⟨g6, rfl⟩ : ∃ g : G h.W, w6 = g.W := ⟨mkG hb6, rfl⟩
       refine hK.out _ _ ⟨g6, rfl⟩ (fun _ => ?_)
       clear hK K
       refine cU (a' := ?_) ?_ ?_
       rotate_left
       ·show ax _ (ac 60) _ = _
        simp only [ax, aa, ah, ai, aN, aM]
        rfl
       refine kJ (i := 2) (N := ac 57) #[af, af, af, af, af, af, J, J] rfl rfl (by kernel_rfl) (by simp) (fun K hK => ?_)
       refine Kd.dQ Kd.string (Rr := Kd.string.K g6.W) (w0 := h.W) h.W.heap.size (by rfl) (.tmp 55) (.tmp 56) 52 9 (.string ⟨#[]⟩) 16 rfl under78 info9 rfl (by decide) (by decide) v55 [] lo La lo.length lc (fun _ => True) (fun _ => False) rfl rfl (Kd.nJ ho5 hg6 (fun _ _ => by simp)) (Lo.reads (HO2.out.below g6.below)) (fun _ _ h => h) (fun _ h => h.elim) (fun _ _ => trivial) g6.below g6.below.size (by have := HN.out; simp; omega) ?_
       intro v57 w7 ho7 hb7 hg7 hat7
       obtain ⟨g7, rfl⟩ : ∃ g : G h.W, w7 = g.W := ⟨mkG hb7, rfl⟩
       refine hK.out _ _ ⟨g7, rfl⟩ (fun _ => ?_)
       clear hK K
       refine cU (a' := ?_) ?_ ?_
       rotate_left
       ·show ax _ (ac 57) _ = _
        simp only [ax, aa, ah, ai, aN, aM]
        rfl
       exact cU (by first | (simp only [iJ, ax, aa, ah, ai]; done) | (simp only [iJ, ax, aa, ah, ai]; rfl)) (hJ (v55, v57, v60) _ ⟨_, rfl, ho7, Kd.eD (Kd.nJ ho6 hg7 (fun k hk => hk)) (fun _ _ => trivial)⟩)
     ·intro K hK
      refine Kd.jI Kd.string (w0 := h.W) h.W.heap.size 9 (by rfl) (N := 60) rfl (xs := [y.f1]) (inner := [.string y.f1]) (ok := fun _ => True) (okp := fun _ => False) (by first | (go_simp; done) | (go_simp; rfl)) (Kd.jZ (enc := Value.string) [y.f1]) (fun _ h => h.elim) trivial gd.below gd.below.size (by simp) ?_
      intro v60 w6 ho6 hb6 hg6 hat6
      obtain ⟨g6, rfl⟩ : ∃ g : G h.W, w6 = g.W := ⟨mkG hb6, rfl⟩
      refine hK.out _ _ ⟨g6, rfl⟩ (fun _ => ?_)
      clear hK K
      refine cU (a' := ?_) ?_ ?_
      rotate_left
      ·show ax _ (ac 60) _ = _
       simp only [ax, aa, ah, ai, aN, aM]
       rfl
      refine kJ (i := 0) (N := ac 55) #[af, af, J, af, af, af, J, J] rfl rfl (by kernel_rfl) (by simp) (fun K hK => ?_)
      refine Kd.jI Kd.string (w0 := h.W) h.W.heap.size 9 (by rfl) (N := 55) rfl (xs := []) (inner := []) (ok := fun _ => True) (okp := fun _ => False) (by first | (go_simp; done) | (go_simp; rfl)) reps_nil (fun _ h => h.elim) trivial g6.below g6.below.size (by simp) ?_
      intro v55 w5 ho5 hb5 hg5 hat5
      obtain ⟨g5, rfl⟩ : ∃ g : G h.W, w5 = g.W := ⟨mkG hb5, rfl⟩
      refine hK.out _ _ ⟨g5, rfl⟩ (fun _ => ?_)
      clear hK K
      refine cU (a' := ?_) ?_ ?_
      rotate_left
      ·show ax _ (ac 55) _ = _
       simp only [ax, aa, ah, ai, aN, aM]
       rfl
      obtain ⟨b5, hb5', hle5⟩ := hat5
      have ho6 := R_apart ho6 hg5 hb5' hle5
      refine kJ (i := 2) (N := ac 57) #[af, af, af, af, af, af, J, J] rfl rfl (by kernel_rfl) (by simp) (fun K hK => ?_)
      refine Kd.dQ Kd.string (Rr := Kd.string.K g5.W) (w0 := h.W) h.W.heap.size (by rfl) (.tmp 55) (.tmp 56) 52 9 (.string ⟨#[]⟩) 16 rfl under78 info9 rfl (by decide) (by decide) v55 [] lo La lo.length lc (fun _ => True) (fun _ => False) rfl rfl ho5 (Lo.reads (HO2.out.below g5.below)) (fun _ _ h => h) (fun _ h => h.elim) (fun _ _ => trivial) g5.below g5.below.size (by have := HN.out; simp; omega) ?_
      intro v57 w7 ho7 hb7 hg7 hat7
      obtain ⟨g7, rfl⟩ : ∃ g : G h.W, w7 = g.W := ⟨mkG hb7, rfl⟩
      refine hK.out _ _ ⟨g7, rfl⟩ (fun _ => ?_)
      clear hK K
      refine cU (a' := ?_) ?_ ?_
      rotate_left
      ·show ax _ (ac 57) _ = _
       simp only [ax, aa, ah, ai, aN, aM]
       rfl
      exact cU (by first | (simp only [iJ, ax, aa, ah, ai]; done) | (simp only [iJ, ax, aa, ah, ai]; rfl)) (hJ (v55, v57, v60) _ ⟨_, rfl, ho7, Kd.eD (Kd.nJ ho6 hg7 (fun k hk => hk)) (fun _ _ => trivial)⟩)
    rintro ⟨v55, v57, v60⟩ _ ⟨gd, rfl, ho7, ho6⟩
    refine cU (a' := ?_) ?_ ?_
    rotate_left
    ·simp only [iJ, ax, aa, ah, ai]
     rfl
    obtain ⟨A60, c60, e60, l60, g60⟩ := Kd.d7 ho6
    simp only at e60
    subst e60
    refine kJ (i := 6) (N := ac 61) #[af, af, af, af, af, af, af, J] rfl rfl (by kernel_rfl) (by simp) (fun K hK => ?_)
    refine Kd.dQ Kd.string (Rr := Kd.string.K gd.W) (w0 := h.W) h.W.heap.size (by rfl) (.tmp 57) (.tmp 60) 52 9 (.string ⟨#[]⟩) 16 rfl under78 info9 rfl (by decide) (by decide) v57 lo [y.f1] A60 1 c60 (fun _ => True) (fun _ => False) rfl rfl ho7 g60 (fun _ _ h => h) (fun _ h => h.elim) (fun _ _ => trivial) gd.below gd.below.size (by have := HN.out; simp; omega) ?_
    intro v61 w8 ho8 hb8 hg8 hat8
    refine hK.out _ _ ⟨mkG hb8, rfl⟩ (fun _ => ?_)
    clear hK K
    refine cU (a' := ?_) ?_ ?_
    rotate_left
    ·show ax _ (ac 61) _ = _
     simp only [ax, aa, ah, ai, aN, aM]
     rfl
    refine bB (i := 7) (N := ac 11) (v := ?_) (a' := ?_) #[af, af, af, af, af, af, af, af] rfl rfl (by kernel_rfl) (fun _ _ _ h => h) (bg ⟨by rfl, ?_⟩) ?_ ?_
    rotate_left
    ·intro w'
     go_simp
     with_reducible rfl
    rotate_left
    ·simp only [ax, aa, ah, ai, aN, aM]
     rfl
    refine kH (by kernel_rfl) ?_
    have HO4 := I (show Lo W0 w8 h.v v61 (lo ++ [y.f1]) from Lo.new (Li.lt HL2.out) h.gro.below.size ho8)
    have HO2 := I (HO2.out.below hb8)
    have HL2 := I (HL2.out.below hb8)
    obtain ⟨h, rfl, hv⟩ : ∃ h' : H W0 (gw0 gg) l1, h'.W = w8 /\ h'.v = h.v := ⟨mkH (h.gro.trans (Gro.of_below h.v h.gro.below hb8)), rfl, rfl⟩
    rw [<- hv] at HL2 HO2 HO4 ⊢
    obtain ⟨L61, c61, rfl⟩ := Kd.cD HO4.out
    clear hv
    rw [show (lo ++ [y.f1]).length = lo.length + 1 by simp] at HO4 ⊢
    go_wp2_with fail
    have C := IH1.out.1 W0 h.W h.v (.slice L61 (lo.length + 1) c61) (xs ++ aL (l.take k) d lo ++ [Th.stmt y d lo]) (lo ++ [y.f1]) A12 c12 (d + 1) (wrap64 ((d : Int) + 1)) (kT (by have := HN.out.2.1; omega)) h.gro.below K.out.2.2.2.2.2.1 K.out.2.2.2.2.1 HL2.out HO4.out (by have h1 := HS.out.1; have h2 := bH y; have h3 := aS y.f3; have h4 := aS y.f2; have h5 := cY y.f6 (d + 1) (lo ++ [y.f1]); simp only [ay, bk, cG]; omega) (by have h1 := HS.out.2; have h2 := bH y; omega) (by have h1 := HN.out.2.2; simp; omega)
    refine C.mono ?_
    clear C
    rintro _ w3 ⟨v3, rfl, hL, hG⟩
    have HL2 := I hL
    have HO2 := I (HO2.out.step hG)
    have HO4 := I (HO4.out.step hG)
    obtain ⟨h, rfl, rfl⟩ : ∃ h' : H W0 (gw0 gg) l1, h'.W = w3 /\ h'.v = v3 := ⟨mkH (h.gro.trans hG), rfl, rfl⟩
    clear hL hG
    go_wp2_with fail
    have C := IH1.out.2 W0 h.W h.v (.slice L61 (lo.length + 1) c61) (xs ++ aL (l.take k) d lo ++ [Th.stmt y d lo] ++ aL y.f6 (d + 1) (lo ++ [y.f1])) (lo ++ [y.f1]) A13 c13 (d + 1) (wrap64 ((d : Int) + 1)) (kT (by have := HN.out.2.1; omega)) h.gro.below K.out.2.2.2.2.2.2.2 K.out.2.2.2.2.2.2.1 HL2.out HO4.out (by have h1 := HS.out.1; have h2 := bH y; have h3 := aS y.f3; have h4 := aS y.f2; have h5 := cY y.f6 (d + 1) (lo ++ [y.f1]); simp only [ay, bk, cG]; omega) (by have h1 := HS.out.2; have h2 := bH y; omega) (by have h1 := HN.out.2.2; simp; omega)
    refine C.mono ?_
    clear C
    rintro _ w3 ⟨v3, rfl, hL, hG⟩
    have HL2 := I hL
    have HO2 := I (HO2.out.step hG)
    have HO4 := I (HO4.out.step hG)
    obtain ⟨h, rfl, rfl⟩ : ∃ h' : H W0 (gw0 gg) l1, h'.W = w3 /\ h'.v = v3 := ⟨mkH (h.gro.trans hG), rfl, rfl⟩
    clear hL hG
    go_wp2_with fail
    have hx : xs ++ aL (l.take k) d lo ++ [Th.stmt y d lo] ++ aL y.f6 (d + 1) (lo ++ [y.f1]) ++ aL y.f7 (d + 1) (lo ++ [y.f1]) = xs ++ aL (l.take (k + 1)) d lo := by
     have e1 := T.out
     simp only [eY] at e1
     rw [e1, dR]
     simp [H0.out, inLoop]
    refine ⟨⟨k + 1, h.v, h.W, by go_num, rfl, rfl, by omega, ⟨hx ▸ HL2.out, HREL.out.2.1.trans ((Gro.of_below l1 HBB.out ((aq _ _).alloc (ar _) _)).trans h.gro), HO2.out⟩⟩, by simp [intOf]; omega⟩
   ·go_upto_region 5 with (fail)
    refine aH ?_
    intro gg
    have gout := @gA W1
    go_wp2_with ((with_reducible refine eV (b := .append) (xs := #[.tmp 22, .tmp 27]) rfl ?_); at_builtin; refine Kd.cW (kTh W0) (w0 := W0) W0.heap.size rfl (.tmp 22) (.tmp 27) 112 125 zTh 304 rfl lY rG rfl (show 0 < 22 by decide) (by decide) l1 ((xs ++ aL (l.take k) d lo).map aY) (aY (.stmt y d lo)) [.int .i64 1, .int .i64 0, .int .i64 y.f0, .string y.f1, .int .i64 y.f2.f0, .int .u64 y.f2.f1, .string y.f2.f2, .slice A5 y.f2.f3.length c5, .int .i64 y.f3.f0, .int .u64 y.f3.f1, .string y.f3.f2, .slice A9 y.f3.f3.length c9, .int .u64 y.f4, .int .u64 y.f5, .slice A12 y.f6.length c12, .slice A13 y.f7.length c13, .int .i64 0, .int .u64 0, .string ⟨#[]⟩, .slice ag 0 0, .int .i64 (d : Int), .slice La lo.length lc] (fun _ => True) (fun k => ac k ≠ l1.ownBlock) rfl rfl (qK (x := aY (.stmt y d lo)) (lS W0 y K.out.1 K.out.2.1 K.out.2.2.1 K.out.2.2.2.1 K.out.2.2.2.2.1 K.out.2.2.2.2.2.1 K.out.2.2.2.2.2.2.1 K.out.2.2.2.2.2.2.2) (jH W0) (HREL.out.2.2.below (gout gg))) (fun _ h => ⟨trivial, h⟩) (fun _ _ => trivial) (HREL.out.1.below (gout gg)) (HBB.out.trans ((gout gg).mono HBB.out.size)) (bh HBB.out.size (gout gg).size) (by have := HS.out; have := bH y; simp; omega) ?_; intro v2 w2 ho hb2 hg2 hat2; obtain ⟨h, rfl, rfl⟩ : ∃ h : H W0 (gw0 gg) l1, h.W = w2 /\ h.v = v2 := ⟨mkH ((Gro.of_below l1 (HBB.out.trans (((aq W1.heap.size W1).alloc (ar _) _).mono HBB.out.size)) gg.below).trans ⟨hb2, hg2, hat2⟩), rfl, rfl⟩; have HL2 := I (show Li 125 W0 h.W h.v (xs ++ aL (l.take k) d lo ++ [.stmt y d lo]) by unfold Li; rw [fg]; exact ho); have HO2 := I ((HREL.out.2.2.below (gout gg)).step ⟨hb2, hg2, hat2⟩); clear ho hb2 hg2 hat2)
    have C := IH1.out.1 W0 h.W h.v (.slice La lo.length lc) (xs ++ aL (l.take k) d lo ++ [Th.stmt y d lo]) (lo) A12 c12 (d + 1) (wrap64 ((d : Int) + 1)) (kT (by have := HN.out.2.1; omega)) h.gro.below K.out.2.2.2.2.2.1 K.out.2.2.2.2.1 HL2.out HO2.out (by have h1 := HS.out.1; have h2 := bH y; have h3 := aS y.f3; have h4 := aS y.f2; have h5 := cY y.f6 (d + 1) (lo); simp only [ay, bk, cG]; omega) (by have h1 := HS.out.2; have h2 := bH y; omega) (by have h1 := HN.out.2.2; simp; omega)
    refine C.mono ?_
    clear C
    rintro _ w3 ⟨v3, rfl, hL, hG⟩
    have HL2 := I hL
    have HO2 := I (HO2.out.step hG)
    obtain ⟨h, rfl, rfl⟩ : ∃ h' : H W0 (gw0 gg) l1, h'.W = w3 /\ h'.v = v3 := ⟨mkH (h.gro.trans hG), rfl, rfl⟩
    clear hL hG
    go_wp2_with fail
    have C := IH1.out.2 W0 h.W h.v (.slice La lo.length lc) (xs ++ aL (l.take k) d lo ++ [Th.stmt y d lo] ++ aL y.f6 (d + 1) (lo)) (lo) A13 c13 (d + 1) (wrap64 ((d : Int) + 1)) (kT (by have := HN.out.2.1; omega)) h.gro.below K.out.2.2.2.2.2.2.2 K.out.2.2.2.2.2.2.1 HL2.out HO2.out (by have h1 := HS.out.1; have h2 := bH y; have h3 := aS y.f3; have h4 := aS y.f2; have h5 := cY y.f6 (d + 1) (lo); simp only [ay, bk, cG]; omega) (by have h1 := HS.out.2; have h2 := bH y; omega) (by have h1 := HN.out.2.2; simp; omega)
    refine C.mono ?_
    clear C
    rintro _ w3 ⟨v3, rfl, hL, hG⟩
    have HL2 := I hL
    have HO2 := I (HO2.out.step hG)
    obtain ⟨h, rfl, rfl⟩ : ∃ h' : H W0 (gw0 gg) l1, h'.W = w3 /\ h'.v = v3 := ⟨mkH (h.gro.trans hG), rfl, rfl⟩
    clear hL hG
    go_wp2_with fail
    have hx : xs ++ aL (l.take k) d lo ++ [Th.stmt y d lo] ++ aL y.f6 (d + 1) (lo) ++ aL y.f7 (d + 1) (lo) = xs ++ aL (l.take (k + 1)) d lo := by
     have e1 := T.out
     simp only [eY] at e1
     rw [e1, dR]
     simp [n1, n2, n3, n4, inLoop]
    refine ⟨⟨k + 1, h.v, h.W, by go_num, rfl, rfl, by omega, ⟨hx ▸ HL2.out, HREL.out.2.1.trans ((Gro.of_below l1 HBB.out ((aq _ _).alloc (ar _) _)).trans h.gro), HO2.out⟩⟩, by simp [intOf]; omega⟩
  ·go_wp2_with fail
   go_ret
   refine ⟨l1, rfl, ?_, HREL.out.2.1⟩
   have h1 := HREL.out.1
   rw [show k = l.length by omega, di] at h1
   exact h1
theorem stmts_calls : ∀ (n : Nat) (l : List S119), cd l <= n -> StmtsC l := by
 intro n
 induction n with
 | zero => intro l h; cases l <;> simp at h <;> omega
 | succ n ih =>
   intro l h
   refine stmts_walk l fun x hx => ?_
   have h1 := eu hx
   obtain ⟨a, b, c, d, e, f, g, k⟩ := x
   simp only [S119.mk.sizeOf_spec] at h1
   exact ⟨ih _ (by show cd g <= n; omega), ih _ (by show cd k <= n; omega)⟩
end
section
attribute [local go_sem] G.cell H.cell
theorem lM (k : Nat) : (br (k + 1)).map Th.decl = (br k).map Th.decl ++ [Th.decl k] := by rw [js, fg]; rfl
set_option maxRecDepth 100000 in
theorem List_calls (nm : ByteArray) (wd ln : Int) (ds : List S70) (bd : List S119) (A3 : Option Addr) (c3 : Nat) (A4 : Option Addr) (c4 : Nat) (w : World) (hdl : ds.length <= 1048576) (hb : dC.C w A4 bd.length bd) (hlb : bd.length <= c4) (hbb : Ot.bW bd <= 1048576) :
 Calls ak 79 #[.agg #[.string nm, .int .i64 wd, .int .i64 ln, .slice A3 ds.length c3, .slice A4 bd.length c4]] w fun r w' => ∃ v1, r = .returned v1 /\ Li 125 w w' v1 (things ds bd) /\ Below w.heap.size w w' := by
 have HB := I hb
 have HD := I (ae hdl (ae hlb hbb))
 have hlm : ds.length <= 9223372036854775807 := by omega
 clear hb hdl hlb hbb
 go_enter Tryz.func79, Tryz.ntmps79
 go_upto_region 2 with (fail)
 refine aH ?_
 intro gg
 go_wp2_with fail
 go_loopw [4, 3] (fun i l2 W => ∃ (k : Nat) (h : H w (gw0 gg) (.slice ag 0 0)), i = .int .i64 k /\ h.v = l2 /\ h.W = W /\ k <= ds.length /\ Aside0 (Li 125 w h.W h.v ((br k).map Th.decl))) (fun i _ _ => ds.length - (intOf i).toNat)
 case atStart =>
  refine ⟨0, mkH (v1 := .slice ag 0 0) (w := gg.W) (Gro.of_below _ ((aq _ _).alloc (ar _) _) gg.below), rfl, rfl, rfl, bi _, ⟨Kd.jN _ _ _ _ _⟩⟩
 case round =>
  obtain ⟨k, h, rfl, rfl, rfl, hk, HL⟩ := hrel
  have hne : ac w.heap.size ≠ (Value.slice ag 0 0).ownBlock := by simp [dh]
  by_cases hlt : k < ds.length
  ·have hi1 : (k : Int) < (ds.length : Int) := by omega
   go_wp2_with ((with_reducible refine eV (b := .append) (xs := #[.tmp 12, .tmp 15]) rfl ?_); at_builtin; refine Kd.cW (kTh w) (w0 := w) w.heap.size rfl (.tmp 12) (.tmp 15) 112 125 zTh 304 rfl lY rG rfl (show 0 < 22 by decide) (by decide) h.v ((br k).map Th.decl |>.map aY) (aY (.decl k)) [.int .i64 0, .int .i64 (k : Int), .int .i64 0, .string ⟨#[]⟩, .int .i64 0, .int .u64 0, .string ⟨#[]⟩, .slice ag 0 0, .int .i64 0, .int .u64 0, .string ⟨#[]⟩, .slice ag 0 0, .int .u64 0, .int .u64 0, .slice ag 0 0, .slice ag 0 0, .int .i64 0, .int .u64 0, .string ⟨#[]⟩, .slice ag 0 0, .int .i64 0, .slice ag 0 0] (fun _ => True) (fun k => ac k ≠ h.v.ownBlock) rfl rfl (qK (x := aY (.decl k)) (k119_zero w) (jH w) (Kd.jN _ _ _ _ _)) (fun _ h => ⟨trivial, h⟩) (fun _ _ => trivial) HL.out h.gro.below (h.gro.below.size) (by have := HD.out.1; simp; omega) ?_; intro v2 w2 ho hb2 hg2 hat2; have HL2 := I (show Li 125 w w2 v2 ((br (k + 1)).map Th.decl) by unfold Li; rw [lM, fg]; exact ho); obtain ⟨h, rfl, rfl⟩ : ∃ h' : H w (gw0 gg) (.slice ag 0 0), h'.W = w2 /\ h'.v = v2 := ⟨mkH (h.gro.trans ⟨hb2, hg2, hat2⟩), rfl, rfl⟩; clear ho hb2 hg2 hat2)
   exact ⟨⟨k + 1, h, by go_num, rfl, rfl, by omega, HL2⟩, by simp [intOf]; omega⟩
  ·go_wp2_with fail
   have C := stmts_calls _ bd (ar _) w h.W h.v (.slice ag 0 0) ((br k).map Th.decl) [] A4 c4 1 1 rfl h.gro.below HB.out HD.out.2.1 HL.out (Lo.nil _ _ _) (by have := HD.out; simp; omega) (by have := HD.out; omega) (by simp)
   refine C.mono ?_
   clear C
   rintro _ w3 ⟨v3, rfl, hL, hG⟩
   have HR := I (ae hL hG)
   clear hL hG
   go_wp2_with fail
   go_ret
   refine ⟨v3, rfl, ?_, HR.out.2.below⟩
   have h1 := HR.out.1
   rw [show k = ds.length by omega] at h1
   exact h1
end
section
attribute [local go_sem] G.cell
theorem plus_min : ∀ (d : Nat) (l : List Nat) (i k s : Nat), (∀ x ∈ l, x <= 1099511627776) -> i + d = l.length -> d < k -> s <= 1099511627776 -> l.length < 100 ->
 wf_plus.l0 k (s : Int) (l.map fun (n : Nat) => (n : Int)) (l.length : Int) (i : Int) = ac ((min (s + (l.drop i).sum) 1099511627776 : Nat) : Int) := by
 intro d
 induction d with
 | zero =>
   intro l i k s hp h hk hs _
   obtain ⟨k, rfl⟩ : ∃ a, k = a + 1 := ⟨k - 1, by omega⟩
   rw [wf_plus.l0, if_neg (by omega), jp (by omega)]; simp; omega
 | succ d ih =>
   intro l i k s hp h hk hs hl
   obtain ⟨k, rfl⟩ : ∃ a, k = a + 1 := ⟨k - 1, by omega⟩
   have hi : i < l.length := by omega
   have e : wrap64 ((i : Int) + 1) = ((i + 1 : Nat) : Int) := by unfold wrap64; omega
   have er : rd (l.map fun (n : Nat) => (n : Int)) (i : Int) = ((l[i] : Nat) : Int) := by simp [rd, au, hi]
   have hd : l.drop i = l[i] :: l.drop (i + 1) := ig hi
   have hx := hp _ (ef hi)
   rw [hd, List.sum_cons]
   generalize l[i] = x at *
   have hm : mn ((s + x : Nat) : Int) 1099511627776 = ((min (s + x) 1099511627776 : Nat) : Int) := by unfold mn; split <;> omega
   rw [wf_plus.l0, if_pos (by omega), if_pos (by omega), if_pos (by simp; omega), e, er, gZ (by omega), hm, ih l (i + 1) k _ hp (by omega) (by omega) (by omega) hl]
   refine congrArg ac ?_
   omega
theorem dV (l : List Nat) (r : Nat) (hr : r = min l.sum 1099511627776) (hx : ∀ x ∈ l, x <= 1099511627776) (hl : l.length < 100) (A : Option Addr) (c : Nat) (w : World) (hk : Kd.C (Kd.int .i64) w A l.length (l.map fun (n : Nat) => (n : Int))) (hc : l.length <= c) :
 Calls ak 155 #[.slice A l.length c] w fun e w' => e = .returned (.int .i64 (r : Int)) /\ Below w.heap.size w w' := by
 have h := wf_plus.calls 101 A c (l.map fun (n : Nat) => (n : Int)) (r : Int) w (by simpa using hk) (by simpa using hc) (by
  have := plus_min l.length l 0 101 0 hx (by omega) (by omega) (by omega) hl
  unfold wf_plus.f
  rw [hr]
  simpa using this)
 simpa using h
theorem gL (w : World) (l : List Nat) (e : TypeId) (hm : l.length <= 100) : Kd.C (Kd.int .i64) (w.alloc (.cells (l.map fun (n : Nat) => ba .i64 n).toArray e)) (ac ⟨w.heap.size, 0, ag⟩) l.length (l.map fun (n : Nat) => (n : Int)) := by
 have h := lit_ints w (l.map fun (n : Nat) => (n : Int)) e (by simpa using hm)
 simpa [List.map_map, Function.comp_def] using h
set_option maxRecDepth 100000 in
theorem times_calls (n s r : Nat) (hn : n < 18446744073709551616) (hs : s <= 1099511627776) (hr : r = min (n * s) 1099511627776) (w : World) :
 Calls ak 157 #[.int .u64 n, .int .i64 s] w fun e w' => e = .returned (.int .i64 (r : Int)) /\ Below w.heap.size w w' := by
 have HR := I hr
 clear hr
 rcases cf s with rfl | h0
 ·go_enter Tryz.func157, Tryz.ntmps157
  go_wp2_with fail
  go_ret
  exact ⟨by rw [HR.out]; simp, (by first | exact aq _ _ | exact (aq _ _).drew)⟩
 rcases cf n with rfl | h1
 ·have b0 : ((s : Int) == 0) = J := by simp; omega
  have b1 : ¬ (s : Int) = 0 := by omega
  go_enter Tryz.func157, Tryz.ntmps157
  go_wp2_with fail
  go_ret
  exact ⟨by rw [HR.out]; simp, (by first | exact aq _ _ | exact (aq _ _).drew)⟩
 have b0 : ((s : Int) == 0) = J := by simp; omega
 have b1 : ¬ (s : Int) = 0 := by omega
 have b2 : ((n : Int) == 0) = J := by simp; omega
 have b3 : ¬ (n : Int) = 0 := by omega
 have hq : Int.tdiv 1099511627776 (s : Int) = ((1099511627776 / s : Nat) : Int) := by
  rw [show (1099511627776 : Int) = ((1099511627776 : Nat) : Int) from rfl, <- Int.ofNat_tdiv]
 have hq1 : 1099511627776 / s <= 1099511627776 := iq _ _
 obtain ⟨q, hq2⟩ : ∃ q, q = 1099511627776 / s := ⟨_, rfl⟩
 rw [<- hq2] at hq hq1
 have hw1 : wrap64 (q : Int) = (q : Int) := jD (by omega) (by omega)
 have hw2 : IntKind.u64.wrap (q : Int) = (q : Int) := by simp only [IntKind.wrap, ik, jg, jb, jv, if_false]; omega
 have Q2 := I hq2
 have H0 := I h0
 clear hq2 hn h0 h1
 rcases gj q n with h | h
 ·have h3 : (q : Int) < (n : Int) := by omega
  have HH := I h
  clear h
  go_enter Tryz.func157, Tryz.ntmps157
  go_wp2_with fail
  go_ret
  refine ⟨?_, (by first | exact aq _ _ | exact (aq _ _).drew)⟩
  have : 1099511627776 <= n * s := by
   have h6 := HH.out
   rw [Q2.out] at h6
   have h5 := (Nat.div_lt_iff_lt_mul H0.out).1 h6
   omega
  rw [HR.out, iw this]
  rfl
 ·have h3 : ¬ (q : Int) < (n : Int) := by omega
  have HH := I h
  have hw3 : wrap64 (n : Int) = (n : Int) := jD (by omega) (by omega)
  clear h
  go_enter Tryz.func157, Tryz.ntmps157
  go_wp2_with fail
  go_ret
  refine ⟨?_, (by first | exact aq _ _ | exact (aq _ _).drew)⟩
  have h5 : n * s <= 1099511627776 := by
   have := Nat.div_mul_le_self 1099511627776 s
   rw [<- Q2.out] at this
   exact bh (fj s HH.out) this
  rw [HR.out, cy h5]
  show fw (ba .i64 (wrap64 ((n : Int) * (s : Int)))) = _
  rw [jD (by rw [<- il]; omega) (by rw [<- il]; omega), il]
theorem weigh_v {x : S116} (hb : aK x <= 1099511627776) (A : Option Addr) (c : Nat) (w : World) (hc : cQ.C w A x.f3.length x.f3) (hl : x.f3.length <= c) :
 Calls ak 156 #[.agg #[.int .i64 x.f0, .int .u64 x.f1, .string x.f2, .slice A x.f3.length c]] w fun e w' => e = .returned (.int .i64 ((aK x : Nat) : Int)) /\ Below w.heap.size w w' := weigh_calls _ x (ar _) hb A c w hc hl
theorem lN {f : FuncId} {cap : Nat} {l : List S119} (h : SizeC f cap l) {r : Nat} (hr : r = min (bR l) cap) (A : Option Addr) (c : Nat) (w : World) (hc : dC.C w A l.length l) (hl : l.length <= c) :
 Calls ak f #[.slice A l.length c] w fun e w' => e = .returned (.int .i64 (r : Int)) /\ Below w.heap.size w w' := hr ▸ h A c w hc hl
end
section
attribute [local go_sem] G.cell
set_option maxRecDepth 100000 in
theorem refSize_walk (l : List S119) (hg : ∀ x ∈ l, 0 <= x.f4 /\ 0 <= x.f5 /\ x.f4 < 18446744073709551616 /\ x.f5 < 18446744073709551616 /\ aK x.f2 <= 1099511627776 /\ aK x.f3 <= 1099511627776) (ih : ∀ x ∈ l, SizeC 147 65537 x.f6 /\ SizeC 147 65537 x.f7) : SizeC 147 65537 l := by
 intro A c w hc hl
 have IH := I ih
 have HC := I hc
 have GD := I hg
 have hlm := hc.2.1
 clear ih hc hg
 go_enter Tryz.func147, Tryz.ntmps147
 go_wp2
 go_loopw [4, 3] (fun i n W => ∃ (k : Nat) (g : G w), i = .int .i64 k /\ (∃ m : Nat, n = .int .i64 m /\ m = min (bR (l.take k)) 65537) /\ W = g.W /\ k <= l.length) (fun i n _ => l.length - (intOf i).toNat)
 case atStart => exact ⟨0, ⟨w, aq _ _⟩, rfl, ⟨0, rfl, by simp [bR]⟩, rfl, bi _⟩
 case round =>
  obtain ⟨k, g, rfl, ⟨m, rfl, hm⟩, rfl, hk⟩ := hrel
  by_cases hlt : k < l.length
  ·obtain ⟨ad, A5, c5, A9, c9, A12, c12, A13, c13, e1, q0, q1, q2, q3, q4, q5, q6, q7, q8, q9, q10, q11, q12, q13, l5, g5, l9, g9, l12, g12, l13, g13⟩ := gV HC.out (k : Int) (bc _) (by omega)
   cases e1
   rw [av] at q0 q1 q2 q3 q4 q5 q6 q7 q8 q9 q10 q11 q12 q13
   replace q0 := (g.below.cell (aj w _ q0)).trans q0
   replace q1 := (g.below.cell (aj w _ q1)).trans q1
   replace q2 := (g.below.cell (aj w _ q2)).trans q2
   replace q3 := (g.below.cell (aj w _ q3)).trans q3
   replace q4 := (g.below.cell (aj w _ q4)).trans q4
   replace q5 := (g.below.cell (aj w _ q5)).trans q5
   replace q6 := (g.below.cell (aj w _ q6)).trans q6
   replace q7 := (g.below.cell (aj w _ q7)).trans q7
   replace q8 := (g.below.cell (aj w _ q8)).trans q8
   replace q9 := (g.below.cell (aj w _ q9)).trans q9
   replace q10 := (g.below.cell (aj w _ q10)).trans q10
   replace q11 := (g.below.cell (aj w _ q11)).trans q11
   replace q12 := (g.below.cell (aj w _ q12)).trans q12
   replace q13 := (g.below.cell (aj w _ q13)).trans q13
   have hi1 : (k : Int) < (l.length : Int) := by omega
   have K := I (ae l5 (ae g5 (ae l9 (ae g9 (ae l12 (ae g12 (ae l13 g13)))))))
   clear l5 g5 l9 g9 l12 g12 l13 g13
   have MEM := iK hlt
   have T := congrArg bR (fA hlt)
   rw [mR, fP] at T
   have GD1 := I (GD.out _ MEM)
   have IH1 := I (IH.out _ MEM)
   clear MEM
   generalize aQ l (k : Int) = x at *
   obtain ⟨m1, hm1⟩ : ∃ r, r = min (m + 1) 65537 := ⟨_, rfl⟩
   have M := I (ae hm (ae hm1 T))
   have hz1 := I (kT (n := m) (by omega))
   have hm1b := I (show m1 <= 65537 by omega)
   clear hm hm1 T
   have kk : x.f0 = 1 \/ x.f0 = 2 \/ x.f0 = 3 \/ x.f0 = 4 \/ (¬ x.f0 = 1 /\ ¬ x.f0 = 2 /\ ¬ x.f0 = 3 /\ ¬ x.f0 = 4) := by omega
   rcases kk with h0 | h0 | h0 | h0 | ⟨h1, h2, h3, h4⟩
   ·rw [h0] at q0
    have H0 := I h0
    clear h0
    go_wp2_with fail
    refine (qO (eL _ (m + 1) m1 hz1.out M.out.2.1 _)).mono ?_
    rintro _ _ ⟨rfl, gg, rfl⟩
    go_wp2_with fail
    refine (aD (g := gg) (iT _ x.f3 (ar _) GD1.out.2.2.2.2.2 A9 c9 gg.W (Kd.aF K.out.2.2.2.1 (G.deep (g := g) gg)) K.out.2.2.1)).mono ?_
    rintro _ _ ⟨rfl, gg, rfl⟩
    go_wp2_with fail
    obtain ⟨m2, hm2⟩ : ∃ r, r = min (m1 + aK x.f3) 65537 := ⟨_, rfl⟩
    have HM2 := I hm2
    clear hm2
    refine (aD (g := gg) (eL _ (m1 + aK x.f3) m2 (gZ (by have := GD1.out; have := hm1b.out; omega)) HM2.out _)).mono ?_
    rintro _ _ ⟨rfl, gg, rfl⟩
    go_wp2_with fail
    refine ⟨⟨k + 1, mkG (G.deep (g := g) gg), by go_num, ⟨m2, rfl, ?_⟩, rfl, by omega⟩, by simp [intOf]; omega⟩
    obtain ⟨e1, e2, e3⟩ := M.out
    have e4 := HM2.out
    rw [e3, H0.out, if_pos rfl]
    omega
   ·rw [h0] at q0
    have H0 := I h0
    clear h0
    go_wp2_with fail
    refine (qO (eL _ (m + 1) m1 hz1.out M.out.2.1 _)).mono ?_
    rintro _ _ ⟨rfl, gg, rfl⟩
    obtain ⟨m2, hm2⟩ : ∃ r, r = min (m1 + aK x.f2 + aK x.f3) 65537 := ⟨_, rfl⟩
    have HM2 := I hm2
    clear hm2
    have B := I (ae hm1b.out GD1.out)
    have E1 := I (gZ (a := m1) (b := aK x.f2) (by have := B.out; omega))
    have E2 := I (gZ (a := m1 + aK x.f2) (b := aK x.f3) (by have := B.out; omega))
    go_upto_region 11 with (fail)
    refine aP (g := gg) (by kernel_rfl) (by kernel_rfl) ?_
    repeat (go_big_quiet_step (fail))
    go_big_quiet_step (first | (go_at_call 230; exact aD (iT _ x.f2 (ar _) GD1.out.2.2.2.2.1 A5 c5 _ (Kd.aF K.out.2.1 (G.deep (g := g) _)) K.out.1)))
    repeat (go_big_quiet_step (fail))
    go_big_quiet_step (first | (go_at_call 230; exact aD (iT _ x.f3 (ar _) GD1.out.2.2.2.2.2 A9 c9 _ (Kd.aF K.out.2.2.2.1 (G.deep (g := g) _)) K.out.2.2.1)))
    repeat (go_big_quiet_step (fail))
    go_big_quiet_step (first | (go_at_call 229; exact aD (eL _ (m1 + aK x.f2 + aK x.f3) m2 (by rw [E1.out, E2.out]) HM2.out _)))
    repeat (go_big_quiet_step (fail))
    refine wpQuiet_nil ?_
    rintro _ ⟨gg, rfl⟩
    go_wp2_with fail
    refine ⟨⟨k + 1, mkG (G.deep (g := g) gg), by go_num, ⟨m2, rfl, ?_⟩, rfl, by omega⟩, by simp [intOf]; omega⟩
    obtain ⟨e1, e2, e3⟩ := M.out
    have e4 := HM2.out
    rw [e3, H0.out, if_neg (by decide), if_pos rfl]
    omega
   ·rw [h0] at q0
    have H0 := I h0
    clear h0
    go_wp2_with fail
    refine (qO (eL _ (m + 1) m1 hz1.out M.out.2.1 _)).mono ?_
    rintro _ _ ⟨rfl, gg, rfl⟩
    obtain ⟨s1, hs1⟩ : ∃ r, r = min (bR x.f6) 65537 := ⟨_, rfl⟩
    obtain ⟨s2, hs2⟩ : ∃ r, r = min (bR x.f7) 65537 := ⟨_, rfl⟩
    obtain ⟨m2, hm2⟩ : ∃ r, r = min (m1 + aK x.f3 + s1 + s2) 65537 := ⟨_, rfl⟩
    have HM2 := I (ae hm2 (ae hs1 hs2))
    have SB := I (show s1 <= 65537 /\ s2 <= 65537 by omega)
    clear hm2 hs1 hs2
    have B := I (ae hm1b.out GD1.out)
    have E1 := I (gZ (a := m1) (b := aK x.f3) (by have := B.out; omega))
    have E2 := I (gZ (a := m1 + aK x.f3) (b := s1) (by have := B.out; have := SB.out; omega))
    have E3 := I (gZ (a := m1 + aK x.f3 + s1) (b := s2) (by have := B.out; have := SB.out; omega))
    go_upto_region 13 with (fail)
    refine aP (g := gg) (by kernel_rfl) (by kernel_rfl) ?_
    repeat (go_big_quiet_step (fail))
    go_big_quiet_step (first | (go_at_call 230; exact aD (iT _ x.f3 (ar _) GD1.out.2.2.2.2.2 A9 c9 _ (Kd.aF K.out.2.2.2.1 (G.deep (g := g) _)) K.out.2.2.1)))
    repeat (go_big_quiet_step (fail))
    go_big_quiet_step (first | (go_at_call 147; exact aD (lN IH1.out.1 HM2.out.2.1 A12 c12 _ (Kd.aF K.out.2.2.2.2.2.1 (G.deep (g := g) _)) K.out.2.2.2.2.1)))
    repeat (go_big_quiet_step (fail))
    go_big_quiet_step (first | (go_at_call 147; exact aD (lN IH1.out.2 HM2.out.2.2 A13 c13 _ (Kd.aF K.out.2.2.2.2.2.2.2 (G.deep (g := g) _)) K.out.2.2.2.2.2.2.1)))
    repeat (go_big_quiet_step (fail))
    go_big_quiet_step (first | (go_at_call 229; exact aD (eL _ (m1 + aK x.f3 + s1 + s2) m2 (by rw [E1.out, E2.out, E3.out]) HM2.out.1 _)))
    repeat (go_big_quiet_step (fail))
    refine wpQuiet_nil ?_
    rintro _ ⟨gg, rfl⟩
    go_wp2_with fail
    refine ⟨⟨k + 1, mkG (G.deep (g := g) gg), by go_num, ⟨m2, rfl, ?_⟩, rfl, by omega⟩, by simp [intOf]; omega⟩
    obtain ⟨e1, e2, e3⟩ := M.out
    obtain ⟨e4, e5, e6⟩ := HM2.out
    rw [e3, H0.out, if_neg (by decide), if_neg (by decide), if_pos rfl]
    omega
   ·rw [h0] at q0
    have H0 := I h0
    clear h0
    go_wp2_with fail
    refine (qO (eL _ (m + 1) m1 hz1.out M.out.2.1 _)).mono ?_
    rintro _ _ ⟨rfl, gg, rfl⟩
    rcases cu x.f4 x.f5 with h5 | h5
    ·obtain ⟨t0, ht0⟩ : ∃ t0 : Nat, (x.f5 - x.f4).toNat = t0 := ⟨_, rfl⟩
     have H5 := I (ae h5 ht0)
     have hw : IntKind.u64.wrap (x.f5 - x.f4) = (t0 : Int) := by
      have := GD1.out
      rw [<- ht0, Int.toNat_of_nonneg (by omega)]
      simp only [IntKind.wrap, ik, jg, jb, jv, if_false]
      omega
     obtain ⟨s1, hs1⟩ : ∃ r, r = min (bR x.f6) 65537 := ⟨_, rfl⟩
     have HS := I hs1
     have SB := I (show s1 <= 65537 by omega)
     clear hs1 ht0
     rcases gj 65536 t0 with h7 | h7
     ·have h8 : (65536 : Int) < (t0 : Int) := by omega
      have H7 := I h7
      clear h7
      obtain ⟨m2, hm2⟩ : ∃ r, r = min (m1 + 65537 * (1 + s1)) 65537 := ⟨_, rfl⟩
      have HM2 := I hm2
      clear hm2
      go_wp2_with fail
      refine (aD (g := gg) (lN IH1.out.1 HS.out A12 c12 gg.W (Kd.aF K.out.2.2.2.2.2.1 (G.deep (g := g) gg)) K.out.2.2.2.2.1)).mono ?_
      rintro _ _ ⟨rfl, gg, rfl⟩
      go_wp2_with fail
      refine (aD (g := gg) (eL _ (m1 + 65537 * (1 + s1)) m2 (for_sum m1 65537 s1 hm1b.out (by decide) SB.out) HM2.out _)).mono ?_
      rintro _ _ ⟨rfl, gg, rfl⟩
      go_wp2_with fail
      refine ⟨⟨k + 1, mkG (G.deep (g := g) gg), by go_num, ⟨m2, rfl, ?_⟩, rfl, by omega⟩, by simp [intOf]; omega⟩
      obtain ⟨e1, e2, e3⟩ := M.out
      rw [e3, H0.out, if_neg (by decide), if_neg (by decide), if_neg (by decide), if_pos rfl, H5.out.2, HM2.out, HS.out]
      have fc := for_cut (bR (l.take k) + 1) t0 (bR x.f6) 65537 (by decide)
      rw [iw (by have := H7.out; omega : 65537 <= t0)] at fc
      rw [show m1 = min (bR (l.take k) + 1) 65537 by omega, fc, ic]
     ·have h8 : ¬ (65536 : Int) < (t0 : Int) := by omega
      have H7 := I h7
      have hc : wrap64 (t0 : Int) = (t0 : Int) := jD (by omega) (by omega)
      clear h7
      obtain ⟨m2, hm2⟩ : ∃ r, r = min (m1 + t0 * (1 + s1)) 65537 := ⟨_, rfl⟩
      have HM2 := I hm2
      clear hm2
      go_wp2_with fail
      refine (aD (g := gg) (lN IH1.out.1 HS.out A12 c12 gg.W (Kd.aF K.out.2.2.2.2.2.1 (G.deep (g := g) gg)) K.out.2.2.2.2.1)).mono ?_
      rintro _ _ ⟨rfl, gg, rfl⟩
      go_wp2_with fail
      refine (aD (g := gg) (eL _ (m1 + t0 * (1 + s1)) m2 (for_sum m1 t0 s1 hm1b.out (by have := H7.out; omega) SB.out) HM2.out _)).mono ?_
      rintro _ _ ⟨rfl, gg, rfl⟩
      go_wp2_with fail
      refine ⟨⟨k + 1, mkG (G.deep (g := g) gg), by go_num, ⟨m2, rfl, ?_⟩, rfl, by omega⟩, by simp [intOf]; omega⟩
      obtain ⟨e1, e2, e3⟩ := M.out
      rw [e3, H0.out, if_neg (by decide), if_neg (by decide), if_neg (by decide), if_pos rfl, H5.out.2, HM2.out, HS.out]
      have fc := for_cut (bR (l.take k) + 1) t0 (bR x.f6) 65537 (by decide)
      rw [cy (by have := H7.out; omega : t0 <= 65537)] at fc
      rw [show m1 = min (bR (l.take k) + 1) 65537 by omega, fc, ic]
    ·have h6 : ¬ x.f4 < x.f5 := by omega
     have H5 := I h5
     clear h5
     go_wp2_with fail
     refine ⟨⟨k + 1, mkG (G.deep (g := g) gg), by go_num, ⟨m1, rfl, ?_⟩, rfl, by omega⟩, by simp [intOf]; omega⟩
     obtain ⟨e1, e2, e3⟩ := M.out
     rw [e3, H0.out, if_neg (by decide), if_neg (by decide), if_neg (by decide), if_pos rfl, Int.toNat_of_nonpos (by have := H5.out; omega)]
     omega
   ·have H1 := I (ae h1 (ae h2 (ae h3 h4)))
    have b1 : (x.f0 == 1) = J := by simpa using h1
    have b2 : (x.f0 == 2) = J := by simpa using h2
    have b3 : (x.f0 == 3) = J := by simpa using h3
    have b4 : (x.f0 == 4) = J := by simpa using h4
    go_wp2_with fail
    refine (qO (eL _ (m + 1) m1 hz1.out M.out.2.1 _)).mono ?_
    rintro _ _ ⟨rfl, gg, rfl⟩
    go_wp2_with fail
    refine ⟨⟨k + 1, mkG (G.deep (g := g) gg), by go_num, ⟨m1, rfl, ?_⟩, rfl, by omega⟩, by simp [intOf]; omega⟩
    obtain ⟨e1, e2, e3⟩ := M.out
    obtain ⟨f1, f2, f3, f4⟩ := H1.out
    rw [e3, if_neg f1, if_neg f2, if_neg f3, if_neg f4]
    omega
  ·go_wp2_with fail
   go_ret
   refine ⟨?_, g.below⟩
   rw [hm, show k = l.length by omega, di]
   rfl
end
section
attribute [local go_sem] G.cell
theorem refSize_calls : ∀ (n : Nat) (l : List S119), cd l <= n -> Ot.kG l -> Ot.bW l <= 1048576 -> SizeC 147 65537 l := by
 intro n
 induction n with
 | zero => intro l h; cases l <;> simp at h <;> omega
 | succ n ih =>
   intro l h hg hb
   refine refSize_walk l (fun x hx => ?_) fun x hx => ?_
   ·have h1 := (Ot.cO l).1 hg x hx
    have h2 := gG hx
    have h3 := bH x
    have h4 := aS x.f2
    have h5 := aS x.f3
    obtain ⟨a, b, c, d, e, f, g, k⟩ := x
    rw [Ot.jE] at h1
    have h6 := okU_b h1.2.2.2.2.1
    have h7 := okU_b h1.2.2.2.2.2.1
    exact ⟨h6.1, h7.1, h6.2, h7.2, by omega, by omega⟩
   ·have h1 := eu hx
    have h2 := (Ot.cO l).1 hg x hx
    have h3 := gG hx
    have h4 := bH x
    obtain ⟨a, b, c, d, e, f, g, k⟩ := x
    rw [Ot.jE] at h2
    simp only [S119.mk.sizeOf_spec] at h1
    exact ⟨ih _ (by show cd g <= n; omega) h2.2.2.2.2.2.2.2.2.1 (by show Ot.bW g <= 1048576; simp only at h4; omega), ih _ (by show cd k <= n; omega) h2.2.2.2.2.2.2.2.2.2 (by show Ot.bW k <= 1048576; simp only at h4; omega)⟩
theorem Li.at {W0 w : World} {A : Option Addr} {n c : Nat} {xs : List Th} (h : Li 125 W0 w (.slice A n c) xs) {i : Nat} (hi : i < xs.length) : ∃ b A5 c5 A9 c9 A12 c12 A13 c13 A19 c19 A21 c21, A = ac ⟨b, 0, ag⟩ /\
 w.rangeAt b (i * 22) [.int .i64 (aY (bM xs i)).is, .int .i64 (aY (bM xs i)).d, .int .i64 (aY (bM xs i)).s.f0, .string (aY (bM xs i)).s.f1, .int .i64 (aY (bM xs i)).s.f2.f0, .int .u64 (aY (bM xs i)).s.f2.f1, .string (aY (bM xs i)).s.f2.f2, .slice A5 (aY (bM xs i)).s.f2.f3.length c5, .int .i64 (aY (bM xs i)).s.f3.f0, .int .u64 (aY (bM xs i)).s.f3.f1, .string (aY (bM xs i)).s.f3.f2, .slice A9 (aY (bM xs i)).s.f3.f3.length c9, .int .u64 (aY (bM xs i)).s.f4, .int .u64 (aY (bM xs i)).s.f5, .slice A12 (aY (bM xs i)).s.f6.length c12, .slice A13 (aY (bM xs i)).s.f7.length c13, .int .i64 (aY (bM xs i)).e.f0, .int .u64 (aY (bM xs i)).e.f1, .string (aY (bM xs i)).e.f2, .slice A19 (aY (bM xs i)).e.f3.length c19, .int .i64 (aY (bM xs i)).deep, .slice A21 (aY (bM xs i)).loops.length c21] /\ (aY (bM xs i)).loops.length <= c21 /\ Kd.string.C w A21 (aY (bM xs i)).loops.length (aY (bM xs i)).loops := by
 obtain ⟨A', c', e', l', hC⟩ := Kd.d7 h
 obtain ⟨_, inner, ho, _⟩ := h
 rcases ho.2 with ⟨_, hn⟩ | ⟨g, cap, cur, e, _⟩
 ·simp at hn
  rw [hn] at hi
  exact absurd hi (cq _)
 ·injection e with e1 e2 e3
  injection e' with e4 e5 e6
  subst e1 e4
  obtain ⟨ad, cs, eA, el, hK, hc⟩ := Kd.oI hC (aY (.decl 0)) (i : Int) (bc _) (by simp; omega)
  injection eA with eA
  subst eA
  have ex : (xs.map aY).getD (i : Int).toNat (aY (.decl 0)) = aY (bM xs i) := by
   unfold bM
   rw [av, au, au, kg, az hi]
   rfl
  rw [ex] at hK
  obtain ⟨A5, c5, A9, c9, A12, c12, A13, c13, A19, c19, A21, c21, ecs, _, _, _, _, _, _, _, _, _, _, l21, g21⟩ := kTh_open hK
  subst ecs
  refine ⟨g, A5, c5, A9, c9, A12, c12, A13, c13, A19, c19, A21, c21, rfl, fun j u hj => ?_, l21, g21⟩
  have := hc j u hj
  rw [Addr.add_mid, av, Nat.zero_add] at this
  exact this
theorem Li.len {W0 w : World} {A : Option Addr} {n c : Nat} {xs : List Th} (h : Li 125 W0 w (.slice A n c) xs) : n = xs.length := by
 obtain ⟨A', c', e', l', hC⟩ := Kd.d7 h
 injection e' with e4 e5 e6
 rw [e5]; simp
theorem rangeAt_in {w W : World} {b o : Nat} {cs : List Value} (h : Below w.heap.size w W) (hr : w.rangeAt b o cs) : W.rangeAt b o cs := fun j v hj => aE h (hr j v hj)
structure PGood (nm : ByteArray) (wd ln : Int) (ds : List S70) (bd : List S119) : Prop where
 good : Ot.GoodP ⟨nm, wd, ln, ds, bd⟩
 bulk : Ot.bulkP ⟨nm, wd, ln, ds, bd⟩ <= 1048576
theorem okI_b {n : Int} (h : Ot.okI n) : -9223372036854775808 <= n /\ n <= 9223372036854775807 := by
 unfold Ot.okI at h
 simp [Lit.wf, IntKind.min, IntKind.max, ik, jg] at h
 omega
theorem ds_bulk (ds : List S70) : ds.length <= (ds.map Ot.bulkD).sum := by
 induction ds with
 | nil => simp
 | cons d r ih => simp [Ot.bulkD]; omega
theorem PGood.sizes {nm : ByteArray} {wd ln : Int} {ds : List S70} {bd : List S119} (h : PGood nm wd ln ds bd) : ds.length <= 1048576 /\ Ot.bW bd <= 1048576 := by
 have h1 := h.bulk
 have h2 := ds_bulk ds
 simp only [Ot.bulkP] at h1
 omega
theorem errC_ne (c : Nat) : oT c ≠ 0 := by unfold oT; (repeat (first | split | decide))
theorem iH {a b c : Int} {r : Ans} (h : r = ⟨a, b, c⟩) : fw (.tuple #[.int .i64 a, .int .i64 b, .int .i64 c]) = .returned (.tuple #[.int .i64 r.c, .int .i64 r.at', .int .i64 r.e]) := by rw [h]
set_option maxRecDepth 100000 in
theorem refFault_calls (nm : ByteArray) (wd ln : Int) (ds : List S70) (bd : List S119) (A3 : Option Addr) (c3 : Nat) (A4 : Option Addr) (c4 : Nat) (w : World) (hp : ProgAt w ds bd A3 c3 A4 c4) (hg : PGood nm wd ln ds bd) (r : Ans) (hr : r = bJ nm wd ln ds bd) :
 Calls ak 109 #[(.agg #[.string nm, .int .i64 wd, .int .i64 ln, .slice A3 ds.length c3, .slice A4 bd.length c4])] w fun e w' => e = .returned (.tuple #[.int .i64 r.c, .int .i64 r.at', .int .i64 r.e]) /\ Below w.heap.size w w' := by
 have gout := @gA w
 have PAt := I hp
 have HR := I hr
 have HG := I hg
 clear hp hr hg
 go_enter Tryz.func109, Tryz.ntmps109
 go_upto_region 1 with (fail)
 refine aH ?_
 intro gg
 obtain ⟨hd, hhd⟩ : ∃ z, z = oC nm wd ln ds bd := ⟨_, rfl⟩
 have HHD := I hhd
 clear hhd
 go_wp2_with fail
 refine (aD (g := gg) (head_calls nm wd ln ds bd A3 c3 A4 c4 gg.W (PAt.out.below (gout gg)) (by have := (okI_b HG.out.good.ln).2; simp only at this; omega) hd HHD.out)).mono ?_
 rintro _ _ ⟨rfl, gg, rfl⟩
 have HE := I (headS_e (nm := nm) (wd := wd) (ln := ln) (ds := ds) (bd := bd))
 by_cases h2 : hd.2 = 0
 rotate_left
 ·have H2 := I h2
  have b2 := bn h2
  clear h2
  go_wp2_with fail
  go_ret3
  refine ⟨iH ?_, gout _⟩
  rcases HE.out with ⟨h, _⟩ | ⟨_, h⟩
  ·exact absurd (HHD.out ▸ h) H2.out
  ·rw [HR.out, h, HHD.out]
 have H2 := I h2
 have b2 : (hd.2 != 0) = J := by simp [h2]
 clear h2
 obtain ⟨hF, hW, hP, hL, hS⟩ : dG nm wd ln ds bd = af /\ cV wd = af /\ cZ ln = af /\ ds.length <= 256 /\ bJ nm wd ln ds bd = eZ wd ds bd := by
  rcases HE.out with ⟨_, h⟩ | ⟨h, _⟩
  ·exact h
  ·exact absurd (HHD.out ▸ H2.out) h
 have FF := I (nA hF)
 have HS := I hS
 have HL := I hL
 clear hF hW hP hL hS
 obtain ⟨dd, hdd⟩ : ∃ z, z = lF wd ds := ⟨_, rfl⟩
 have HDD := I hdd
 clear hdd
 go_wp2_with fail
 refine (aD (g := gg) (decls_calls nm wd ln ds bd A3 c3 A4 c4 gg.W (PAt.out.below (gout gg)) FF.out.1 (fun d hd => ⟨FF.out.2.2.1 d hd, by have := (okI_b (HG.out.good.ds d hd).2.2.1).2; omega, fun v hv => (okU_b ((HG.out.good.ds d hd).2.2.2.2 v hv)).1⟩) HL.out dd HDD.out)).mono ?_
 rintro _ _ ⟨rfl, gg, rfl⟩
 have DE := I (declS_e (wd := wd) (ds := ds) (bd := bd))
 by_cases h3 : dd.e = 0
 rotate_left
 ·have H3 := I h3
  have b3 := bn h3
  clear h3
  go_wp2_with fail
  go_ret3
  refine ⟨iH ?_, gout _⟩
  rcases DE.out with ⟨h, _⟩ | ⟨_, h⟩
  ·exact absurd (HDD.out ▸ h) H3.out
  ·rw [HR.out, HS.out, h, <- HDD.out]
 have H3 := I h3
 have b3 : (dd.e != 0) = J := by simp [h3]
 clear h3
 have HC := I (show r = dH wd ds bd (things ds bd) 6 by
  rcases DE.out with ⟨_, h⟩ | ⟨h, _⟩
  ·rw [HR.out, HS.out, h]
  ·exact absurd (HDD.out ▸ H3.out) h)
 go_wp2_with fail
 have CL := List_calls nm wd ln ds bd A3 c3 A4 c4 gg.W HG.out.sizes.1 (Kd.aF PAt.out.hb (gout gg)) PAt.out.hlb HG.out.sizes.2
 refine CL.mono ?_
 clear CL
 rintro _ w2 ⟨v1, rfl, hLi, hB⟩
 obtain ⟨AL, cL, rfl⟩ := Kd.cD hLi
 have hlen := Li.len hLi
 rw [hlen] at hLi ⊢
 have HLi := I hLi
 have HB := I ((gout gg).trans (hB.mono (gout gg).size))
 have hszw : w.heap.size < w2.heap.size := bq (bq (by simp [gw0]) gg.below.size) hB.size
 have bx : ∀ j, w2.cell? ⟨w.heap.size, j, ag⟩ = (gw0 gg).cell? ⟨w.heap.size, j, ag⟩ := fun j => (hB.cell (p := ⟨w.heap.size, j, ag⟩) (bq (by simp [gw0]) gg.below.size)).trans (gg.below.cell (p := ⟨w.heap.size, j, ag⟩) (by simp [gw0]))
 have x0 : w2.cell? ⟨w.heap.size, 0, ag⟩ = ac (.string nm) := (bx 0).trans (by simp [gw0, go_sem])
 have x1 : w2.cell? ⟨w.heap.size, 1, ag⟩ = ac (.int .i64 wd) := (bx 1).trans (by simp [gw0, go_sem])
 have x2 : w2.cell? ⟨w.heap.size, 2, ag⟩ = ac (.int .i64 ln) := (bx 2).trans (by simp [gw0, go_sem])
 have x3 : w2.cell? ⟨w.heap.size, 3, ag⟩ = ac (.slice A3 ds.length c3) := (bx 3).trans (by simp [gw0, go_sem])
 have x4 : w2.cell? ⟨w.heap.size, 4, ag⟩ = ac (.slice A4 bd.length c4) := (bx 4).trans (by simp [gw0, go_sem])
 clear hLi hB hlen bx
 have hlb : (things ds bd).length <= 4194304 := by
  unfold things
  have h1 := cY bd 1 []
  have h2 := HG.out.sizes
  simp
  omega
 go_wp2_with fail
 go_loopw [9] (fun i W => ∃ (c : Nat) (g : G w2), i = .int .i64 c /\ W = g.W /\ 10 <= c /\ c <= 16 /\ Aside0 (∀ c', 10 <= c' -> c' < c -> ∀ j, j < (things ds bd).length -> nC wd ds c' (bM (things ds bd) j) = J)) (fun i _ => 16 - (intOf i).toNat)
 case atStart => exact ⟨10, ⟨w2, aq _ _⟩, rfl, rfl, ar _, by omega, ⟨fun c' h1 h2 => by omega⟩⟩
 case round =>
  obtain ⟨c, g, rfl, rfl, h10, h16, HK⟩ := hrel
  by_cases hc : c <= 15
  ·have hc' : (c : Int) <= 15 := by omega
   go_wp2_with fail
   go_loopw [10] (fun i W => ∃ (k : Nat) (g : G w2), i = .int .i64 k /\ W = g.W /\ k <= (things ds bd).length /\ Aside0 (∀ j, j < k -> nC wd ds c (bM (things ds bd) j) = J)) (fun i _ => (things ds bd).length - (intOf i).toNat)
   case atStart => exact ⟨0, g, rfl, rfl, bi _, ⟨fun j hj => absurd hj (cq _)⟩⟩
   case round =>
    obtain ⟨k, g, rfl, rfl, hk, HK2⟩ := hrel
    by_cases hlt : k < (things ds bd).length
    ·obtain ⟨bL, A5, c5, A9, c9, A12, c12, A13, c13, A19, c19, A21, c21, eA, hrg, l21, g21⟩ := Li.at HLi.out hlt
     subst eA
     have HRG := I hrg
     have KL := I (ae l21 g21)
     clear hrg l21 g21
     have hk1 : (k : Int) < ((things ds bd).length : Int) := by omega
     have hgt := I (qL (ds := ds) (HG.out.good.bd) (bM (things ds bd) k) (by unfold bM; rw [au, az hlt]; exact ef _))
     obtain ⟨z, hz⟩ : ∃ z, z = if nC wd ds c (bM (things ds bd) k) = af then oT c else 0 := ⟨_, rfl⟩
     have HZ := I hz
     clear hz
     rcases aJ (nC wd ds c (bM (things ds bd) k)) with hy | hy
     ·have HY := I hy
      have HZ2 := I (show z = oT c by rw [HZ.out, if_pos hy])
      have bz : (z != 0) = af := bn (by rw [HZ2.out]; exact errC_ne c)
      clear hy
      go_upto_region 14 with (fail)
      refine fZ (n := 8) (S := fun w' => ∃ g' : G w2, w' = g'.W) (ds := []) #[J, J, J, J, J, J, J, J] (by kernel_rfl) rfl rfl ⟨mkG (g.2.drew), rfl⟩ (fun hHeld => ?_)
      obtain ⟨gd, hgd⟩ := hHeld
      rw [hgd]
      clear hgd
      refine bB (i := 1) (N := ac 45) (v := ?_) (a' := ?_) #[J, af, J, J, J, J, J, J] rfl rfl (by kernel_rfl) (fun _ _ _ h => h) (bg ⟨by rfl, ?_⟩) ?_ ?_
      rotate_left
      ·intro w'
       go_simp
       with_reducible rfl
      rotate_left
      ·simp only [ax, aa, ah, ai, aN, aM]
       rfl
      refine bB (i := 2) (N := ac 46) (v := ?_) (a' := ?_) #[J, af, af, J, J, J, J, J] rfl rfl (by kernel_rfl) (fun _ _ _ h => h) (bg ⟨by rfl, ?_⟩) ?_ ?_
      rotate_left
      ·intro w'
       go_simp
       with_reducible rfl
      rotate_left
      ·simp only [ax, aa, ah, ai, aN, aM]
       rfl
      refine bB (i := 3) (N := ac 47) (v := ?_) (a' := ?_) #[J, af, af, af, J, J, J, J] rfl rfl (by kernel_rfl) (fun _ _ _ h => h) (bg ⟨by rfl, ?_⟩) ?_ ?_
      rotate_left
      ·intro w'
       go_simp
       with_reducible rfl
      rotate_left
      ·simp only [ax, aa, ah, ai, aN, aM]
       rfl
      refine bB (i := 5) (N := ac 49) (v := ?_) (a' := ?_) #[J, af, af, af, J, af, J, J] rfl rfl (by kernel_rfl) (fun _ _ _ h => h) (bg ⟨by rfl, ?_⟩) ?_ ?_
      rotate_left
      ·intro w'
       go_simp
       with_reducible rfl
      rotate_left
      ·simp only [ax, aa, ah, ai, aN, aM]
       rfl
      refine dP (i := 0) (N := ac 44) (v := ?_) (a' := ?_) #[af, af, af, af, J, af, J, J] rfl rfl (by kernel_rfl) (fun _ _ _ h => h) (bg ⟨by rfl, ?_⟩) ⟨gd, rfl⟩ ?_ ?_
      rotate_left
      ·rintro w' ⟨g', rfl⟩
       go_simp
       with_reducible rfl
      rotate_left
      ·simp only [ax, aa, ah, ai, aN, aM]
       rfl
      refine dP (i := 4) (N := ac 48) (v := .agg #[.int .i64 (aY (bM (things ds bd) k)).is, .int .i64 (aY (bM (things ds bd) k)).d, .int .i64 (aY (bM (things ds bd) k)).s.f0, .string (aY (bM (things ds bd) k)).s.f1, .int .i64 (aY (bM (things ds bd) k)).s.f2.f0, .int .u64 (aY (bM (things ds bd) k)).s.f2.f1, .string (aY (bM (things ds bd) k)).s.f2.f2, .slice A5 (aY (bM (things ds bd) k)).s.f2.f3.length c5, .int .i64 (aY (bM (things ds bd) k)).s.f3.f0, .int .u64 (aY (bM (things ds bd) k)).s.f3.f1, .string (aY (bM (things ds bd) k)).s.f3.f2, .slice A9 (aY (bM (things ds bd) k)).s.f3.f3.length c9, .int .u64 (aY (bM (things ds bd) k)).s.f4, .int .u64 (aY (bM (things ds bd) k)).s.f5, .slice A12 (aY (bM (things ds bd) k)).s.f6.length c12, .slice A13 (aY (bM (things ds bd) k)).s.f7.length c13, .int .i64 (aY (bM (things ds bd) k)).e.f0, .int .u64 (aY (bM (things ds bd) k)).e.f1, .string (aY (bM (things ds bd) k)).e.f2, .slice A19 (aY (bM (things ds bd) k)).e.f3.length c19, .int .i64 (aY (bM (things ds bd) k)).deep, .slice A21 (aY (bM (things ds bd) k)).loops.length c21]) (a' := ?_) #[af, af, af, af, af, af, J, J] rfl rfl (by kernel_rfl) (fun _ _ _ h => h) (yieldsIf_load_mid (by rfl) 125 (.tmp 47) rfl bL (k * 22) ?_ [.int .i64 (aY (bM (things ds bd) k)).is, .int .i64 (aY (bM (things ds bd) k)).d, .int .i64 (aY (bM (things ds bd) k)).s.f0, .string (aY (bM (things ds bd) k)).s.f1, .int .i64 (aY (bM (things ds bd) k)).s.f2.f0, .int .u64 (aY (bM (things ds bd) k)).s.f2.f1, .string (aY (bM (things ds bd) k)).s.f2.f2, .slice A5 (aY (bM (things ds bd) k)).s.f2.f3.length c5, .int .i64 (aY (bM (things ds bd) k)).s.f3.f0, .int .u64 (aY (bM (things ds bd) k)).s.f3.f1, .string (aY (bM (things ds bd) k)).s.f3.f2, .slice A9 (aY (bM (things ds bd) k)).s.f3.f3.length c9, .int .u64 (aY (bM (things ds bd) k)).s.f4, .int .u64 (aY (bM (things ds bd) k)).s.f5, .slice A12 (aY (bM (things ds bd) k)).s.f6.length c12, .slice A13 (aY (bM (things ds bd) k)).s.f7.length c13, .int .i64 (aY (bM (things ds bd) k)).e.f0, .int .u64 (aY (bM (things ds bd) k)).e.f1, .string (aY (bM (things ds bd) k)).e.f2, .slice A19 (aY (bM (things ds bd) k)).e.f3.length c19, .int .i64 (aY (bM (things ds bd) k)).deep, .slice A21 (aY (bM (things ds bd) k)).loops.length c21] _ (fun w' hw' => by obtain ⟨g', rfl⟩ := hw'; exact rangeAt_in g'.below HRG.out) ew rfl (by kernel_rfl)) ⟨gd, rfl⟩ ?_ ?_
      ·first | rfl | (simp [Act.eval, Addr.add_mid]; done)
      rotate_left
      ·simp only [ax, aa, ah, ai, aN, aM]
       rfl
      refine kJ (i := 6) (N := ac 50) #[af, af, af, af, af, af, af, J] rfl rfl (by kernel_rfl) (by simp) (fun K hK => ?_)
      refine j5 Tryz.func146 (by kernel_rfl) rfl #[.agg #[.string nm, .int .i64 wd, .int .i64 ln, .slice A3 ds.length c3, .slice A4 bd.length c4], (.agg #[.int .i64 (aY (bM (things ds bd) k)).is, .int .i64 (aY (bM (things ds bd) k)).d, .int .i64 (aY (bM (things ds bd) k)).s.f0, .string (aY (bM (things ds bd) k)).s.f1, .int .i64 (aY (bM (things ds bd) k)).s.f2.f0, .int .u64 (aY (bM (things ds bd) k)).s.f2.f1, .string (aY (bM (things ds bd) k)).s.f2.f2, .slice A5 (aY (bM (things ds bd) k)).s.f2.f3.length c5, .int .i64 (aY (bM (things ds bd) k)).s.f3.f0, .int .u64 (aY (bM (things ds bd) k)).s.f3.f1, .string (aY (bM (things ds bd) k)).s.f3.f2, .slice A9 (aY (bM (things ds bd) k)).s.f3.f3.length c9, .int .u64 (aY (bM (things ds bd) k)).s.f4, .int .u64 (aY (bM (things ds bd) k)).s.f5, .slice A12 (aY (bM (things ds bd) k)).s.f6.length c12, .slice A13 (aY (bM (things ds bd) k)).s.f7.length c13, .int .i64 (aY (bM (things ds bd) k)).e.f0, .int .u64 (aY (bM (things ds bd) k)).e.f1, .string (aY (bM (things ds bd) k)).e.f2, .slice A19 (aY (bM (things ds bd) k)).e.f3.length c19, .int .i64 (aY (bM (things ds bd) k)).deep, .slice A21 (aY (bM (things ds bd) k)).loops.length c21]), .int .i64 (c : Int)] (by rfl) rfl rfl (by (try simp only [cb, cm, cw]); first | done | rfl) ?_
      refine (viol_v nm wd ln ds bd A3 c3 A4 c4 (bM (things ds bd) k) gd.W (PAt.out.below (HB.out.trans (gd.below.mono HB.out.size))) (Kd.aF KL.out.2 gd.below) KL.out.1 FF.out.1 hgt.out c h10 hc (fun h => HK.out 11 (by omega) (by omega) k hlt) z HZ.out).mono ?_
      rintro _ w9 ⟨rfl, hb⟩
      refine ⟨_, rfl, ?_⟩
      obtain ⟨gd, rfl⟩ : ∃ g' : G _, w9 = g'.W := ⟨mkG (gd.below.trans (hb.mono gd.below.size)), rfl⟩
      clear hb
      refine hK.out _ _ ⟨gd, rfl⟩ (fun _ => ?_)
      clear hK K
      refine cU (a' := ?_) ?_ ?_
      rotate_left
      ·show ax _ (ac 50) _ = _
       simp only [ax, aa, ah, ai, aN, aM]
       rfl
      refine bB (i := 7) (N := ac 11) (v := ?_) (a' := ?_) #[af, af, af, af, af, af, af, af] rfl rfl (by kernel_rfl) (fun _ _ _ h => h) (bg ⟨by rfl, ?_⟩) ?_ ?_
      rotate_left
      ·intro w'
       go_simp
       with_reducible rfl
      rotate_left
      ·simp only [ax, aa, ah, ai, aN, aM]
       rfl
      refine kH (by kernel_rfl) ?_
      go_wp2_with fail
      go_ret3
      exact ⟨iH ((HC.out.trans (faultC_at h10 hc (fun c' h1 h2 j hj => HK.out c' h1 h2 j hj) hlt HY.out HK2.out)).trans (by rw [HZ2.out])), HB.out.trans (gd.below.mono HB.out.size)⟩
     ·have HY := I hy
      have bz : (z != 0) = J := by rw [HZ.out, if_neg (by simp [hy])]; rfl
      clear hy
      go_upto_region 14 with (fail)
      refine fZ (n := 8) (S := fun w' => ∃ g' : G w2, w' = g'.W) (ds := []) #[J, J, J, J, J, J, J, J] (by kernel_rfl) rfl rfl ⟨mkG (g.2.drew), rfl⟩ (fun hHeld => ?_)
      obtain ⟨gd, hgd⟩ := hHeld
      rw [hgd]
      clear hgd
      refine bB (i := 1) (N := ac 45) (v := ?_) (a' := ?_) #[J, af, J, J, J, J, J, J] rfl rfl (by kernel_rfl) (fun _ _ _ h => h) (bg ⟨by rfl, ?_⟩) ?_ ?_
      rotate_left
      ·intro w'
       go_simp
       with_reducible rfl
      rotate_left
      ·simp only [ax, aa, ah, ai, aN, aM]
       rfl
      refine bB (i := 2) (N := ac 46) (v := ?_) (a' := ?_) #[J, af, af, J, J, J, J, J] rfl rfl (by kernel_rfl) (fun _ _ _ h => h) (bg ⟨by rfl, ?_⟩) ?_ ?_
      rotate_left
      ·intro w'
       go_simp
       with_reducible rfl
      rotate_left
      ·simp only [ax, aa, ah, ai, aN, aM]
       rfl
      refine bB (i := 3) (N := ac 47) (v := ?_) (a' := ?_) #[J, af, af, af, J, J, J, J] rfl rfl (by kernel_rfl) (fun _ _ _ h => h) (bg ⟨by rfl, ?_⟩) ?_ ?_
      rotate_left
      ·intro w'
       go_simp
       with_reducible rfl
      rotate_left
      ·simp only [ax, aa, ah, ai, aN, aM]
       rfl
      refine bB (i := 5) (N := ac 49) (v := ?_) (a' := ?_) #[J, af, af, af, J, af, J, J] rfl rfl (by kernel_rfl) (fun _ _ _ h => h) (bg ⟨by rfl, ?_⟩) ?_ ?_
      rotate_left
      ·intro w'
       go_simp
       with_reducible rfl
      rotate_left
      ·simp only [ax, aa, ah, ai, aN, aM]
       rfl
      refine dP (i := 0) (N := ac 44) (v := ?_) (a' := ?_) #[af, af, af, af, J, af, J, J] rfl rfl (by kernel_rfl) (fun _ _ _ h => h) (bg ⟨by rfl, ?_⟩) ⟨gd, rfl⟩ ?_ ?_
      rotate_left
      ·rintro w' ⟨g', rfl⟩
       go_simp
       with_reducible rfl
      rotate_left
      ·simp only [ax, aa, ah, ai, aN, aM]
       rfl
      refine dP (i := 4) (N := ac 48) (v := .agg #[.int .i64 (aY (bM (things ds bd) k)).is, .int .i64 (aY (bM (things ds bd) k)).d, .int .i64 (aY (bM (things ds bd) k)).s.f0, .string (aY (bM (things ds bd) k)).s.f1, .int .i64 (aY (bM (things ds bd) k)).s.f2.f0, .int .u64 (aY (bM (things ds bd) k)).s.f2.f1, .string (aY (bM (things ds bd) k)).s.f2.f2, .slice A5 (aY (bM (things ds bd) k)).s.f2.f3.length c5, .int .i64 (aY (bM (things ds bd) k)).s.f3.f0, .int .u64 (aY (bM (things ds bd) k)).s.f3.f1, .string (aY (bM (things ds bd) k)).s.f3.f2, .slice A9 (aY (bM (things ds bd) k)).s.f3.f3.length c9, .int .u64 (aY (bM (things ds bd) k)).s.f4, .int .u64 (aY (bM (things ds bd) k)).s.f5, .slice A12 (aY (bM (things ds bd) k)).s.f6.length c12, .slice A13 (aY (bM (things ds bd) k)).s.f7.length c13, .int .i64 (aY (bM (things ds bd) k)).e.f0, .int .u64 (aY (bM (things ds bd) k)).e.f1, .string (aY (bM (things ds bd) k)).e.f2, .slice A19 (aY (bM (things ds bd) k)).e.f3.length c19, .int .i64 (aY (bM (things ds bd) k)).deep, .slice A21 (aY (bM (things ds bd) k)).loops.length c21]) (a' := ?_) #[af, af, af, af, af, af, J, J] rfl rfl (by kernel_rfl) (fun _ _ _ h => h) (yieldsIf_load_mid (by rfl) 125 (.tmp 47) rfl bL (k * 22) ?_ [.int .i64 (aY (bM (things ds bd) k)).is, .int .i64 (aY (bM (things ds bd) k)).d, .int .i64 (aY (bM (things ds bd) k)).s.f0, .string (aY (bM (things ds bd) k)).s.f1, .int .i64 (aY (bM (things ds bd) k)).s.f2.f0, .int .u64 (aY (bM (things ds bd) k)).s.f2.f1, .string (aY (bM (things ds bd) k)).s.f2.f2, .slice A5 (aY (bM (things ds bd) k)).s.f2.f3.length c5, .int .i64 (aY (bM (things ds bd) k)).s.f3.f0, .int .u64 (aY (bM (things ds bd) k)).s.f3.f1, .string (aY (bM (things ds bd) k)).s.f3.f2, .slice A9 (aY (bM (things ds bd) k)).s.f3.f3.length c9, .int .u64 (aY (bM (things ds bd) k)).s.f4, .int .u64 (aY (bM (things ds bd) k)).s.f5, .slice A12 (aY (bM (things ds bd) k)).s.f6.length c12, .slice A13 (aY (bM (things ds bd) k)).s.f7.length c13, .int .i64 (aY (bM (things ds bd) k)).e.f0, .int .u64 (aY (bM (things ds bd) k)).e.f1, .string (aY (bM (things ds bd) k)).e.f2, .slice A19 (aY (bM (things ds bd) k)).e.f3.length c19, .int .i64 (aY (bM (things ds bd) k)).deep, .slice A21 (aY (bM (things ds bd) k)).loops.length c21] _ (fun w' hw' => by obtain ⟨g', rfl⟩ := hw'; exact rangeAt_in g'.below HRG.out) ew rfl (by kernel_rfl)) ⟨gd, rfl⟩ ?_ ?_
      ·first | rfl | (simp [Act.eval, Addr.add_mid]; done)
      rotate_left
      ·simp only [ax, aa, ah, ai, aN, aM]
       rfl
      refine kJ (i := 6) (N := ac 50) #[af, af, af, af, af, af, af, J] rfl rfl (by kernel_rfl) (by simp) (fun K hK => ?_)
      refine j5 Tryz.func146 (by kernel_rfl) rfl #[.agg #[.string nm, .int .i64 wd, .int .i64 ln, .slice A3 ds.length c3, .slice A4 bd.length c4], (.agg #[.int .i64 (aY (bM (things ds bd) k)).is, .int .i64 (aY (bM (things ds bd) k)).d, .int .i64 (aY (bM (things ds bd) k)).s.f0, .string (aY (bM (things ds bd) k)).s.f1, .int .i64 (aY (bM (things ds bd) k)).s.f2.f0, .int .u64 (aY (bM (things ds bd) k)).s.f2.f1, .string (aY (bM (things ds bd) k)).s.f2.f2, .slice A5 (aY (bM (things ds bd) k)).s.f2.f3.length c5, .int .i64 (aY (bM (things ds bd) k)).s.f3.f0, .int .u64 (aY (bM (things ds bd) k)).s.f3.f1, .string (aY (bM (things ds bd) k)).s.f3.f2, .slice A9 (aY (bM (things ds bd) k)).s.f3.f3.length c9, .int .u64 (aY (bM (things ds bd) k)).s.f4, .int .u64 (aY (bM (things ds bd) k)).s.f5, .slice A12 (aY (bM (things ds bd) k)).s.f6.length c12, .slice A13 (aY (bM (things ds bd) k)).s.f7.length c13, .int .i64 (aY (bM (things ds bd) k)).e.f0, .int .u64 (aY (bM (things ds bd) k)).e.f1, .string (aY (bM (things ds bd) k)).e.f2, .slice A19 (aY (bM (things ds bd) k)).e.f3.length c19, .int .i64 (aY (bM (things ds bd) k)).deep, .slice A21 (aY (bM (things ds bd) k)).loops.length c21]), .int .i64 (c : Int)] (by rfl) rfl rfl (by (try simp only [cb, cm, cw]); first | done | rfl) ?_
      refine (viol_v nm wd ln ds bd A3 c3 A4 c4 (bM (things ds bd) k) gd.W (PAt.out.below (HB.out.trans (gd.below.mono HB.out.size))) (Kd.aF KL.out.2 gd.below) KL.out.1 FF.out.1 hgt.out c h10 hc (fun h => HK.out 11 (by omega) (by omega) k hlt) z HZ.out).mono ?_
      rintro _ w9 ⟨rfl, hb⟩
      refine ⟨_, rfl, ?_⟩
      obtain ⟨gd, rfl⟩ : ∃ g' : G _, w9 = g'.W := ⟨mkG (gd.below.trans (hb.mono gd.below.size)), rfl⟩
      clear hb
      refine hK.out _ _ ⟨gd, rfl⟩ (fun _ => ?_)
      clear hK K
      refine cU (a' := ?_) ?_ ?_
      rotate_left
      ·show ax _ (ac 50) _ = _
       simp only [ax, aa, ah, ai, aN, aM]
       rfl
      refine bB (i := 7) (N := ac 11) (v := ?_) (a' := ?_) #[af, af, af, af, af, af, af, af] rfl rfl (by kernel_rfl) (fun _ _ _ h => h) (bg ⟨by rfl, ?_⟩) ?_ ?_
      rotate_left
      ·intro w'
       go_simp
       with_reducible rfl
      rotate_left
      ·simp only [ax, aa, ah, ai, aN, aM]
       rfl
      refine kH (by kernel_rfl) ?_
      go_wp2_with fail
      exact ⟨⟨k + 1, gd, by go_num, rfl, by omega, ⟨fun j hj => (gh (j = k)).elim (fun h => h ▸ HY.out) (fun h => HK2.out j (by omega))⟩⟩, by simp [intOf]; omega⟩
    ·have hk1 : ¬ (k : Int) < ((things ds bd).length : Int) := by omega
     go_wp2_with fail
     exact ⟨⟨c + 1, g, by go_num, rfl, by omega, by omega, ⟨fun c' h1 h2 j hj => (gh (c' = c)).elim (fun h => by rw [h]; exact HK2.out j (by omega)) (fun h => HK.out c' h1 (by omega) j hj)⟩⟩, by simp [intOf]; omega⟩
  ·have hc' : ¬ (c : Int) <= 15 := by omega
   have HE2 := I (HC.out.trans (faultC_none (bd := bd) fun c' h1 h2 j hj => HK.out c' h1 (by omega) j hj))
   obtain ⟨m, hm⟩ : ∃ m, m = min (bR bd) 65537 := ⟨_, rfl⟩
   have HM := I hm
   clear hm
   go_wp2_with fail
   refine (aD (g := g) (lN (refSize_calls _ bd (ar _) ((Ot.cO bd).2 HG.out.good.bd) HG.out.sizes.2) HM.out A4 c4 g.W (Kd.aF PAt.out.hb (HB.out.trans (g.below.mono HB.out.size))) PAt.out.hlb)).mono ?_
   rintro _ _ ⟨rfl, g, rfl⟩
   by_cases h7 : 65536 < bR bd
   ·have H7 := I h7
    have hm7 : (65536 : Int) < (m : Int) := by have := HM.out; omega
    clear h7
    go_wp2_with fail
    go_ret3
    exact ⟨iH (by rw [HE2.out, if_pos H7.out]), HB.out.trans (g.below.mono HB.out.size)⟩
   ·have H7 := I h7
    have hm7 : ¬ (65536 : Int) < (m : Int) := by have := HM.out; omega
    clear h7
    go_wp2_with fail
    go_ret3
    exact ⟨iH (by rw [HE2.out, if_neg (by have := H7.out; omega)]), HB.out.trans (g.below.mono HB.out.size)⟩
end
section
attribute [local go_sem] G.cell
set_option maxRecDepth 100000 in
theorem refCheck_calls (nm : ByteArray) (wd ln : Int) (ds : List S70) (bd : List S119) (A3 : Option Addr) (c3 : Nat) (A4 : Option Addr) (c4 : Nat) (w : World) (hp : ProgAt w ds bd A3 c3 A4 c4) (hg : PGood nm wd ln ds bd) (r : Ans) (hr : r = bJ nm wd ln ds bd) :
 Calls ak 50 #[.agg #[.string nm, .int .i64 wd, .int .i64 ln, .slice A3 ds.length c3, .slice A4 bd.length c4]] w fun e w' => e = .returned (.int .i64 r.e) /\ Below w.heap.size w w' := by
 have gout := @gA w
 have PAt := I hp
 have HR := I hr
 have HG := I hg
 clear hp hr hg
 go_enter Tryz.func50, Tryz.ntmps50
 go_upto_region 1 with (fail)
 refine aH ?_
 intro gg
 go_wp2_with fail
 refine (aD (g := gg) (refFault_calls nm wd ln ds bd A3 c3 A4 c4 gg.W (PAt.out.below (gout gg)) HG.out r HR.out)).mono ?_
 rintro _ _ ⟨rfl, gg, rfl⟩
 go_wp2_with fail
 go_ret
 exact ⟨rfl, gout _⟩
def sizeS (cap : Nat) (nm : ByteArray) (wd ln : Int) (ds : List S70) (bd : List S119) : Int × Int :=
 if (bJ nm wd ln ds bd).e = 0 then (((min (bR bd) cap : Nat) : Int), 0) else (0, (bJ nm wd ln ds bd).e)
end
section
attribute [local go_sem] G.cell
def dW (W : World) : Value -> List ByteArray -> Prop
 | v, [] => v = .pointer ag
 | v, nm :: r => ∃ b nx, v = .pointer (ac ⟨b, 0, ag⟩) /\ W.heap[b]? = ac (.cells #[.string nm, nx] 121 (0, 0)) /\ dW W nx r
structure Gw (Wb W W' : World) (b : Nat) : Prop where
 below : Below Wb.heap.size Wb W'
 grown : W.grownBy W' (ac b)
theorem Gw.trans {Wb W W1 W2 : World} {b : Nat} (h : Gw Wb W W1 b) (k : Gw Wb W1 W2 b) : Gw Wb W W2 b :=
 ⟨k.below, ⟨k.grown.os.trans h.grown.os, k.grown.tape.trans h.grown.tape, k.grown.output.trans h.grown.output, bh h.grown.size k.grown.size, fun i hi hn => (k.grown.block i (bq hi h.grown.size) hn).trans (h.grown.block i hi hn)⟩⟩
theorem Gw.of_below {Wb W W1 : World} (b : Nat) (hb : Below Wb.heap.size Wb W) (h : Below W.heap.size W W1) : Gw Wb W W1 b :=
 ⟨hb.trans (h.mono hb.size), ⟨h.os, h.tape, h.output, h.size, fun k hk _ => h.block k hk⟩⟩
theorem dW.step {W W' : World} {b n : Nat} {sv : Value} (hw : W.heap[b]? = ac (.cells #[.int .i64 n, sv] 183 (0, 0))) (hg : W.grownBy W' (ac b)) : ∀ {lo : List ByteArray} {v : Value}, dW W v lo -> dW W' v lo
 | [], v, h => h
 | nm :: r, v, ⟨c, nx, hv, hc, hr⟩ => ⟨c, nx, hv, (hg.block c (aW hc) (fun e => by
    injection e with e
    subst e
    rw [hw] at hc
    injection hc with hc
    injection hc with _ hc
    exact absurd hc (by decide))).trans hc, dW.step hw hg hr⟩
theorem dW.below {W W' : World} (hb : Below W.heap.size W W') : ∀ {lo : List ByteArray} {v : Value}, dW W v lo -> dW W' v lo
 | [], v, h => h
 | nm :: r, v, ⟨c, nx, hv, hc, hr⟩ => ⟨c, nx, hv, aB hc hb, dW.below hb hr⟩
def ExAt (Wb : World) (p : Value) (e : S116) : Prop := ∃ (a : Addr) (A : Option Addr) (c : Nat), p = .pointer (ac ⟨a.block, a.off, ag⟩) /\ Wb.rangeAt a.block a.off [.int .i64 e.f0, .int .u64 e.f1, .string e.f2, .slice A e.f3.length c] /\ e.f3.length <= c /\ cQ.C Wb A e.f3.length e.f3
def StAt (Wb : World) (p : Value) (x : S119) : Prop := ∃ (a : Addr) (A5 : Option Addr) (c5 : Nat) (A9 : Option Addr) (c9 : Nat) (A12 : Option Addr) (c12 : Nat) (A13 : Option Addr) (c13 : Nat), p = .pointer (ac ⟨a.block, a.off, ag⟩) /\
 Wb.rangeAt a.block a.off [.int .i64 x.f0, .string x.f1, .int .i64 x.f2.f0, .int .u64 x.f2.f1, .string x.f2.f2, .slice A5 x.f2.f3.length c5, .int .i64 x.f3.f0, .int .u64 x.f3.f1, .string x.f3.f2, .slice A9 x.f3.f3.length c9, .int .u64 x.f4, .int .u64 x.f5, .slice A12 x.f6.length c12, .slice A13 x.f7.length c13] /\
 x.f2.f3.length <= c5 /\ cQ.C Wb A5 x.f2.f3.length x.f2.f3 /\ x.f3.f3.length <= c9 /\ cQ.C Wb A9 x.f3.f3.length x.f3.f3 /\ x.f6.length <= c12 /\ dC.C Wb A12 x.f6.length x.f6 /\ x.f7.length <= c13 /\ dC.C Wb A13 x.f7.length x.f7
def ThP (Wb W : World) (dp sp ep : Value) (dI : Int) (lp : Value) : Th -> Prop
 | .decl i => (∃ a, dp = .pointer (ac a)) /\ sp = .pointer ag /\ ep = .pointer ag /\ dI = 0 /\ lp = .pointer ag
 | .stmt s d lo => dp = .pointer ag /\ StAt Wb sp s /\ ep = .pointer ag /\ dI = (d : Int) /\ dW W lp lo.reverse
 | .expr e lo => dp = .pointer ag /\ sp = .pointer ag /\ ExAt Wb ep e /\ dI = 0 /\ dW W lp lo.reverse
theorem ThP.below {Wb W W' : World} {dp sp ep : Value} {dI : Int} {lp : Value} {t : Th} (h : ThP Wb W dp sp ep dI lp t) (hb : Below W.heap.size W W') : ThP Wb W' dp sp ep dI lp t := by
 cases t with
 | decl i => exact h
 | stmt s d lo => exact ⟨h.1, h.2.1, h.2.2.1, h.2.2.2.1, h.2.2.2.2.below hb⟩
 | expr e lo => exact ⟨h.1, h.2.1, h.2.2.1, h.2.2.2.1, h.2.2.2.2.below hb⟩
theorem ThP.step {Wb W W' : World} {b n : Nat} {sv : Value} (hw : W.heap[b]? = ac (.cells #[.int .i64 n, sv] 183 (0, 0))) (hg : W.grownBy W' (ac b)) {dp sp ep : Value} {dI : Int} {lp : Value} {t : Th} (h : ThP Wb W dp sp ep dI lp t) : ThP Wb W' dp sp ep dI lp t := by
 cases t with
 | decl i => exact h
 | stmt s d lo => exact ⟨h.1, h.2.1, h.2.2.1, h.2.2.2.1, h.2.2.2.2.step hw hg⟩
 | expr e lo => exact ⟨h.1, h.2.1, h.2.2.1, h.2.2.2.1, h.2.2.2.2.step hw hg⟩
def mP (n : Nat) : List PanicEntry := [{ v := .iface 289 (.agg #[.int .i64 n]), recovered := J }]
def outE (bad : Bool) (n : Nat) : Ending := if bad = af then .panicked (mP n) else .returned (.tuple #[])
def SeeOK (Wb : World) (bw : Nat) (R : Th -> Prop) (f : Th -> Bool) : Prop := ∀ (W : World) (n : Nat) (dp sp ep : Value) (dI : Int) (lp : Value) (t : Th), R t -> Below Wb.heap.size Wb W -> ThP Wb W dp sp ep dI lp t ->
 Calls ak 284 #[.agg #[.int .i64 n, dp, sp, ep, .int .i64 dI, lp], .pointer (ac ⟨bw, 0, ag⟩)] W fun r W' => r = outE (f t) n /\ Below W.heap.size W W'
abbrev seeV (bw : Nat) : Value := .func (.func 284) #[] #[.pointer (ac ⟨bw, 0, ag⟩)]
theorem callP_ {P : Program} {ops : Array Oper} {Q : Exit -> Act -> World -> Prop} {oi : Oper} {N : Option Tmp} {a : Act} {w : World} {K : Act -> World -> Prop} (f : FuncId) (args : Array Value) (hw : dg oi (yielded ops a.tmps) = af) (hN : oi.dst = N) (hrun : (execOp a.eval oi).run P w = .ok (.enter f args) w)
 (h : Calls P f args w fun e w' => (∃ v, e = .returned v /\ K (a.put N v) w') \/ (∃ c, e = .panicked c /\ Q (.panic c) a w')) : if dg oi (yielded ops a.tmps) = af then jf P oi a w K Q else K (a.put N undef) w := by
 rw [if_pos hw]
 subst hN
 unfold jf
 rw [hrun, Oper.upon_enter]
 refine h.mono fun e w'' hh => ?_
 rcases hh with ⟨v, rfl, hk⟩ | ⟨c, rfl, hk⟩
 ·exact hk
 ·exact hk
set_option maxRecDepth 100000 in
theorem nB {Wb : World} {bw b : Nat} {R : Th -> Prop} {f : Th -> Bool} (hs : SeeOK Wb bw R f) (hbb : Wb.heap.size <= b) (W : World) (n : Nat) (hn : n < 4611686018427387904) (dp sp ep : Value) (n0 dI : Int) (lp : Value) (t : Th) (hR : R t) (hB : Below Wb.heap.size Wb W)
 (hw : W.heap[b]? = ac (.cells #[.int .i64 n, seeV bw] 183 (0, 0))) (ht : ThP Wb W dp sp ep dI lp t) :
 Calls ak 122 #[.pointer (ac ⟨b, 0, ag⟩), .agg #[.int .i64 n0, dp, sp, ep, .int .i64 dI, lp]] W fun r W' => r = outE (f t) n /\ W'.heap[b]? = ac (.cells #[.int .i64 ((n + 1 : Nat) : Int), seeV bw] 183 (0, 0)) /\ Gw Wb W W' b := by
 have c0 : W.cell? ⟨b, 0, ag⟩ = ac (.int .i64 n) := (aA hw 0).trans rfl
 have c1 : W.cell? ⟨b, 1, ag⟩ = ac (seeV bw) := (aA hw 1).trans rfl
 have f0 := aI hw 0
 have hlt := aW hw
 have hw1 : wrap64 ((n : Int) + 1) = ((n + 1 : Nat) : Int) := kT (by omega)
 have HS := I hs
 have HRT := I hR
 clear hR
 have HT := I ht
 have HW := I hw
 have HB := I hB
 have HBB := I hbb
 clear hs ht hw hB hbb
 go_enter Tryz.func122, Tryz.ntmps122
 go_upto_region 3 with (fail)
 refine aH ?_
 intro gg
 have HX := I (show Gw Wb W (gw0 gg) b from ⟨(HB.out.setCell (p := ⟨b, 0, ag⟩) HBB.out _).alloc (bh HB.out.size (by simp [iu])) _, ⟨rfl, rfl, rfl, by simp [gw0, iu], fun i hi hne => by
  rw [gn _ _ _ (by simpa [iu] using hi), dw _ _ _ _ (fun e => hne (by rw [e]))]⟩⟩)
 have HLT := I hlt
 have HXB := I (show (gw0 gg).heap[b]? = ac (.cells #[.int .i64 ((n + 1 : Nat) : Int), seeV bw] 183 (0, 0)) by
  rw [gn _ _ _ (by simpa [iu] using hlt)]
  exact bQ HW.out 0 _ rfl)
 have y1 : ∀ g' : G (gw0 gg), g'.W.cell? ⟨b, 1, ag⟩ = ac (seeV bw) := fun g' => (g'.below.cell (p := ⟨b, 1, ag⟩) (bq HLT.out HX.out.grown.size)).trans ((aA HXB.out 1).trans rfl)
 clear c0 c1 f0 hlt
 refine fZ (n := 6) (S := fun w' => ∃ g' : G (gw0 gg), w' = g'.W) (ds := []) #[J, J, J, J, J, J] (by kernel_rfl) rfl rfl ⟨mkG (gg.2.drew), rfl⟩ (fun hHeld => ?_)
 obtain ⟨gd, hgd⟩ := hHeld
 rw [hgd]
 clear hgd
 refine bB (i := 0) (N := ac 16) (v := ?_) (a' := ?_) #[af, J, J, J, J, J] rfl rfl (by kernel_rfl) (fun _ _ _ h => h) (bg ⟨by rfl, ?_⟩) ?_ ?_
 rotate_left
 ·intro w'
  go_simp
  with_reducible rfl
 rotate_left
 ·simp only [ax, aa, ah, ai, aN, aM]
  rfl
 refine bB (i := 1) (N := ac 17) (v := ?_) (a' := ?_) #[af, af, J, J, J, J] rfl rfl (by kernel_rfl) (fun _ _ _ h => h) (bg ⟨by rfl, ?_⟩) ?_ ?_
 rotate_left
 ·intro w'
  go_simp
  with_reducible rfl
 rotate_left
 ·simp only [ax, aa, ah, ai, aN, aM]
  rfl
 refine bB (i := 2) (N := ac 18) (v := ?_) (a' := ?_) #[af, af, af, J, J, J] rfl rfl (by kernel_rfl) (fun _ _ _ h => h) (bg ⟨by rfl, ?_⟩) ?_ ?_
 rotate_left
 ·intro w'
  go_simp
  with_reducible rfl
 rotate_left
 ·simp only [ax, aa, ah, ai, aN, aM]
  rfl
 refine dP (i := 3) (N := ac 19) (v := ?_) (a' := ?_) #[af, af, af, af, J, J] rfl rfl (by kernel_rfl) (fun _ _ _ h => h) (bg ⟨by rfl, ?_⟩) ⟨gd, rfl⟩ ?_ ?_
 rotate_left
 ·rintro w' ⟨g', rfl⟩
  go_simp
  with_reducible rfl
 rotate_left
 ·simp only [ax, aa, ah, ai, aN, aM]
  rfl
 refine dP (i := 4) (N := ac 20) (v := ?_) (a' := ?_) #[af, af, af, af, af, J] rfl rfl (by kernel_rfl) (fun _ _ _ h => h) (bg ⟨by rfl, ?_⟩) ⟨gd, rfl⟩ ?_ ?_
 rotate_left
 ·rintro w' ⟨g', rfl⟩
  go_simp
  with_reducible rfl
 rotate_left
 ·simp only [ax, aa, ah, ai, aN, aM]
  rfl
 refine kJ (i := 5) (N := ac 21) #[af, af, af, af, af, af] rfl rfl (by kernel_rfl) (by simp) (fun K hK => ?_)
 refine callP_ 284 #[.agg #[.int .i64 n, dp, sp, ep, .int .i64 dI, lp], .pointer (ac ⟨bw, 0, ag⟩)] (by rfl) rfl (by first | (go_simp; done) | (go_simp; rfl)) ?_
 refine (HS.out gd.W n dp sp ep dI lp t HRT.out (HX.out.below.trans (gd.below.mono HX.out.below.size)) ((ThP.step HW.out HX.out.grown HT.out).below gd.below)).mono ?_
 rintro _ w9 ⟨rfl, hb⟩
 have HE := I (ae ((gd.below.trans (hb.mono gd.below.size)).block b (bq HLT.out HX.out.grown.size)) (HX.out.trans (Gw.of_below b HX.out.below (gd.below.trans (hb.mono gd.below.size)))))
 cases hf : f t
 ·left
  refine ⟨.tuple #[], rfl, ?_⟩
  refine hK.out _ _ ⟨mkG (gd.below.trans (hb.mono gd.below.size)), rfl⟩ (fun _ => ?_)
  clear hK K
  refine kH (by kernel_rfl) ?_
  go_wp2_with fail
  first | go_end0 | skip
  exact ⟨by rw [hf]; rfl, HE.out.1.trans HXB.out, HE.out.2⟩
 ·right
  exact ⟨_, rfl, rfl, by rw [hf]; rfl, HE.out.1.trans HXB.out, HE.out.2⟩
end
section
attribute [local go_sem] G.cell
def qR (W : World) (b : Nat) : Prop := ∃ n : Int, W.heap[b]? = ac (.cells #[.int .i64 n] 3 (0, 0))
theorem Gw.refl {Wb W : World} {b : Nat} (h : Below Wb.heap.size Wb W) : Gw Wb W W b := ⟨h, ⟨rfl, rfl, rfl, ar _, fun _ _ _ => rfl⟩⟩
theorem Gw.alloc {Wb W : World} {b : Nat} (h : Below Wb.heap.size Wb W) (o : Obj) : Gw Wb W (W.alloc o) b := ⟨h.alloc h.size o, ⟨rfl, rfl, rfl, by simp, fun i hi _ => gn W o i hi⟩⟩
theorem Gw.put {Wb W W1 : World} {b : Nat} (h : Gw Wb W W1 b) (hb : Wb.heap.size <= b) (j : Nat) (u : Value) : Gw Wb W (W1.setCell ⟨b, j, ag⟩ u) b :=
 h.trans ⟨h.below.setCell (p := ⟨b, j, ag⟩) hb u, ⟨rfl, rfl, rfl, by simp [iu], fun i hi hne => dw _ _ _ _ (fun e => hne (by rw [e]))⟩⟩
theorem Gw.blk {Wb W W1 : World} {b i : Nat} {o : Obj} (h : Gw Wb W W1 b) (hi : W.heap[i]? = ac o) (hne : i ≠ b) : W1.heap[i]? = ac o := (h.grown.block i (aW hi) (fun e => hne (by injection e))).trans hi
def PartsC (x : S116) : Prop := ∀ (Wb W : World) (b : Nat) (A : Option Addr) (c : Nat), Below Wb.heap.size Wb W -> Wb.heap.size <= b -> qR W b -> cQ.C Wb A x.f3.length x.f3 -> x.f3.length <= c ->
 Calls ak 151 #[.agg #[.int .i64 x.f0, .int .u64 x.f1, .string x.f2, .slice A x.f3.length c], .pointer (ac ⟨b, 0, ag⟩)] W fun e W' => e = .returned (.tuple #[]) /\ qR W' b /\ Gw Wb W W' b
set_option maxRecDepth 100000 in
theorem parts_walk (x : S116) (ih : ∀ y ∈ x.f3, PartsC y) : PartsC x := by
 intro Wb W b A c hB hb hn hc hl
 have IH := I ih
 have HC := I hc
 have HB := I hB
 have HBB := I hb
 have hlm := hc.2.1
 obtain ⟨n, hn⟩ := hn
 have hlt := aW hn
 have HN := I hn
 have z0 : ∀ o : Obj, (W.alloc o).cell? ⟨b, 0, ag⟩ = ac (.int .i64 n) := fun o => (aA (eP hn o) 0).trans rfl
 have y0 : ∀ o : Obj, (W.alloc o).frozen? ⟨b, 0, ag⟩ = J := fun o => aI (eP hn o) 0
 clear ih hc hB hb hn
 obtain ⟨x0, x1, x2, x3⟩ := x
 simp only at *
 go_enter Tryz.func151, Tryz.ntmps151
 go_upto_region 2 with (fail)
 obtain ⟨X, hX⟩ : ∃ X, X = (W.setCell ⟨b, 0, ag⟩ (.int .i64 (wrap64 (n + 1)))).alloc (.cells #[.int .i64 x0, .int .u64 x1, .string x2, .slice A x3.length c] 116) := ⟨_, rfl⟩
 rw [<- hX]
 have KX := I (show qR X b /\ Gw Wb W X b /\ X.heap[W.heap.size]? = ac (.cells #[.int .i64 x0, .int .u64 x1, .string x2, .slice A x3.length c] 116 (0, 0)) from by
  rw [hX]
  exact ⟨⟨_, eP (bQ HN.out 0 _ rfl) _⟩, ((Gw.refl HB.out).put HBB.out 0 _).trans (Gw.alloc ((Gw.refl HB.out).put HBB.out 0 _).below _), by simpa [iu] using aV (W.setCell ⟨b, 0, ag⟩ (.int .i64 (wrap64 (n + 1)))) (.cells #[.int .i64 x0, .int .u64 x1, .string x2, .slice A x3.length c] 116)⟩)
 clear hX z0 y0
 have HLT := I hlt
 clear hlt
 go_wp2_with fail
 go_loopw [4] (fun i W1 => ∃ k : Nat, i = .int .i64 k /\ k <= x3.length /\ Aside0 (qR W1 b /\ Gw Wb X W1 b)) (fun i _ => x3.length - (intOf i).toNat)
 case atStart => exact ⟨0, rfl, bi _, ⟨KX.out.1, Gw.refl KX.out.2.1.below⟩⟩
 case round =>
  obtain ⟨k, rfl, hk, HREL⟩ := hrel
  have hbx : wr.cell? ⟨W.heap.size, 3, ag⟩ = ac (.slice A x3.length c) := (aA (HREL.out.2.blk KX.out.2.2 (by have := HLT.out; omega)) 3).trans rfl
  by_cases hlt : k < x3.length
  ·have hi1 : (k : Int) < (x3.length : Int) := by omega
   obtain ⟨m, hm⟩ := HREL.out.1
   have hz : wr.cell? ⟨b, 0, ag⟩ = ac (.int .i64 m) := (aA hm 0).trans rfl
   clear hm
   by_cases h1 : m <= 10000
   ·obtain ⟨ad, A3, c3, e1, q0, q1, q2, q3, l3, g3⟩ := fR HC.out (k : Int) (bc _) (by omega)
    cases e1
    rw [av] at q0 q1 q2 q3
    replace q0 := aE HREL.out.2.below q0
    replace q1 := aE HREL.out.2.below q1
    replace q2 := aE HREL.out.2.below q2
    replace q3 := aE HREL.out.2.below q3
    have K := I (ae l3 g3)
    clear l3 g3
    have MEM := I (gM hlt)
    go_wp2_with fail
    refine (IH.out _ MEM.out Wb wr b A3 c3 HREL.out.2.below HBB.out HREL.out.1 K.out.2 K.out.1).mono ?_
    rintro _ W2 ⟨rfl, hn2, hg2⟩
    have H2 := I (ae hn2 hg2)
    clear hn2 hg2
    go_wp2_with fail
    exact ⟨⟨k + 1, by go_num, by omega, ⟨H2.out.1, HREL.out.2.trans H2.out.2⟩⟩, by simp [intOf]; omega⟩
   ·go_wp2_with fail
    first | go_end0 | skip
    exact ⟨rfl, HREL.out.1, KX.out.2.1.trans HREL.out.2⟩
  ·go_wp2_with fail
   first | go_end0 | skip
   exact ⟨rfl, HREL.out.1, KX.out.2.1.trans HREL.out.2⟩
theorem oB : ∀ (n : Nat) (x : S116), cd x <= n -> PartsC x := by
 intro n
 induction n with
 | zero => intro x h; obtain ⟨a, b, s, l⟩ := x; simp at h
 | succ n ih => exact fun x h => parts_walk x fun y hy => ih y (eK rfl hy h)
theorem pT {x : S119} {l : List S119} {n : Nat} (hx : x ∈ l) (h : cd l <= n + 1) : cd x.f6 <= n /\ cd x.f7 <= n := by
 have := eu hx
 obtain ⟨k, s, e, f, lo, hi, th, el⟩ := x
 simp at this ⊢
 omega
def CountC (l : List S119) : Prop := ∀ (Wb W : World) (b : Nat) (A : Option Addr) (c : Nat), Below Wb.heap.size Wb W -> Wb.heap.size <= b -> qR W b -> dC.C Wb A l.length l -> l.length <= c ->
 Calls ak 111 #[.slice A l.length c, .pointer (ac ⟨b, 0, ag⟩)] W fun e W' => (∃ n : Int, e = .returned (.int .i64 n)) /\ qR W' b /\ Gw Wb W W' b
set_option maxRecDepth 100000 in
theorem count_walk (l : List S119) (ih : ∀ x ∈ l, CountC x.f6 /\ CountC x.f7) : CountC l := by
 intro Wb W b A c hB hb hn hc hl
 have IH := I ih
 have HC := I hc
 have HB := I hB
 have HBB := I hb
 have HN := I hn
 have hlm := hc.2.1
 clear ih hc hB hb hn
 go_enter Tryz.func111, Tryz.ntmps111
 go_wp2_with fail
 go_loopw [5] (fun i W1 => ∃ k : Nat, i = .int .i64 k /\ k <= l.length /\ Aside0 (qR W1 b /\ Gw Wb W W1 b)) (fun i _ => l.length - (intOf i).toNat)
 case atStart => exact ⟨0, rfl, bi _, ⟨HN.out, Gw.refl HB.out⟩⟩
 case round =>
  obtain ⟨k, rfl, hk, HREL⟩ := hrel
  obtain ⟨m, hm⟩ := HREL.out.1
  have hz : wr.cell? ⟨b, 0, ag⟩ = ac (.int .i64 m) := (aA hm 0).trans rfl
  by_cases hlt : k < l.length
  ·have hi1 : (k : Int) < (l.length : Int) := by omega
   by_cases h1 : m <= 10000
   ·obtain ⟨ad, A5, c5, A9, c9, A12, c12, A13, c13, e1, q0, q1, q2, q3, q4, q5, q6, q7, q8, q9, q10, q11, q12, q13, l5, g5, l9, g9, l12, g12, l13, g13⟩ := gV HC.out (k : Int) (bc _) (by omega)
    cases e1
    rw [av] at q2 q3 q4 q5 q6 q7 q8 q9 q12 q13
    clear q0 q1 q10 q11
    have Q := I (ae q2 (ae q3 (ae q4 (ae q5 (ae q6 (ae q7 (ae q8 (ae q9 (ae q12 q13)))))))))
    clear q2 q3 q4 q5 q6 q7 q8 q9 q12 q13
    have K := I (ae l5 (ae g5 (ae l9 (ae g9 (ae l12 (ae g12 (ae l13 g13)))))))
    clear l5 g5 l9 g9 l12 g12 l13 g13
    have IH1 := I (IH.out _ (mH hlt))
    generalize aQ l (k : Int) = y at *
    have y0 := aI hm 0
    have KX := I (show qR (wr.setCell ⟨b, 0, ag⟩ (.int .i64 (wrap64 (m + 1)))) b /\ Gw Wb W (wr.setCell ⟨b, 0, ag⟩ (.int .i64 (wrap64 (m + 1)))) b from ⟨⟨_, bQ hm 0 _ rfl⟩, HREL.out.2.put HBB.out 0 _⟩)
    clear hm
    go_upto_region 5 with (fail)
    generalize wr.setCell ⟨b, 0, ag⟩ (.int .i64 (wrap64 (m + 1))) = X at *
    clear hz y0
    have q2 := aE KX.out.2.below Q.out.1
    have q3 := aE KX.out.2.below Q.out.2.1
    have q4 := aE KX.out.2.below Q.out.2.2.1
    have q5 := aE KX.out.2.below Q.out.2.2.2.1
    go_wp2_with fail
    refine (oB _ y.f2 (ar _) Wb X b A5 c5 KX.out.2.below HBB.out KX.out.1 K.out.2.1 K.out.1).mono ?_
    rintro _ X5 ⟨rfl, hn2, hg2⟩
    have H5 := I (ae hn2 (KX.out.2.trans hg2))
    clear hn2 hg2 q2 q3 q4 q5
    have q6 := aE H5.out.2.below Q.out.2.2.2.2.1
    have q7 := aE H5.out.2.below Q.out.2.2.2.2.2.1
    have q8 := aE H5.out.2.below Q.out.2.2.2.2.2.2.1
    have q9 := aE H5.out.2.below Q.out.2.2.2.2.2.2.2.1
    go_wp2_with fail
    refine (oB _ y.f3 (ar _) Wb X5 b A9 c9 H5.out.2.below HBB.out H5.out.1 K.out.2.2.2.1 K.out.2.2.1).mono ?_
    rintro _ X9 ⟨rfl, hn2, hg2⟩
    have H9 := I (ae hn2 (H5.out.2.trans hg2))
    clear hn2 hg2 q6 q7 q8 q9
    have q12 := aE H9.out.2.below Q.out.2.2.2.2.2.2.2.2.1
    go_wp2_with fail
    refine (IH1.out.1 Wb X9 b A12 c12 H9.out.2.below HBB.out H9.out.1 K.out.2.2.2.2.2.1 K.out.2.2.2.2.1).mono ?_
    rintro _ X12 ⟨⟨_, rfl⟩, hn2, hg2⟩
    have H12 := I (ae hn2 (H9.out.2.trans hg2))
    clear hn2 hg2 q12
    have q13 := aE H12.out.2.below Q.out.2.2.2.2.2.2.2.2.2
    go_wp2_with fail
    refine (IH1.out.2 Wb X12 b A13 c13 H12.out.2.below HBB.out H12.out.1 K.out.2.2.2.2.2.2.2 K.out.2.2.2.2.2.2.1).mono ?_
    rintro _ X13 ⟨⟨_, rfl⟩, hn2, hg2⟩
    have H13 := I (ae hn2 (H12.out.2.trans hg2))
    clear hn2 hg2 q13
    go_wp2_with fail
    exact ⟨⟨k + 1, by go_num, by omega, ⟨H13.out.1, H13.out.2⟩⟩, by simp [intOf]; omega⟩
   ·clear hm
    go_wp2_with fail
    go_ret
    exact ⟨⟨_, rfl⟩, HREL.out.1, HREL.out.2⟩
  ·clear hm
   go_wp2_with fail
   go_ret
   exact ⟨⟨_, rfl⟩, HREL.out.1, HREL.out.2⟩
theorem count_calls : ∀ (n : Nat) (l : List S119), cd l <= n -> CountC l := by
 intro n
 induction n with
 | zero => intro l h; cases l <;> simp at h
 | succ n ih => exact fun l h => count_walk l fun x hx => ⟨ih _ (pT hx h).1, ih _ (pT hx h).2⟩
end
def zEx : Value := .agg #[.int .i64 0, .int .u64 0, .string ⟨#[]⟩, .slice ag 0 0]
theorem info75 : (Tryz.prog.info? 116).map (fun i => (i.zero, i.size, i.bytes)) = ac (ac zEx, 4, 56) := by kernel_rfl
theorem under73 : Tryz.prog.underlying 114 = ac (.slice 116) := by kernel_rfl
theorem goodEs_len {l : List S116} {x : S116} (hx : x.f3 = l) (h : Ot.kU x) : l.length * 56 <= 140737488351232 := by
 obtain ⟨a, b, s, r⟩ := x
 rw [Ot.kU] at h
 exact hx ▸ h.2.2.2.1
def zSt : Value := .agg #[.int .i64 0, .string ⟨#[]⟩, .int .i64 0, .int .u64 0, .string ⟨#[]⟩, .slice ag 0 0, .int .i64 0, .int .u64 0, .string ⟨#[]⟩, .slice ag 0 0, .int .u64 0, .int .u64 0, .slice ag 0 0, .slice ag 0 0]
theorem info77 : (Tryz.prog.info? 119).map (fun i => (i.zero, i.size, i.bytes)) = ac (ac zSt, 14, 200) := by kernel_rfl
theorem under27 : Tryz.prog.underlying 23 = ac (.slice 119) := by kernel_rfl
def zDe : Value := .agg #[.int .i64 0, .string ⟨#[]⟩, .int .i64 0, .slice ag 0 0]
theorem info44 : (Tryz.prog.info? 70).map (fun i => (i.zero, i.size, i.bytes)) = ac (ac zDe, 4, 56) := by kernel_rfl
theorem under26 : Tryz.prog.underlying 22 = ac (.slice 70) := by kernel_rfl
section
attribute [local go_sem] G.cell
def OwnEC (x : S116) : Prop := ∀ (A : Option Addr) (c : Nat) (w : World), cQ.C w A x.f3.length x.f3 -> x.f3.length <= c ->
 Calls ak 152 #[.agg #[.int .i64 x.f0, .int .u64 x.f1, .string x.f2, .slice A x.f3.length c]] w fun r w' => ∃ v, r = .returned (.agg #[.int .i64 x.f0, .int .u64 x.f1, .string x.f2, v]) /\ cQ.R 116 w' w.heap.size (fun _ => True) v x.f3 /\ Below w.heap.size w w'
set_option maxRecDepth 100000 in
theorem ownE_walk (x : S116) (hg : Ot.kU x) (ih : ∀ y ∈ x.f3, OwnEC y) : OwnEC x := by
 intro A c w hc hl
 have IH := I ih
 have HC := I hc
 have HN := I (goodEs_len rfl hg)
 have hlm := hc.2.1
 clear ih hc hg
 obtain ⟨x0, x1, x2, x3⟩ := x
 simp only at *
 go_enter Tryz.func152, Tryz.ntmps152
 go_upto_region 1 with (fail)
 obtain ⟨X, hX⟩ : ∃ X, X = (w.alloc (.cells #[.int .i64 x0, .int .u64 x1, .string x2, .slice A x3.length c] 116)).alloc (.cells #[.int .i64 0, .int .u64 0, .string ⟨#[]⟩, .slice ag 0 0] 116) := ⟨_, rfl⟩
 rw [<- hX]
 have KX := I (show Below w.heap.size w X /\ X.heap[w.heap.size]? = ac (.cells #[.int .i64 x0, .int .u64 x1, .string x2, .slice A x3.length c] 116 (0, 0)) /\ X.heap[w.heap.size + 1]? = ac (.cells #[.int .i64 0, .int .u64 0, .string ⟨#[]⟩, .slice ag 0 0] 116 (0, 0)) from by
  rw [hX]
  exact ⟨((aq _ _).alloc (ar _) _).alloc (by simp) _, eP (aV _ _) _, by simpa using aV (w.alloc (.cells #[.int .i64 x0, .int .u64 x1, .string x2, .slice A x3.length c] 116)) (.cells #[.int .i64 0, .int .u64 0, .string ⟨#[]⟩, .slice ag 0 0] 116)⟩)
 clear hX
 go_wp2_with fail
 go_loopw [4, 3] (fun i v W => ∃ (k : Nat) (vo : Value), i = .int .i64 k /\ vo = v /\ k <= x3.length /\ Aside0 (Below w.heap.size w W /\ W.heap[w.heap.size]? = ac (.cells #[.int .i64 x0, .int .u64 x1, .string x2, .slice A x3.length c] 116 (0, 0)) /\ W.heap[w.heap.size + 1]? = ac (.cells #[.int .i64 0, .int .u64 0, .string ⟨#[]⟩, .slice ag 0 0] 116 (0, 0)) /\ cQ.R 116 W w.heap.size (fun b => w.heap.size + 1 < b) vo (x3.take k))) (fun i _ _ => x3.length - (intOf i).toNat)
 case atStart => exact ⟨0, _, rfl, rfl, bi _, ⟨KX.out.1, KX.out.2.1, KX.out.2.2, by rw [jq]; exact Kd.jN _ _ _ _ _⟩⟩
 case round =>
  obtain ⟨k, vo, rfl, rfl, hk, HREL⟩ := hrel
  by_cases hlt : k < x3.length
  ·have b0 : ∀ g : G wr, g.W.cell? ⟨w.heap.size, 3, ag⟩ = ac (.slice A x3.length c) := fun g => (aA (aB HREL.out.2.1 g.below) 3).trans rfl
   obtain ⟨ad, A3, c3, e1, q0, q1, q2, q3, l3, g3⟩ := fR HC.out (k : Int) (bc _) (by omega)
   cases e1
   rw [av] at q0 q1 q2 q3
   have gw1 : ∀ g : G wr, Below w.heap.size w g.W := fun g => HREL.out.1.trans (g.below.mono HREL.out.1.size)
   replace q0 := fun g : G wr => aE (gw1 g) q0
   replace q1 := fun g : G wr => aE (gw1 g) q1
   replace q2 := fun g : G wr => aE (gw1 g) q2
   replace q3 := fun g : G wr => aE (gw1 g) q3
   have hi1 : (k : Int) < (x3.length : Int) := by omega
   have K := I (ae l3 g3)
   clear l3 g3
   have IH1 := I (IH.out _ (gM hlt))
   have T := I (dK hlt)
   generalize bO x3 (k : Int) = y at *
   have LT := I (show ∀ b, vo.ownBlock = ac b -> b < wr.heap.size from by obtain ⟨_, inner, ho, _⟩ := HREL.out.2.2.2; exact fun b hb => qU ho b hb)
   refine aH ?_
   intro gg
   go_wp2_with fail
   refine (IH1.out A3 c3 gg.W (Kd.aF K.out.2 (gw1 gg)) K.out.1).mono ?_
   rintro _ w9 ⟨v9, rfl, hR9, hb⟩
   have HP := I (show cQ.M w9 w.heap.size (fun b => wr.heap.size <= b) y [.int .i64 y.f0, .int .u64 y.f1, .string y.f2, v9] from k116_mkM w9 w.heap.size _ y (Kd.fX (Kd.eD (Kd.eG hR9) (fun b hb => bh gg.below.size hb.2.1)) (gw1 gg).size))
   obtain ⟨g9, hg9⟩ : ∃ g : G wr, g.W = w9 := ⟨mkG (gg.below.trans (hb.mono gg.below.size)), rfl⟩
   subst hg9
   clear hR9 hb
   go_wp2_with (at_builtin; refine Kd.cW cQ (w0 := w) w.heap.size rfl (.tmp 12) (.tmp 19) 114 116 zEx 56 rfl under73 info75 rfl (show 0 < 4 by decide) (by decide) vo (x3.take k) y [.int .i64 y.f0, .int .u64 y.f1, .string y.f2, v9] (fun b => w.heap.size + 1 < b) (fun b => wr.heap.size <= b) rfl rfl HP.out (fun b hb => ⟨bq (aW HREL.out.2.2.1) hb, fM LT.out hb⟩) (fun b hb => bq (aW HREL.out.2.2.1) (bh g9.below.size hb)) (Kd.bK HREL.out.2.2.2 g9.below) (gw1 g9) (gw1 g9).size (by have := HN.out; have := List.length_take_le k x3; omega) ?_)
   intro v1 w1 hr1 hb1 hg1 hat1
   have NE := I (show ∀ b, b <= w.heap.size + 1 -> ac b ≠ vo.ownBlock from fun b hb he => by have h := HREL.out.2.2.2.1 b he.symm; exact absurd h (jj.2 hb))
   have E0 := I ((hg1.block w.heap.size (bq (aW HREL.out.2.1) g9.below.size) (NE.out _ (by omega))).trans (aB HREL.out.2.1 g9.below))
   have E1 := I ((hg1.block (w.heap.size + 1) (bq (aW HREL.out.2.2.1) g9.below.size) (NE.out _ (by omega))).trans (aB HREL.out.2.2.1 g9.below))
   have W1 := I (ae hb1 hr1)
   clear hr1 hb1 hg1 hat1
   go_wp2_with fail
   exact ⟨⟨k + 1, v1, by go_num, rfl, by omega, ⟨W1.out.1, E0.out, E1.out, by rw [T.out]; exact W1.out.2⟩⟩, by simp [intOf]; omega⟩
  ·obtain ⟨hB, h0, h1, hR⟩ := HREL.out
   obtain ⟨Av, cv, hv⟩ := Kd.cD hR
   rw [cn, cy hk] at hv
   subst hv
   have HB := I hB
   have HR := I hR
   have HK := I (ae h0 h1)
   have z0 : wr.cell? ⟨w.heap.size, 0, ag⟩ = ac (.int .i64 x0) := (aA h0 0).trans rfl
   have z1 : wr.cell? ⟨w.heap.size, 1, ag⟩ = ac (.int .u64 x1) := (aA h0 1).trans rfl
   have z2 : wr.cell? ⟨w.heap.size, 2, ag⟩ = ac (.string x2) := (aA h0 2).trans rfl
   have z3 : wr.cell? ⟨w.heap.size, 3, ag⟩ = ac (.slice A x3.length c) := (aA h0 3).trans rfl
   have y3 := aI h0 3
   have r0 : wr.cell? ⟨w.heap.size + 1, 0, ag⟩ = ac (.int .i64 0) := (aA h1 0).trans rfl
   have r1 : wr.cell? ⟨w.heap.size + 1, 1, ag⟩ = ac (.int .u64 0) := (aA h1 1).trans rfl
   have r2 : wr.cell? ⟨w.heap.size + 1, 2, ag⟩ = ac (.string ⟨#[]⟩) := (aA h1 2).trans rfl
   have r3 : wr.cell? ⟨w.heap.size + 1, 3, ag⟩ = ac (.slice ag 0 0) := (aA h1 3).trans rfl
   have f0 := aI h1 0
   have f1 := aI h1 1
   have f2 := aI h1 2
   have f3 := aI h1 3
   clear hB hR h0 h1 HREL
   go_wp2_with fail
   refine bodyPost_ret (results_cell_row rfl _ _ (w.heap.size + 1) 116 #[.int .i64 x0, .int .u64 x1, .string x2, .slice Av k cv] (0, 0) _ rfl (bQ (bQ (bQ (bQ ((dw _ _ _ _ (show w.heap.size + 1 ≠ w.heap.size by omega)).trans HK.out.2) 0 _ rfl) 1 _ rfl) 2 _ rfl) 3 _ rfl) Tryz.underlying116 rfl (by kernel_rfl)) rfl ?_
   refine ⟨_, rfl, ?_, ?_⟩
   ·have hk2 : k = x3.length := by omega
    subst hk2
    rw [di] at HR
    exact Kd.eD (Kd.cJ (Kd.cJ (Kd.cJ (Kd.cJ (Kd.cJ HR.out (p := ⟨w.heap.size, 3, ag⟩) (fun b hb => by show b ≠ w.heap.size; omega) _) (p := ⟨w.heap.size + 1, 0, ag⟩) (fun b hb => by show b ≠ w.heap.size + 1; omega) _) (p := ⟨w.heap.size + 1, 1, ag⟩) (fun b hb => by show b ≠ w.heap.size + 1; omega) _) (p := ⟨w.heap.size + 1, 2, ag⟩) (fun b hb => by show b ≠ w.heap.size + 1; omega) _) (p := ⟨w.heap.size + 1, 3, ag⟩) (fun b hb => by show b ≠ w.heap.size + 1; omega) _) (fun _ _ => trivial)
   ·exact ((((HB.out.setCell (p := ⟨w.heap.size, 3, ag⟩) (show w.heap.size <= w.heap.size by omega) _).setCell (p := ⟨w.heap.size + 1, 0, ag⟩) (show w.heap.size <= w.heap.size + 1 by omega) _).setCell (p := ⟨w.heap.size + 1, 1, ag⟩) (show w.heap.size <= w.heap.size + 1 by omega) _).setCell (p := ⟨w.heap.size + 1, 2, ag⟩) (show w.heap.size <= w.heap.size + 1 by omega) _).setCell (p := ⟨w.heap.size + 1, 3, ag⟩) (show w.heap.size <= w.heap.size + 1 by omega) _
theorem ownE_calls : ∀ (n : Nat) (x : S116), cd x <= n -> Ot.kU x -> OwnEC x := by
 intro n
 induction n with
 | zero => intro x h; obtain ⟨a, b, c, l⟩ := x; simp at h
 | succ n ih =>
   intro x h hg
   refine ownE_walk x hg fun y hy => ih y (eK rfl hy h) ?_
   obtain ⟨a, b, s, l⟩ := x
   rw [Ot.kU] at hg
   exact (Ot.nP l).1 hg.2.2.2.2 y hy
end
end Go.Proofs.YtfigjpehecibeaaGreat.L
