/- Texts joined by a program of mine: WWords WLast WApart WFoot WKept WShare WN WMore WTab WEqStruct WRepsOne WInv WGuard. -/
import Derived.Below
import Derived.Deep.Draws
import Derived.Deep.AppendLies
import Derived.Maps.AppendAt
import Derived.OwnWalk
import Derived.Laws.BytesArg
import Derived.Laws.MakeOwn
import Derived.Laws.OwnMore
import Derived.Deep.OwnRows
import Derived.Tactics
import Derived.Lib.ConvBytes
import Derived.Laws.Slices
import Derived.WalkKit
import Derived.KernelRfl
import Derived.RowKit3
import Derived.Deep.LoopGhost
import Derived.Deep.QuietTactic
import Derived.BigQuiet
import Derived.WideLaws
import Derived.Deep.DeepCutAuto
import Derived.Deep.CutBlock
import Derived.Deep.RegionHeld3
import Derived.Laws.Rows
import Derived.Lib.AppendStr
import Derived.ArgAppend
import Derived.Laws.IdiomCopy
import Derived.RowKit
import Derived.OrdersHeld
import Derived.Laws.BitsLemmas
import Derived.Laws.StructEq
open Array renaming getElem?_eq_some_iff -> jo
open Bool renaming true -> af, false -> J, and_eq_true -> bo
open ByteArray renaming empty -> fe
open Go.Oper renaming wp -> jf
open Go.Region renaming wanted -> dg, Mode -> kf, ready -> ij
open Go.RowKit.Below renaming refl -> aq, heap_setCell -> dw, heap_alloc -> gn
open Go.Value renaming ownBlock -> dh, int -> ba, bool -> ia
open Go.World renaming block_lt_of_cell? -> aj, setCell -> iu
open Int renaming eq_ofNat_of_zero_le -> dn, toNat_natCast -> av, natCast_mul -> il
open List renaming length_take -> cn, getD_eq_getElem?_getD -> au, length_append -> ay, length_singleton -> bk, getElem?_append_left -> je, take_append_of_le_length -> ke, length_drop -> dx, getElem?_eq_some_iff -> dm, take_length -> di, getElem?_eq_getElem -> az, getElem?_take -> jt, map_toArray -> cb, map_cons -> cm, map_nil -> cw, eq_nil_of_length_eq_zero -> cg, getElem?_eq_none -> ed, mem_cons_self -> ji, mem_append -> fu, drop_eq_getElem_cons -> ig, mem_cons -> gi, replicate -> bu, length_cons -> iv, drop_eq_nil_of_le -> jp, take_zero -> jq, take_of_length_le -> ku, append_nil -> df, range -> br, all_eq_true -> dz, mem_range -> ja
open Nat renaming lt_of_lt_of_le -> bq, lt_or_ge -> gj, succ_mul -> kr, mul_le_mul_right -> fj, eq_zero_or_pos -> cf, ne_of_gt -> ee, add_assoc -> ic, le_trans -> bh, le_mul_of_pos_right -> fo, le_refl -> ar, min_eq_left -> cy, mul_one -> gu, not_lt_zero -> cq, mod_eq_of_lt -> fp, mod_lt -> gm
open Option renaming some -> ac, none -> ag, map_eq_some_iff -> gf, bind_some -> jk
open Option.some renaming inj -> ck
set_option linter.unusedVariables false
set_option linter.unusedSimpArgs false
set_option maxHeartbeats 8000000
section
namespace Go.Proofs.YtfigjpehecibeaaGreatW.PrintWords
open Go.RowKit
structure Aside0 (p : Prop) : Prop where mk :: (out : p)
structure Drawn0 (w w' : World) : Prop where mk :: (out : ∃ n, w' = w.drewN n)
theorem Drawn0.refl (w : World) : Drawn0 w w := ⟨⟨0, rfl⟩⟩
theorem Drawn0.step {w w' : World} (h : Drawn0 w w') (n : Nat) : Drawn0 w (w'.drewN n) := by
 obtain ⟨m, rfl⟩ := h
 exact ⟨⟨m + n, World.drewN_drewN ..⟩⟩
theorem Drawn0.grown {w w' : World} (h : Drawn0 w w') : Grown w w' := by
 obtain ⟨n, rfl⟩ := h
 induction n with
 | zero => exact Grown.refl _
 | succ n ih => rw [<- World.drew_drewN]; exact Grown.drew ih
theorem Drawn0.below {w w' : World} (h : Drawn0 w w') : Below w.heap.size w w' := by
 obtain ⟨n, rfl⟩ := h
 induction n with
 | zero => exact aq _ _
 | succ n ih => rw [<- World.drew_drewN]; exact ih.drew
def rd (xs : List Int) (i : Int) : Int := xs.getD i.toNat 0
def bt (s : ByteArray) (i : Int) : Int := if h : i.toNat < s.size then ((s[i.toNat]'h).toNat : Int) else 0
theorem bt_at (s : ByteArray) (i : Int) : ∀ h : i.toNat < s.size, ((s[i.toNat]'h).toNat : Int) = bt s i := fun h => by simp [bt, h]
def nums (k : IntKind) (xs : List Int) : List Value := xs.map fun x => .int k x
theorem aR {w W : World} (h : Below w.heap.size w W) (o : Obj) : Below w.heap.size w (W.alloc o) := h.alloc h.size o
theorem below_drew {B : Nat} {w W : World} (h : Below B w W) : Below B w W.drew := ⟨h.os, h.tape, h.output, h.size, h.block⟩
theorem aO {B : Nat} {w W : World} (h : Below B w W) (n : Nat) : Below B w (W.drewN n) := ⟨h.os, h.tape, h.output, h.size, h.block⟩
theorem below_then {B : Nat} {w w1 w2 : World} (h : Below B w w1) (hB : B <= w1.heap.size) (k : Below w1.heap.size w1 w2) : Below B w w2 :=
 h.trans ⟨k.os, k.tape, k.output, k.size, fun i hi => k.block i (bq hi hB)⟩
theorem grown_of_below {w w1 : World} (h : Below w.heap.size w w1) (row : Option Nat) : w.grownBy w1 row := ⟨h.os, h.tape, h.output, h.size, fun i hi _ => h.block i hi⟩
theorem jW {w w1 : World} (h : Below w.heap.size w w1) {a : Addr} {v : Value} (hc : w.cell? a = ac v) : w1.cell? a = ac v := (h.cell (aj w a hc)).trans hc
theorem add_plain (g j : Nat) : (⟨g, 0, ag⟩ : Addr).add j = ⟨g, j, ag⟩ := by unfold Addr.add; split <;> simp_all
def e8 (w : World) (k : IntKind) (A : Option Addr) (n : Nat) (xs : List Int) : Prop :=
 xs.length = n /\ n <= 9223372036854775807 /\ (0 < n -> ∃ ad, A = ac ad /\ ∀ j, j < n -> w.cell? (ad.add j) = ac (.int k (xs.getD j 0)))
theorem e8.at_ {w : World} {k : IntKind} {A : Option Addr} {n : Nat} {xs : List Int} (h : e8 w k A n xs) (i : Int) (h0 : 0 <= i) (h1 : i < n) : ∃ ad, A = ac ad /\ w.cell? (ad.add i.toNat) = ac (.int k (rd xs i)) := by
 obtain ⟨ad, e, hc⟩ := h.2.2 (by omega)
 exact ⟨ad, e, hc _ (by omega)⟩
theorem e8.below {w w1 : World} {k : IntKind} {A : Option Addr} {n : Nat} {xs : List Int} (h : e8 w k A n xs) (hb : Below w.heap.size w w1) : e8 w1 k A n xs :=
 ⟨h.1, h.2.1, fun hn => by
   obtain ⟨ad, e, hc⟩ := h.2.2 hn
   exact ⟨ad, e, fun j hj => jW hb (hc j hj)⟩⟩
theorem own_nil (W : World) (base : Nat) (e : TypeId) (size : Nat) : W.ownsRow base e size (.slice ag 0 0) 0 [] := ⟨by simp, .inl ⟨rfl, rfl⟩⟩
theorem j8 {w : World} {base : Nat} {e : TypeId} {size n : Nat} {v : Value} {xs : List Value} (h : w.ownsRow base e size v n xs) (k : Nat) (hk : v.ownBlock = ac k) : base <= k := by
 rcases h.2 with ⟨rfl, _⟩ | ⟨g, cap, cur, rfl, hb, _⟩
 ·simp [dh] at hk
 ·have : g = k := by simpa [dh] using hk
  omega
theorem qU {w : World} {base : Nat} {e : TypeId} {size n : Nat} {v : Value} {xs : List Value} (h : w.ownsRow base e size v n xs) (k : Nat) (hk : v.ownBlock = ac k) : k < w.heap.size := by
 rcases h.2 with ⟨rfl, _⟩ | ⟨g, cap, cur, rfl, hb, hh, _⟩
 ·simp [dh] at hk
 ·have : g = k := by simpa [dh] using hk
  subst this
  exact (jo.1 hh).1
theorem pw_own_below {w w1 : World} {base : Nat} {e : TypeId} {size n : Nat} {v : Value} {xs : List Value} (h : w.ownsRow base e size v n xs) (hb : Below w.heap.size w w1) : w1.ownsRow base e size v n xs :=
 h.kept (grown_of_below hb ag) (by cases v.ownBlock <;> simp)
theorem own_other {w w1 : World} {base : Nat} {e : TypeId} {size n : Nat} {v : Value} {xs : List Value} (h : w.ownsRow base e size v n xs) {row : Option Nat} (hg : w.grownBy w1 row) (hne : v.ownBlock = ag \/ v.ownBlock ≠ row) : w1.ownsRow base e size v n xs := h.kept hg hne
theorem own_slice {w : World} {base n : Nat} {e : TypeId} {size : Nat} {v : Value} {xs : List Value} (h : w.ownsRow base e size v n xs) : ∃ A c, v = .slice A n c := by
 rcases h.2 with ⟨rfl, rfl⟩ | ⟨g, cap, cur, rfl, _⟩
 ·exact ⟨ag, 0, rfl⟩
 ·exact ⟨_, cap, rfl⟩
theorem own_lit (W : World) (base : Nat) (e : TypeId) (k : IntKind) (xs : List Int) (hb : base <= W.heap.size) (hm : xs.length <= 9223372036854775807) :
 (W.alloc (.cells (nums k xs).toArray e)).ownsRow base e 1 (.slice (ac ⟨W.heap.size, 0, ag⟩) xs.length xs.length) xs.length (nums k xs) := by
 have h := World.ownsRow_lit (base := base) (e := e) (size := 1) W (nums k xs).toArray xs.length hb (by simpa [maxLen] using hm) (by simp [nums])
 simpa using h
def bytesOf (s : ByteArray) : List Int := s.data.toList.map fun b => (b.toNat : Int)
theorem e8.dP {w : World} {k : IntKind} {A : Option Addr} {n : Nat} {xs : List Int} (h : e8 w k A n xs) (i : Nat) (hi : i <= n) : e8 w k A i (xs.take i) := by
 refine ⟨by rw [cn, h.1]; omega, by have := h.2.1; omega, fun hp => ?_⟩
 obtain ⟨ad, e, hc⟩ := h.2.2 (by omega)
 refine ⟨ad, e, fun j hj => ?_⟩
 rw [hc j (by omega)]
 simp [au, hj]
def LeO {α : Type} (a b : Option α) : Prop := ∀ r, a = ac r -> b = ac r
theorem LeO.refl {α : Type} (a : Option α) : LeO a a := fun _ h => h
theorem LeO.none {α : Type} (b : Option α) : LeO Option.none b := fun _ h => by cases h
theorem LeO.trans {α : Type} {a b c : Option α} (h : LeO a b) (k : LeO b c) : LeO a c := fun r hr => k r (h r hr)
theorem LeO.bind {α β : Type} {a a' : Option α} {f f' : α -> Option β} (h : LeO a a') (k : ∀ x, LeO (f x) (f' x)) : LeO (a.bind f) (a'.bind f') := by
 intro r hr
 obtain ⟨x, hx, hf⟩ := Option.bind_eq_some_iff.1 hr
 exact Option.bind_eq_some_iff.2 ⟨x, h x hx, k x r hf⟩
theorem LeO.map {α β : Type} {a a' : Option α} (f : α -> β) (h : LeO a a') : LeO (a.map f) (a'.map f) := by
 intro r hr
 obtain ⟨x, hx, hf⟩ := gf.1 hr
 exact gf.2 ⟨x, h x hx, hf⟩
def dF {α : Type} (R : α -> List Value -> Prop) (size : Nat) (ps : List α) (cs : List Value) : Prop :=
 cs.length = ps.length * size /\ ∀ j p, ps[j]? = ac p -> R p ((cs.drop (j * size)).take size)
theorem dF.none {α : Type} (R : α -> List Value -> Prop) (size : Nat) : dF R size [] [] := ⟨by simp, fun j p h => by simp at h⟩
theorem dF.snoc {α : Type} {R : α -> List Value -> Prop} {size : Nat} {ps : List α} {cs c : List Value} {p : α} (h : dF R size ps cs) (hp : R p c) (hc : c.length = size) : dF R size (ps ++ [p]) (cs ++ c) := by
 refine ⟨by rw [ay, h.1, hc, ay, bk, Nat.add_mul, Nat.one_mul], fun j q hq => ?_⟩
 rcases gj j ps.length with hj | hj
 ·rw [je hj] at hq
  have h1 : j * size + size <= cs.length := by rw [h.1, <- kr]; exact fj _ hj
  have h2 := h.2 j q hq
  rw [List.drop_append_of_le_length (by omega), ke (by rw [dx]; omega)]
  exact h2
 ·have hj' : j = ps.length := by
   have := (dm.1 hq).1
   rw [ay, bk] at this
   omega
  subst hj'
  have hq' : p = q := by simpa using hq
  subst hq'
  rw [<- h.1, List.drop_left, <- hc, di]
  exact hp
theorem dF.imp_ {α : Type} {R R' : α -> List Value -> Prop} {size : Nat} {ps : List α} {cs : List Value} (h : dF R size ps cs) (hR : ∀ p c, R p c -> R' p c) : dF R' size ps cs := ⟨h.1, fun j p hj => hR _ _ (h.2 j p hj)⟩
def eM {α : Type} (R : α -> List Value -> Prop) (size : Nat) (w : World) (A : Option Addr) (n : Nat) (ps : List α) : Prop :=
 ps.length = n /\ n <= 9223372036854775807 /\ (0 < n -> ∃ ad, A = ac ad /\ ∀ j p, ps[j]? = ac p -> ∃ c, c.length = size /\ R p c /\ ∀ i u, c[i]? = ac u -> w.cell? (ad.add (j * size + i)) = ac u)
theorem eM.get_ {α : Type} {R : α -> List Value -> Prop} {size : Nat} {w : World} {A : Option Addr} {n : Nat} {ps : List α} (h : eM R size w A n ps) (d : α) (i : Int) (h0 : 0 <= i) (h1 : i < n) :
 ∃ ad c, A = ac ad /\ c.length = size /\ R (ps.getD i.toNat d) c /\ ∀ j u, c[j]? = ac u -> w.cell? (ad.add (i.toNat * size + j)) = ac u := by
 obtain ⟨ad, e, hc⟩ := h.2.2 (by omega)
 have hl : i.toNat < ps.length := by have := h.1; omega
 obtain ⟨c, hs, hr, hcell⟩ := hc i.toNat _ (az hl)
 refine ⟨ad, c, e, hs, ?_, hcell⟩
 rw [au, az hl]
 exact hr
theorem eM.imp_ {α : Type} {R R' : α -> List Value -> Prop} {size : Nat} {w w1 : World} {A : Option Addr} {n : Nat} {ps : List α} (h : eM R size w A n ps) (hb : Below w.heap.size w w1) (hR : ∀ p c, R p c -> R' p c) : eM R' size w1 A n ps :=
 ⟨h.1, h.2.1, fun hn => by
   obtain ⟨ad, e, hc⟩ := h.2.2 hn
   refine ⟨ad, e, fun j p hj => ?_⟩
   obtain ⟨c, hs, hr, hcell⟩ := hc j p hj
   exact ⟨c, hs, hR _ _ hr, fun i u hu => jW hb (hcell i u hu)⟩⟩
theorem own_reads_row {α : Type} {R : α -> List Value -> Prop} {w : World} {base n size : Nat} {e : TypeId} {v : Value} {ps : List α} {cs : List Value} (h : w.ownsRow base e size v n cs) (hR : dF R size ps cs) (hn : ps.length = n) :
 ∃ A c, v = .slice A n c /\ eM R size w A n ps := by
 rcases cf n with h0 | h0
 ·rcases h.2 with ⟨rfl, rfl⟩ | ⟨g, cap, cur, rfl, _⟩
  ·exact ⟨ag, 0, rfl, hn, by omega, fun hp => absurd hp (by omega)⟩
  ·exact ⟨_, cap, rfl, hn, by omega, fun hp => absurd hp (by omega)⟩
 ·obtain ⟨g, cap, rfl, _, _⟩ := h.form h0
  have hm : n <= 9223372036854775807 := by
   rcases h.2 with ⟨_, h1⟩ | ⟨g', cap', cur, he, _, _, h1, h2, _⟩
   ·omega
   ·simp only [maxLen] at h2
    omega
  refine ⟨_, cap, rfl, hn, hm, fun _ => ⟨_, rfl, fun j p hj => ⟨(cs.drop (j * size)).take size, ?_, hR.2 j p hj, fun i u hu => ?_⟩⟩⟩
  ·have hjl := (dm.1 hj).1
   have h1 : j * size + size <= cs.length := by rw [hR.1, <- kr]; exact fj _ hjl
   rw [cn, dx]
   omega
  ·refine h.cells (g := g) rfl _ u ?_
   rw [jt] at hu
   split at hu
   ·rw [List.getElem?_drop] at hu
    exact hu
   ·cases hu
theorem cA (ad : Addr) (m j : Nat) (hj : 0 < j) : ad.add (m + j) = ⟨(ad.add m).block, (ad.add m).off + j, ag⟩ := by
 unfold Addr.add
 by_cases hm : m = 0
 ·subst hm
  simp [ee hj]
 ·simp [hm, ic]
section
variable {P : Program} {ops : Array Oper} {rest : List Oper} {o : Oper} {a : Act} {Q : Exit -> Act -> World -> Prop}
theorem i9 {w0 W : World} (base : Nat) (hgd : o.guard = ag) (s x : Operand) (t e : TypeId) (z : Value) (size bytes : Nat)
 (ho : o.op = .call { callee := .builtin .append, args := #[s, x], argTypes := #[t, t] })
 (ht : P.underlying t = ac (.slice e)) (hinfo : (P.info? e).map (fun i => (i.zero, i.size, i.bytes)) = ac (ac z, size, bytes)) (hz : z.cells.size = size) (hs0 : 0 < size) (hb0 : 0 < bytes)
 (v : Value) (n : Nat) (xs ys : List Value) (hs : a.eval s = v) (hx : a.eval x = .slice (ac ⟨W.heap.size, 0, ag⟩) 1 1) (hys : ys.length = size) (h1 : ∀ u ∈ ys, u.oneCell' = af)
 (HO : W.ownsRow base e size v n xs) (HB : Below base w0 W) (hbase : base <= W.heap.size) (hl : (n + 1) * bytes <= 140737488355328)
 (h : ∀ v1 w1, w1.ownsRow base e size v1 (n + 1) (xs ++ ys) -> Below base w0 w1 -> W.grownBy w1 v.ownBlock -> (v1.ownBlock = v.ownBlock \/ ∃ b, v1.ownBlock = ac b /\ W.heap.size <= b) -> wpList P ops Q rest (a.put o.dst v1) w1) :
 wpList P ops Q (o :: rest) a (W.alloc (.cells ys.toArray e)) := by
 obtain ⟨i0, hi, hzz⟩ := gf.1 hinfo
 simp only [Prod.mk.injEq] at hzz
 obtain ⟨hz0, hz1, hz2⟩ := hzz
 have hlen : n + 1 <= 140737488355328 := bh (fo _ hb0) hl
 refine wpList_append_own_at (W.alloc (.cells ys.toArray e)) hgd s x t ho base e i0 z size bytes ht hi hz0 hz1 hz2 hz hs0 v n xs hs (HO.alloc _) ⟨W.heap.size, 0, ag⟩ 1 1 ys hx (by rw [hys]; simp)
  (by simpa using World.news_of_block (cs := ys.toArray) (t := e) (fr := (0, 0)) (heap_alloc_new W (.cells ys.toArray e))) h1 (by simp only [maxLen]; omega) hl (by simp; omega) ?_
 intro v1 w1 hown hg _ hat
 refine h v1 w1 hown ((HB.alloc hbase _).grown hg (by simp; omega) (j8 HO)) (World.grownBy.trans (World.grownBy_alloc W _ _) hg) ?_
 rcases hat with hat | hat
 ·exact .inl hat
 ·exact .inr ⟨_, hat, by simp⟩
end
theorem own_ne {w : World} {base : Nat} {e t : TypeId} {size n g : Nat} {v : Value} {xs : List Value} {cs : Array Value} (h : w.ownsRow base e size v n xs) (hg : w.heap[g]? = ac (.cells cs t (0, 0))) (hne : e ≠ t) : ac g ≠ v.ownBlock := by
 rcases h.2 with ⟨rfl, _⟩ | ⟨g', cap, cur, rfl, _, hh, _⟩
 ·simp [dh]
 ·intro he
  have : g = g' := by simpa [dh] using he
  subst this
  rw [hg] at hh
  injection hh with hh
  injection hh with _ ht
  exact hne ht.symm
theorem bT {w : World} {g : Nat} {t : TypeId} {cs : Array Value} (h : w.heap[g]? = ac (.cells cs t (0, 0))) (i : Nat) (u : Value) : (w.setCell ⟨g, i, ag⟩ u).heap[g]? = ac (.cells (cs.setIfInBounds i u) t (0, 0)) := by
 simp [iu, Array.getElem?_modify, h]
theorem blk_far {w : World} {g : Nat} {t : TypeId} {cs : Array Value} (h : w.heap[g]? = ac (.cells cs t (0, 0))) {p : Addr} (hp : g ≠ p.block) (u : Value) : (w.setCell p u).heap[g]? = ac (.cells cs t (0, 0)) := (dw w p u g hp).trans h
theorem aW {w : World} {g : Nat} {o : Obj} (h : w.heap[g]? = ac o) : g < w.heap.size := (jo.1 h).1
theorem aA {w : World} {g : Nat} {t : TypeId} {cs : Array Value} (h : w.heap[g]? = ac (.cells cs t (0, 0))) (i : Nat) : w.cell? ⟨g, i, ag⟩ = cs[i]? := cell_of_row w g i cs t (0, 0) h
theorem aI {w : World} {g : Nat} {t : TypeId} {cs : Array Value} (h : w.heap[g]? = ac (.cells cs t (0, 0))) (i : Nat) : w.frozen? ⟨g, i, ag⟩ = J := by simp [World.frozen?, h]
theorem fU {w w1 : World} {g : Nat} {o : Obj} {row : Option Nat} (h : w.heap[g]? = ac o) (hg : w.grownBy w1 row) (hne : ac g ≠ row) : w1.heap[g]? = ac o := (hg.block g (aW h) hne).trans h
def gU (w w' : World) (g : Nat) (row : Option Nat) : Prop := w.heap.size <= w'.heap.size /\ ∀ i, i < w.heap.size -> i ≠ g -> ac i ≠ row -> w'.heap[i]? = w.heap[i]?
theorem gU.refl (w : World) (g : Nat) (row : Option Nat) : gU w w g row := ⟨ar _, fun _ _ _ _ => rfl⟩
theorem gU.of_below {w w1 : World} (h : Below w.heap.size w w1) (g : Nat) (row : Option Nat) : gU w w1 g row := ⟨h.size, fun i hi _ _ => h.block i hi⟩
theorem gU.trans {w w1 w2 : World} {g : Nat} {row row1 : Option Nat} (h : gU w w1 g row) (k : gU w1 w2 g row1) (hr : row1 = row \/ ∃ b, row1 = ac b /\ w.heap.size <= b) : gU w w2 g row :=
 ⟨bh h.1 k.1, fun i hi hg hn => by
   refine (k.2 i (bq hi h.1) hg ?_).trans (h.2 i hi hg hn)
   rcases hr with rfl | ⟨b, rfl, hb⟩
   ·exact hn
   ·intro e
    injection e with e
    omega⟩
theorem gU.blk {w w1 : World} {g g' : Nat} {row : Option Nat} {o : Obj} (h : gU w w1 g row) (hb : w.heap[g']? = ac o) (hg : g' ≠ g) (hr : ac g' ≠ row) : w1.heap[g']? = ac o := (h.2 g' (aW hb) hg hr).trans hb
theorem gU.own {w w1 : World} {g : Nat} {row : Option Nat} {base : Nat} {e : TypeId} {size n : Nat} {v : Value} {xs : List Value} (h : gU w w1 g row) (ho : w.ownsRow base e size v n xs) (hg : v.ownBlock ≠ ac g) (hr : v.ownBlock = ag \/ v.ownBlock ≠ row) : w1.ownsRow base e size v n xs := by
 obtain ⟨h1, h2⟩ := ho
 refine ⟨h1, ?_⟩
 rcases h2 with h2 | ⟨b, cap, cur, rfl, hb, hh, r⟩
 ·exact .inl h2
 ·refine .inr ⟨b, cap, cur, rfl, hb, h.blk hh ?_ ?_, r⟩
  ·intro e
   exact hg (by rw [<- e]; rfl)
  ·rcases hr with hr | hr
   ·simp [dh] at hr
   ·exact hr
def Ev {α : Type} (g : Nat -> Option α) (r : α) : Prop := ∃ K, ∀ k, K <= k -> g k = ac r
theorem Ev.bind {α β : Type} {g : Nat -> Option α} {f : Nat -> α -> Option β} {a : α} {r : β} (h : Ev g a) (k : Ev (fun n => f n a) r) : Ev (fun n => (g n).bind (f n)) r := by
 obtain ⟨K, h⟩ := h
 obtain ⟨K', k⟩ := k
 refine ⟨max K K', fun n hn => ?_⟩
 have h1 := h n (by omega)
 have h2 := k n (by omega)
 simp only [h1, jk]
 exact h2
theorem Ev.step {α : Type} {g f : Nat -> Option α} {r : α} (h : ∀ k, g (k + 1) = f k) (k : Ev f r) : Ev g r := by
 obtain ⟨K, k⟩ := k
 refine ⟨K + 1, fun n hn => ?_⟩
 obtain ⟨m, rfl⟩ : ∃ m, n = m + 1 := ⟨n - 1, by omega⟩
 rw [h]
 exact k m (by omega)
theorem Ev.congr {α : Type} {g f : Nat -> Option α} {r : α} (h : ∀ k, g k = f k) (k : Ev f r) : Ev g r := by
 obtain ⟨K, k⟩ := k
 exact ⟨K, fun n hn => (h n).trans (k n hn)⟩
section
variable {P : Program} {ops : Array Oper} {o : Oper} {a : Act} {Q : Exit -> Act -> World -> Prop} {K : Act -> World -> Prop}
theorem nI {w0 W : World} (base : Nat) (hw : dg o (yielded ops a.tmps) = af) (s x : Operand) (t e : TypeId) (z : Value) (size bytes : Nat)
 (ho : o.op = .call { callee := .builtin .append, args := #[s, x], argTypes := #[t, t] })
 (ht : P.underlying t = ac (.slice e)) (hinfo : (P.info? e).map (fun i => (i.zero, i.size, i.bytes)) = ac (ac z, size, bytes)) (hz : z.cells.size = size) (hs0 : 0 < size) (hb0 : 0 < bytes)
 (v : Value) (n : Nat) (xs ys : List Value) (hs : a.eval s = v) (hx : a.eval x = .slice (ac ⟨W.heap.size, 0, ag⟩) 1 1) (hys : ys.length = size) (h1 : ∀ u ∈ ys, u.oneCell' = af)
 (HO : W.ownsRow base e size v n xs) (HB : Below base w0 W) (hbase : base <= W.heap.size) (hl : (n + 1) * bytes <= 140737488355328)
 (h : ∀ v1 w1, w1.ownsRow base e size v1 (n + 1) (xs ++ ys) -> Below base w0 w1 -> W.grownBy w1 v.ownBlock -> (v1.ownBlock = v.ownBlock \/ ∃ b, v1.ownBlock = ac b /\ W.heap.size <= b) -> K (a.put o.dst v1) w1) :
 if dg o (yielded ops a.tmps) = af then jf P o a (W.alloc (.cells ys.toArray e)) K Q else K (a.put o.dst undef) (W.alloc (.cells ys.toArray e)) := by
 obtain ⟨i0, hi, hzz⟩ := gf.1 hinfo
 simp only [Prod.mk.injEq] at hzz
 obtain ⟨hz0, hz1, hz2⟩ := hzz
 have hlen : n + 1 <= 140737488355328 := bh (fo _ hb0) hl
 rw [if_pos hw]
 obtain ⟨v1, w1, hr, hown, hg, _, hat⟩ := run_append_own_at (P := P) (W.alloc (.cells ys.toArray e)) base t o.type e i0 z size bytes ht hi hz0 hz1 hz2 hz hs0 v n xs (HO.alloc _) ⟨W.heap.size, 0, ag⟩ 1 1 ys (by rw [hys]; simp)
  (by simpa using World.news_of_block (cs := ys.toArray) (t := e) (fr := (0, 0)) (heap_alloc_new W (.cells ys.toArray e))) h1 (by simp only [maxLen]; omega) hl (by simp; omega)
 unfold jf execOp
 simp only [ho, resolve, invoke, builtin, Sem.run_bind, Sem.run_pure, Result.andThen_ok, cb, cm, cw, hs, hx, hr]
 refine h v1 w1 hown ((HB.alloc hbase _).grown hg (by simp; omega) (j8 HO)) (World.grownBy.trans (World.grownBy_alloc W _ _) hg) ?_
 rcases hat with hat | hat
 ·exact .inl hat
 ·exact .inr ⟨_, hat, by simp⟩
end
theorem own_weaken {w : World} {base base' : Nat} {e : TypeId} {size n : Nat} {v : Value} {xs : List Value} (h : w.ownsRow base e size v n xs) (hb : base' <= base) : w.ownsRow base' e size v n xs := by
 obtain ⟨h1, h2⟩ := h
 refine ⟨h1, ?_⟩
 rcases h2 with h2 | ⟨g, cap, cur, rfl, hg, r⟩
 ·exact .inl h2
 ·exact .inr ⟨g, cap, cur, rfl, bh hb hg, r⟩
section
variable {α : Type} {enc : α -> Value} {d : α}
def gW (enc : α -> Value) (xs : List α) : List Value := xs.map enc
def rdOf (d : α) (xs : List α) (i : Int) : α := xs.getD i.toNat d
theorem iG (xs : List α) : (gW enc xs).length = xs.length := by simp [gW]
theorem encs_append (xs ys : List α) : gW enc (xs ++ ys) = gW enc xs ++ gW enc ys := by simp [gW]
theorem encs_get (xs : List α) (j : Nat) (h : j < xs.length) : (gW enc xs)[j]? = ac (enc (xs.getD j d)) := by
 simp [gW, az h, au]
def eR (enc : α -> Value) (d : α) (w : World) (A : Option Addr) (n : Nat) (xs : List α) : Prop :=
 xs.length = n /\ n <= 9223372036854775807 /\ (0 < n -> ∃ ad, A = ac ad /\ ∀ j, j < n -> w.cell? (ad.add j) = ac (enc (xs.getD j d)))
theorem eR.at_ {w : World} {A : Option Addr} {n : Nat} {xs : List α} (h : eR enc d w A n xs) (i : Int) (h0 : 0 <= i) (h1 : i < n) : ∃ ad, A = ac ad /\ w.cell? (ad.add i.toNat) = ac (enc (rdOf d xs i)) := by
 obtain ⟨ad, e, hc⟩ := h.2.2 (by omega)
 exact ⟨ad, e, hc _ (by omega)⟩
theorem eR.below {w w1 : World} {A : Option Addr} {n : Nat} {xs : List α} (h : eR enc d w A n xs) (hb : Below w.heap.size w w1) : eR enc d w1 A n xs :=
 ⟨h.1, h.2.1, fun hn => by
   obtain ⟨ad, e, hc⟩ := h.2.2 hn
   exact ⟨ad, e, fun j hj => jW hb (hc j hj)⟩⟩
theorem eR.dP {w : World} {A : Option Addr} {n : Nat} {xs : List α} (h : eR enc d w A n xs) (i : Nat) (hi : i <= n) : eR enc d w A i (xs.take i) := by
 refine ⟨by rw [cn, h.1]; omega, by have := h.2.1; omega, fun hp => ?_⟩
 obtain ⟨ad, e, hc⟩ := h.2.2 (by omega)
 refine ⟨ad, e, fun j hj => ?_⟩
 rw [hc j (by omega)]
 simp [au, hj]
theorem own_lit_of (W : World) (base : Nat) (e : TypeId) (xs : List α) (hb : base <= W.heap.size) (hm : xs.length <= 9223372036854775807) :
 (W.alloc (.cells (gW enc xs).toArray e)).ownsRow base e 1 (.slice (ac ⟨W.heap.size, 0, ag⟩) xs.length xs.length) xs.length (gW enc xs) := by
 have h := World.ownsRow_lit (base := base) (e := e) (size := 1) W (gW enc xs).toArray xs.length hb (by simpa [maxLen] using hm) (by simp [gW])
 simpa using h
theorem own_at_of {W : World} {base g n cap : Nat} {e : TypeId} {xs : List α} (h : W.ownsRow base e 1 (.slice (ac ⟨g, 0, ag⟩) n cap) n (gW enc xs)) (i : Int) (h0 : 0 <= i) (h1 : i < n) :
 W.cell? ⟨g, i.toNat, ag⟩ = ac (enc (rdOf d xs i)) /\ W.frozen? ⟨g, i.toNat, ag⟩ = J := by
 have hl : xs.length = n := by have := h.1; simp [gW] at this; exact this
 constructor
 ·have hc := h.cells (g := g) rfl i.toNat _ (encs_get (d := d) xs i.toNat (by omega))
  rwa [add_plain] at hc
 ·rcases h.2 with ⟨h', _⟩ | ⟨g', cap', cur, h', _, hh, _⟩
  ·cases h'
  ·have : g = g' := by injection h' with h'; injection h' with h'; injection h' with h'
   subst this
   simp [World.frozen?, hh]
end
section
variable {α : Type} {P : Program} {ops : Array Oper} {rest : List Oper} {o : Oper} {a : Act} {Q : Exit -> Act -> World -> Prop}
theorem lW {w0 W : World} (enc : α -> Value) (d : α) (base : Nat) (hgd : o.guard = ag) (s x : Operand) (t e : TypeId) (z : Value) (bytes : Nat)
 (ho : o.op = .call { callee := .builtin .append, args := #[s, x], argTypes := #[t, t] })
 (ht : P.underlying t = ac (.slice e)) (hinfo : (P.info? e).map (fun i => (i.zero, i.size, i.bytes)) = ac (ac z, 1, bytes)) (hz : z.cells.size = 1) (hb0 : 0 < bytes) (h1 : ∀ x : α, (enc x).oneCell' = af)
 (v : Value) (xs ys : List α) (A : Option Addr) (m c : Nat) (hs : a.eval s = v) (hx : a.eval x = .slice A m c)
 (HO : W.ownsRow base e 1 v xs.length (gW enc xs)) (HR : eR enc d W A m ys) (HB : Below base w0 W) (hbase : base <= W.heap.size) (hl : (xs.length + m) * bytes <= 140737488355328)
 (h : ∀ v1 w1, w1.ownsRow base e 1 v1 (xs ++ ys).length (gW enc (xs ++ ys)) -> Below base w0 w1 -> W.grownBy w1 v.ownBlock -> (v1.ownBlock = v.ownBlock \/ ∃ b, v1.ownBlock = ac b /\ W.heap.size <= b) -> wpList P ops Q rest (a.put o.dst v1) w1) :
 wpList P ops Q (o :: rest) a W := by
 obtain ⟨i0, hi, hzz⟩ := gf.1 hinfo
 simp only [Prod.mk.injEq] at hzz
 obtain ⟨hz0, hz1, hz2⟩ := hzz
 have hm : ys.length = m := HR.1
 have hlen : xs.length + m <= 140737488355328 := bh (fo _ hb0) hl
 have hrun : ∃ v1 w1, (Builtin.append_ #[t, t] o.type #[v, .slice A m c]).run P W = .ok v1 w1 /\ w1.ownsRow base e 1 v1 (xs ++ ys).length (gW enc (xs ++ ys)) /\ W.grownBy w1 v.ownBlock /\ (v1.ownBlock = v.ownBlock \/ v1.ownBlock = ac W.heap.size) := by
  rcases A with _ | ad
  ·have h0 : m = 0 := by
    rcases cf m with h0 | h0
    ·exact h0
    ·obtain ⟨ad, h, _⟩ := HR.2.2 h0
     cases h
   subst h0
   obtain rfl : ys = [] := cg hm
   refine ⟨v, W, ?_, by simpa using HO, World.grownBy.refl W _, .inl rfl⟩
   rcases HO.2 with ⟨rfl, hn⟩ | ⟨g, cap, cur, rfl, _, _, hnc, _⟩
   ·simp [Builtin.append_, run_underlying ht, sizeOf, typeInfo, hi, Builtin.lenOf, Builtin.firstCells]
   ·simp [Builtin.append_, run_underlying ht, sizeOf, typeInfo, hi, Builtin.lenOf, Builtin.firstCells, hnc, storeCells]
  ·have hcells : ∀ j u, (gW enc ys)[j]? = ac u -> W.cell? (ad.add j) = ac u := by
    intro j u hu
    have hj : j < ys.length := by
     rcases gj j ys.length with h | h
     ·exact h
     ·simp [gW, ed h] at hu
    obtain ⟨ad', h', hc⟩ := HR.2.2 (by omega)
    injection h' with h'
    subst h'
    rw [encs_get (d := d) ys j hj] at hu
    rw [<- hu]
    exact hc j (by omega)
   obtain ⟨v1, w1, hr, h2, h3, _, h5⟩ := run_append_own_at (P := P) W base t o.type e i0 z 1 bytes ht hi hz0 hz1 hz2 hz (by omega) v xs.length (gW enc xs) HO ad m c (gW enc ys) (by simp [gW, hm]) hcells
    (by intro u hu; simp only [gW, List.mem_map] at hu; obtain ⟨q, _, rfl⟩ := hu; exact h1 q) (by simp only [maxLen]; omega) hl hbase
   exact ⟨v1, w1, hr, by simpa [gW, hm] using h2, h3, h5⟩
 obtain ⟨v1, w1, hr, hown, hg, hat⟩ := hrun
 refine wpList_plain hgd fun K hK => ?_
 unfold jf execOp
 simp only [ho, resolve, invoke, builtin, Sem.run_bind, Sem.run_pure, Result.andThen_ok, cb, cm, cw, hs, hx, hr]
 refine hK _ _ (h v1 w1 hown (HB.grown hg hbase (j8 HO)) hg ?_)
 rcases hat with hat | hat
 ·exact .inl hat
 ·exact .inr ⟨_, hat, ar _⟩
end
theorem eP {w : World} {g : Nat} {o : Obj} (h : w.heap[g]? = ac o) (o' : Obj) : (w.alloc o').heap[g]? = ac o := (gn w o' g (aW h)).trans h
theorem blk_drew {w : World} {g : Nat} {o : Obj} (h : w.heap[g]? = ac o) : w.drew.heap[g]? = ac o := h
theorem blk_drewN {w : World} {g : Nat} {o : Obj} (h : w.heap[g]? = ac o) (n : Nat) : (w.drewN n).heap[g]? = ac o := h
theorem aB {w w1 : World} {g : Nat} {o : Obj} (h : w.heap[g]? = ac o) (hb : Below w.heap.size w w1) : w1.heap[g]? = ac o := (hb.block g (aW h)).trans h
theorem aV (w : World) (o : Obj) : (w.alloc o).heap[w.heap.size]? = ac o := heap_alloc_new w o
theorem own_le {w : World} {base n m c size : Nat} {e : TypeId} {A : Option Addr} {xs : List Value} (h : w.ownsRow base e size (.slice A m c) n xs) : m <= c := by
 rcases h.2 with ⟨he, _⟩ | ⟨g, cap, cur, he, _, _, hnc, _⟩
 ·injection he with _ h2 h3
  omega
 ·injection he with _ h2 h3
  omega
def d8 {α : Type} (R : α -> List Value -> Prop) (e : TypeId) (size : Nat) (w : World) (base : Nat) (v : Value) (ps : List α) : Prop :=
 ∃ inner, w.ownsRow base e size v ps.length inner /\ dF R size ps inner
section
variable {α : Type} {R R' : α -> List Value -> Prop} {e : TypeId} {size : Nat} {w w1 : World} {base : Nat} {v : Value} {ps : List α}
theorem d8.none_ (R : α -> List Value -> Prop) (e : TypeId) (size : Nat) (w : World) (base : Nat) : d8 R e size w base (.slice ag 0 0) [] := ⟨[], own_nil _ _ _ _, dF.none _ _⟩
theorem d8.imp_ (h : d8 R e size w base v ps) (hR : ∀ p c, R p c -> R' p c) : d8 R' e size w base v ps := by
 obtain ⟨inner, ho, hr⟩ := h
 exact ⟨inner, ho, hr.imp_ hR⟩
theorem d8.below (h : d8 R e size w base v ps) (hb : Below w.heap.size w w1) : d8 R e size w1 base v ps := by
 obtain ⟨inner, ho, hr⟩ := h
 exact ⟨inner, pw_own_below ho hb, hr⟩
theorem d8.other (h : d8 R e size w base v ps) {row : Option Nat} (hg : w.grownBy w1 row) (hne : v.ownBlock = ag \/ v.ownBlock ≠ row) : d8 R e size w1 base v ps := by
 obtain ⟨inner, ho, hr⟩ := h
 exact ⟨inner, own_other ho hg hne, hr⟩
theorem d8.lower (h : d8 R e size w base v ps) {base' : Nat} (hb : base' <= base) : d8 R e size w base' v ps := by
 obtain ⟨inner, ho, hr⟩ := h
 exact ⟨inner, own_weaken ho hb, hr⟩
theorem d8.reads (h : d8 R e size w base v ps) : ∃ A c, v = .slice A ps.length c /\ ps.length <= c /\ eM R size w A ps.length ps := by
 obtain ⟨inner, ho, hr⟩ := h
 obtain ⟨A, c, rfl, hrow⟩ := own_reads_row ho hr rfl
 exact ⟨A, c, rfl, own_le ho, hrow⟩
theorem d8.ne_block (h : d8 R e size w base v ps) {g : Nat} {t : TypeId} {cells : Array Value} (hb : w.heap[g]? = ac (.cells cells t (0, 0))) (ht : e ≠ t) : ac g ≠ v.ownBlock := by
 obtain ⟨inner, ho, hr⟩ := h
 exact own_ne ho hb ht
theorem d8.lit (W : World) (base : Nat) {inner : List Value} (hr : dF R size ps inner) (hb : base <= W.heap.size) (hm : ps.length <= 9223372036854775807) :
 d8 R e size (W.alloc (.cells inner.toArray e)) base (.slice (ac ⟨W.heap.size, 0, ag⟩) ps.length ps.length) ps := by
 have h := World.ownsRow_lit (base := base) (e := e) (size := size) W inner.toArray ps.length hb (by simpa [maxLen] using hm) (by simpa using hr.1)
 exact ⟨inner, by simpa using h, hr⟩
end
section
variable {P : Program} {ops : Array Oper} {rest : List Oper} {o : Oper} {a : Act} {Q : Exit -> Act -> World -> Prop} {α : Type} {R : α -> List Value -> Prop}
theorem d8.append {w0 W : World} (base : Nat) (hgd : o.guard = ag) (s x : Operand) (t e : TypeId) (z : Value) (size bytes : Nat)
 (ho : o.op = .call { callee := .builtin .append, args := #[s, x], argTypes := #[t, t] })
 (ht : P.underlying t = ac (.slice e)) (hinfo : (P.info? e).map (fun i => (i.zero, i.size, i.bytes)) = ac (ac z, size, bytes)) (hz : z.cells.size = size) (hs0 : 0 < size) (hb0 : 0 < bytes)
 (v : Value) (ps : List α) (p : α) (cs : List Value) (hs : a.eval s = v) (hx : a.eval x = .slice (ac ⟨W.heap.size, 0, ag⟩) 1 1) (hp : R p cs) (hcs : cs.length = size) (h1 : ∀ u ∈ cs, u.oneCell' = af)
 (HO : d8 R e size W base v ps) (HB : Below base w0 W) (hbase : base <= W.heap.size) (hl : (ps.length + 1) * bytes <= 140737488355328)
 (h : ∀ v1 w1, d8 R e size w1 base v1 (ps ++ [p]) -> Below base w0 w1 -> W.grownBy w1 v.ownBlock -> (v1.ownBlock = v.ownBlock \/ ∃ b, v1.ownBlock = ac b /\ W.heap.size <= b) -> wpList P ops Q rest (a.put o.dst v1) w1) :
 wpList P ops Q (o :: rest) a (W.alloc (.cells cs.toArray e)) := by
 obtain ⟨inner, hown, hr⟩ := HO
 refine i9 base hgd s x t e z size bytes ho ht hinfo hz hs0 hb0 v ps.length inner cs hs hx hcs h1 hown HB hbase hl ?_
 intro v1 w1 hown1 hb1 hg1 hat1
 exact h v1 w1 ⟨inner ++ cs, by rw [ay, bk]; exact hown1, hr.snoc hp hcs⟩ hb1 hg1 hat1
end
theorem eM.inner_ {α : Type} {R : α -> List Value -> Prop} {size : Nat} {w : World} {ad : Addr} {n : Nat} {ps : List α} (h : eM R size w (ac ad) n ps) :
 ∃ inner, dF R size ps inner /\ ∀ j u, inner[j]? = ac u -> w.cell? (ad.add j) = ac u := by
 have key : ∀ m, m <= ps.length -> ∃ inner, dF R size (ps.take m) inner /\ ∀ j u, inner[j]? = ac u -> w.cell? (ad.add j) = ac u := by
  intro m
  induction m with
  | zero => exact fun _ => ⟨[], dF.none _ _, fun j u hu => by simp at hu⟩
  | succ m ih =>
    intro hm
    obtain ⟨inner, hr, hc⟩ := ih (by omega)
    obtain ⟨ad', he, hcell⟩ := h.2.2 (by have := h.1; omega)
    injection he with he
    subst he
    obtain ⟨c, hcl, hp, hcc⟩ := hcell m _ (az (show m < ps.length by omega))
    refine ⟨inner ++ c, ?_, fun j u hu => ?_⟩
    ·rw [List.take_succ_eq_append_getElem (show m < ps.length by omega)]
     exact hr.snoc hp hcl
    ·have hil : inner.length = m * size := by rw [hr.1, cn, cy (by omega)]
     rcases gj j inner.length with hj | hj
     ·rw [je hj] at hu
      exact hc j u hu
     ·rw [List.getElem?_append_right hj] at hu
      have := hcc (j - inner.length) u hu
      rwa [hil, Nat.add_sub_cancel' (by omega)] at this
 obtain ⟨inner, hr, hc⟩ := key ps.length (ar _)
 rw [di] at hr
 exact ⟨inner, hr, hc⟩
structure Kd (α : Type) where
 sz : Nat
 E : List Nat
 K : World -> α -> List Value -> Prop
 M : World -> Nat -> (Nat -> Prop) -> α -> List Value -> Prop
 K_len : ∀ {w x cs}, K w x cs -> cs.length = sz
 K_one : ∀ {w x cs}, K w x cs -> ∀ u ∈ cs, u.oneCell' = af
 K_below : ∀ {w w1 : World} {x cs}, Below w.heap.size w w1 -> K w x cs -> K w1 x cs
 K_of_M : ∀ {w base ok x cs}, M w base ok x cs -> K w x cs
 M_mono : ∀ {w base ok ok' x cs}, (∀ k, ok k -> ok' k) -> M w base ok x cs -> M w base ok' x cs
 M_bound : ∀ {w : World} {base ok x cs}, M w base ok x cs -> M w base (fun k => ok k /\ base <= k /\ k < w.heap.size /\ ∃ q, q ∈ E /\ ∃ cells, w.heap[k]? = ac (.cells cells q (0, 0))) x cs
 M_move : ∀ {w w1 : World} {base ok x cs}, (∀ k, ok k -> w1.heap[k]? = w.heap[k]?) -> M w base ok x cs -> M w1 base ok x cs
 M_lower : ∀ {w base base' ok x cs}, base' <= base -> M w base ok x cs -> M w base' ok x cs
theorem own_move {w w1 : World} {base : Nat} {e : TypeId} {size n : Nat} {v : Value} {xs : List Value} (h : w.ownsRow base e size v n xs) (hm : ∀ k, v.ownBlock = ac k -> w1.heap[k]? = w.heap[k]?) : w1.ownsRow base e size v n xs := by
 obtain ⟨h1, h2⟩ := h
 refine ⟨h1, ?_⟩
 rcases h2 with h2 | ⟨g, cap, cur, rfl, hg, hh, r⟩
 ·exact .inl h2
 ·exact .inr ⟨g, cap, cur, rfl, hg, (hm g (by simp [dh])).trans hh, r⟩
theorem dY {w : World} {base : Nat} {e : TypeId} {size n : Nat} {v : Value} {xs : List Value} (h : w.ownsRow base e size v n xs) (k : Nat) (hk : v.ownBlock = ac k) : ∃ cells, w.heap[k]? = ac (.cells cells e (0, 0)) := by
 rcases h.2 with ⟨rfl, _⟩ | ⟨g, cap, cur, rfl, hg, hh, r⟩
 ·simp [dh] at hk
 ·have : g = k := by simpa [dh] using hk
  subst this
  exact ⟨cur, hh⟩
namespace Kd
def C {α : Type} (d : Kd α) (w : World) (A : Option Addr) (n : Nat) (xs : List α) : Prop := eM (d.K w) d.sz w A n xs
def R {α : Type} (d : Kd α) (e : Nat) (w : World) (base : Nat) (ok : Nat -> Prop) (v : Value) (xs : List α) : Prop :=
 (∀ k, v.ownBlock = ac k -> ok k) /\ d8 (d.M w base (fun k => ok k /\ ac k ≠ v.ownBlock)) e d.sz w base v xs
section
variable {α : Type} {d : Kd α} {e : Nat} {w w1 : World} {base : Nat} {ok ok' : Nat -> Prop} {v : Value} {xs : List α}
theorem aF {A : Option Addr} {n : Nat} (h : d.C w A n xs) (hb : Below w.heap.size w w1) : d.C w1 A n xs := eM.imp_ h hb (fun _ _ hp => d.K_below hb hp)
theorem jN (d : Kd α) (e : Nat) (w : World) (base : Nat) (ok : Nat -> Prop) : d.R e w base ok (.slice ag 0 0) [] := ⟨fun k hk => by simp [dh] at hk, d8.none_ _ _ _ _ _⟩
theorem eD (h : d.R e w base ok v xs) (hok : ∀ k, ok k -> ok' k) : d.R e w base ok' v xs := ⟨fun k hk => hok k (h.1 k hk), h.2.imp_ (fun _ _ hp => d.M_mono (fun k hk => ⟨hok k hk.1, hk.2⟩) hp)⟩
theorem eG (h : d.R e w base ok v xs) : d.R e w base (fun k => ok k /\ base <= k /\ k < w.heap.size /\ ∃ q, q ∈ e :: d.E /\ ∃ cells, w.heap[k]? = ac (.cells cells q (0, 0))) v xs := by
 obtain ⟨h0, inner, ho, hr⟩ := h
 refine ⟨fun k hk => ?_, inner, ho, hr.imp_ (fun _ _ hp => d.M_mono (fun k hk => ?_) (d.M_bound hp))⟩
 ·obtain ⟨cells, hc⟩ := dY ho k hk
  exact ⟨h0 k hk, j8 ho k hk, qU ho k hk, e, ji, cells, hc⟩
 ·obtain ⟨⟨h1, h2⟩, h3, h4, q, hq, hc⟩ := hk
  exact ⟨⟨h1, h3, h4, q, List.mem_cons_of_mem _ hq, hc⟩, h2⟩
theorem R_move (h : d.R e w base ok v xs) (hm : ∀ k, ok k -> w1.heap[k]? = w.heap[k]?) : d.R e w1 base ok v xs := by
 obtain ⟨h0, inner, ho, hr⟩ := h
 exact ⟨h0, inner, own_move ho (fun k hk => hm k (h0 k hk)), hr.imp_ (fun _ _ hp => d.M_move (fun k hk => hm k hk.1) hp)⟩
theorem fX {base' : Nat} (h : d.R e w base ok v xs) (hb : base' <= base) : d.R e w base' ok v xs := by
 obtain ⟨h0, inner, ho, hr⟩ := h
 exact ⟨h0, inner, own_weaken ho hb, hr.imp_ (fun _ _ hp => d.M_lower hb hp)⟩
theorem R_step (h : d.R e w base ok v xs) (hm : ∀ k, ok k -> k < w.heap.size -> w1.heap[k]? = w.heap[k]?) : d.R e w1 base ok v xs :=
 eD (R_move (eG h) (fun k hk => hm k hk.1 hk.2.2.1)) (fun _ hk => hk.1)
theorem M_step {x : α} {cs : List Value} (h : d.M w base ok x cs) (hm : ∀ k, ok k -> k < w.heap.size -> w1.heap[k]? = w.heap[k]?) : d.M w1 base ok x cs :=
 d.M_mono (fun _ hk => hk.1) (d.M_move (fun k hk => hm k hk.1 hk.2.2.1) (d.M_bound h))
theorem bK (h : d.R e w base ok v xs) (hb : Below w.heap.size w w1) : d.R e w1 base ok v xs := R_step h (fun k _ hk => hb.block k hk)
theorem M_below {x : α} {cs : List Value} (h : d.M w base ok x cs) (hb : Below w.heap.size w w1) : d.M w1 base ok x cs := M_step h (fun k _ hk => hb.block k hk)
theorem nJ (h : d.R e w base ok v xs) {row : Option Nat} (hg : w.grownBy w1 row) (hok : ∀ k, ok k -> ac k ≠ row) : d.R e w1 base ok v xs := R_step h (fun k ho hk => hg.block k hk (hok k ho))
theorem cJ (h : d.R e w base ok v xs) {p : Addr} (hok : ∀ k, ok k -> k ≠ p.block) (u : Value) : d.R e (w.setCell p u) base ok v xs := R_step h (fun k ho _ => dw w p u k (hok k ho))
theorem R_types (h : d.R e w base ok v xs) {g t : Nat} {cells : Array Value} (hb : w.heap[g]? = ac (.cells cells t (0, 0))) (ht : ∀ q, q ∈ e :: d.E -> q ≠ t) : d.R e w base (fun k => ok k /\ k ≠ g) v xs :=
 eD (eG h) (fun k hk => ⟨hk.1, by
  obtain ⟨_, _, _, q, hq, cells', hc⟩ := hk
  rintro rfl
  rw [hc] at hb
  injection hb with hb
  injection hb with _ hb
  exact ht q hq hb⟩)
theorem R_set (h : d.R e w base ok v xs) {g t : Nat} {cells : Array Value} (hb : w.heap[g]? = ac (.cells cells t (0, 0))) (ht : ∀ q, q ∈ e :: d.E -> q ≠ t) (j : Nat) (u : Value) : d.R e (w.setCell ⟨g, j, ag⟩ u) base ok v xs :=
 eD (cJ (p := ⟨g, j, ag⟩) (R_types h hb ht) (fun _ hk => hk.2) u) (fun _ hk => hk.1)
theorem d7 (h : d.R e w base ok v xs) : ∃ A c, v = .slice A xs.length c /\ xs.length <= c /\ d.C w A xs.length xs := by
 obtain ⟨A, c, he, hl, hr⟩ := d8.reads h.2
 exact ⟨A, c, he, hl, hr.imp_ (aq _ _) (fun _ _ hp => d.K_of_M hp)⟩
theorem cD (h : d.R e w base ok v xs) : ∃ A c, v = .slice A xs.length c := by
 obtain ⟨A, c, he, _⟩ := d7 h
 exact ⟨A, c, he⟩
theorem mJ (h : d.R e w base ok v xs) : ∃ inner, w.ownsRow base e d.sz v xs.length inner := by
 obtain ⟨_, inner, ho, _⟩ := h
 exact ⟨inner, ho⟩
theorem R_ne (h : d.R e w base ok v xs) {g t : Nat} {cells : Array Value} (hb : w.heap[g]? = ac (.cells cells t (0, 0))) (ht : e ≠ t) : ac g ≠ v.ownBlock := d8.ne_block h.2 hb ht
end
def scalar {α : Type} (enc : α -> Value) (h1 : ∀ x, (enc x).oneCell' = af) : Kd α where
 sz := 1
 E := []
 K := fun _ x cs => cs = [enc x]
 M := fun _ _ _ x cs => cs = [enc x]
 K_len := fun h => by rw [h]; rfl
 K_one := fun h u hu => by
  rw [h] at hu
  rw [List.mem_singleton.1 hu]
  exact h1 _
 K_below := fun _ h => h
 K_of_M := fun h => h
 M_mono := fun _ h => h
 M_bound := fun h => h
 M_move := fun _ h => h
 M_lower := fun _ h => h
def int (k : IntKind) : Kd Int := scalar (ba k) (fun _ => rfl)
def bool : Kd Bool := scalar ia (fun _ => rfl)
def string : Kd ByteArray := scalar Value.string (fun _ => rfl)
def slice {α : Type} (e : Nat) (d : Kd α) : Kd (List α) where
 sz := 1
 E := e :: d.E
 K := fun w xs cs => ∃ A c, cs = [.slice A xs.length c] /\ xs.length <= c /\ d.C w A xs.length xs
 M := fun w base ok xs cs => ∃ v, cs = [v] /\ d.R e w base ok v xs
 K_len := by
  rintro w x cs ⟨A, c, rfl, _⟩
  rfl
 K_one := by
  rintro w x cs ⟨A, c, rfl, _⟩ u hu
  rw [List.mem_singleton.1 hu]
  rfl
 K_below := by
  rintro w w1 x cs hb ⟨A, c, rfl, hl, hr⟩
  exact ⟨A, c, rfl, hl, aF hr hb⟩
 K_of_M := by
  rintro w base ok x cs ⟨v, rfl, h⟩
  obtain ⟨A, c, rfl, hl, hr⟩ := d7 h
  exact ⟨A, c, rfl, hl, hr⟩
 M_mono := by
  rintro w base ok ok' x cs hok ⟨v, rfl, h⟩
  exact ⟨v, rfl, eD h hok⟩
 M_bound := by
  rintro w base ok x cs ⟨v, rfl, h⟩
  exact ⟨v, rfl, eG h⟩
 M_move := by
  rintro w w1 base ok x cs hm ⟨v, rfl, h⟩
  exact ⟨v, rfl, R_move h hm⟩
 M_lower := by
  rintro w base base' ok x cs hb ⟨v, rfl, h⟩
  exact ⟨v, rfl, fX h hb⟩
def pair {α β : Type} (a : Kd α) (b : Kd β) : Kd (α × β) where
 sz := a.sz + b.sz
 E := a.E ++ b.E
 K := fun w x cs => ∃ c0 c1, cs = c0 ++ c1 /\ a.K w x.1 c0 /\ b.K w x.2 c1
 M := fun w base ok x cs => ∃ c0 c1, cs = c0 ++ c1 /\ a.M w base ok x.1 c0 /\ b.M w base ok x.2 c1
 K_len := by
  rintro w x cs ⟨c0, c1, rfl, h0, h1⟩
  rw [ay, a.K_len h0, b.K_len h1]
 K_one := by
  rintro w x cs ⟨c0, c1, rfl, h0, h1⟩ u hu
  rcases fu.1 hu with hu | hu
  ·exact a.K_one h0 u hu
  ·exact b.K_one h1 u hu
 K_below := by
  rintro w w1 x cs hb ⟨c0, c1, rfl, h0, h1⟩
  exact ⟨c0, c1, rfl, a.K_below hb h0, b.K_below hb h1⟩
 K_of_M := by
  rintro w base ok x cs ⟨c0, c1, rfl, h0, h1⟩
  exact ⟨c0, c1, rfl, a.K_of_M h0, b.K_of_M h1⟩
 M_mono := by
  rintro w base ok ok' x cs hok ⟨c0, c1, rfl, h0, h1⟩
  exact ⟨c0, c1, rfl, a.M_mono hok h0, b.M_mono hok h1⟩
 M_bound := by
  rintro w base ok x cs ⟨c0, c1, rfl, h0, h1⟩
  refine ⟨c0, c1, rfl, a.M_mono ?_ (a.M_bound h0), b.M_mono ?_ (b.M_bound h1)⟩
  ·rintro k ⟨h2, h3, h4, q, hq, hc⟩
   exact ⟨h2, h3, h4, q, List.mem_append_left _ hq, hc⟩
  ·rintro k ⟨h2, h3, h4, q, hq, hc⟩
   exact ⟨h2, h3, h4, q, List.mem_append_right _ hq, hc⟩
 M_move := by
  rintro w w1 base ok x cs hm ⟨c0, c1, rfl, h0, h1⟩
  exact ⟨c0, c1, rfl, a.M_move hm h0, b.M_move hm h1⟩
 M_lower := by
  rintro w base base' ok x cs hb ⟨c0, c1, rfl, h0, h1⟩
  exact ⟨c0, c1, rfl, a.M_lower hb h0, b.M_lower hb h1⟩
def iso {α β : Type} (d : Kd α) (f : β -> α) : Kd β where
 sz := d.sz
 E := d.E
 K := fun w x cs => d.K w (f x) cs
 M := fun w base ok x cs => d.M w base ok (f x) cs
 K_len := d.K_len
 K_one := d.K_one
 K_below := d.K_below
 K_of_M := d.K_of_M
 M_mono := d.M_mono
 M_bound := d.M_bound
 M_move := d.M_move
 M_lower := d.M_lower
def bot {α : Type} (sz : Nat) (E : List Nat) : Kd α where
 sz := sz
 E := E
 K := fun _ _ _ => False
 M := fun _ _ _ _ _ => False
 K_len := fun h => h.elim
 K_one := fun h => h.elim
 K_below := fun _ h => h
 K_of_M := fun h => h
 M_mono := fun _ h => h
 M_bound := fun h => h
 M_move := fun _ h => h
 M_lower := fun _ h => h
def upto {α : Type} (F : Kd α -> Kd α) (sz : Nat) (E : List Nat) : Nat -> Kd α
 | 0 => bot sz E
 | n + 1 => F (upto F sz E n)
def fix {α : Type} (F : Kd α -> Kd α) (sz : Nat) (E : List Nat) (hs : ∀ n, (upto F sz E n).sz = sz) (hE : ∀ n q, q ∈ (upto F sz E n).E -> q ∈ E) : Kd α where
 sz := sz
 E := E
 K := fun w x cs => ∃ n, (upto F sz E n).K w x cs
 M := fun w base ok x cs => ∃ n, (upto F sz E n).M w base ok x cs
 K_len := by
  rintro w x cs ⟨n, h⟩
  rw [(upto F sz E n).K_len h, hs n]
 K_one := by
  rintro w x cs ⟨n, h⟩
  exact (upto F sz E n).K_one h
 K_below := by
  rintro w w1 x cs hb ⟨n, h⟩
  exact ⟨n, (upto F sz E n).K_below hb h⟩
 K_of_M := by
  rintro w base ok x cs ⟨n, h⟩
  exact ⟨n, (upto F sz E n).K_of_M h⟩
 M_mono := by
  rintro w base ok ok' x cs hok ⟨n, h⟩
  exact ⟨n, (upto F sz E n).M_mono hok h⟩
 M_bound := by
  rintro w base ok x cs ⟨n, h⟩
  refine ⟨n, (upto F sz E n).M_mono ?_ ((upto F sz E n).M_bound h)⟩
  rintro k ⟨h2, h3, h4, q, hq, hc⟩
  exact ⟨h2, h3, h4, q, hE n q hq, hc⟩
 M_move := by
  rintro w w1 base ok x cs hm ⟨n, h⟩
  exact ⟨n, (upto F sz E n).M_move hm h⟩
 M_lower := by
  rintro w base base' ok x cs hb ⟨n, h⟩
  exact ⟨n, (upto F sz E n).M_lower hb h⟩
theorem oI {α : Type} {d : Kd α} {w : World} {A : Option Addr} {n : Nat} {xs : List α} (h : d.C w A n xs) (z : α) (i : Int) (h0 : 0 <= i) (h1 : i < n) :
 ∃ ad c, A = ac ad /\ c.length = d.sz /\ d.K w (xs.getD i.toNat z) c /\ ∀ j u, c[j]? = ac u -> w.cell? (ad.add (i.toNat * d.sz + j)) = ac u := eM.get_ h z i h0 h1
theorem R_appended {α : Type} {d : Kd α} {e base : Nat} {ok okp : Nat -> Prop} {W w1 : World} {v v1 : Value} {xs : List α} {p : α} {inner cs : List Value} (h0 : ∀ k, v.ownBlock = ac k -> ok k) (hr : dF (d.M W base (fun k => ok k /\ ac k ≠ v.ownBlock)) d.sz xs inner) (hp : d.M W base okp p cs) (hokp : ∀ k, okp k -> ok k /\ ac k ≠ v.ownBlock) (hfresh : ∀ k, W.heap.size <= k -> ok k)
 (hown : w1.ownsRow base e d.sz v1 (xs.length + 1) (inner ++ cs)) (hg : W.grownBy w1 v.ownBlock) (hat : v1.ownBlock = v.ownBlock \/ ∃ b, v1.ownBlock = ac b /\ W.heap.size <= b) : d.R e w1 base ok v1 (xs ++ [p]) := by
 have hne : ∀ k, ac k ≠ v.ownBlock -> k < W.heap.size -> ac k ≠ v1.ownBlock := by
  intro k hk hlt
  rcases hat with hat | ⟨b, hb, hle⟩
  ·rw [hat]; exact hk
  ·rw [hb]
   intro he
   injection he with he
   omega
 have step : ∀ {q : α} {c : List Value} {o : Nat -> Prop}, d.M W base o q c -> (∀ k, o k -> ok k /\ ac k ≠ v.ownBlock) -> d.M w1 base (fun k => ok k /\ ac k ≠ v1.ownBlock) q c := by
  intro q c o hq ho
  have h1 := d.M_move (w1 := w1) (fun k hk => hg.block k hk.2.2.1 (ho k hk.1).2) (d.M_bound hq)
  exact d.M_mono (fun k hk => ⟨(ho k hk.1).1, hne k (ho k hk.1).2 hk.2.2.1⟩) h1
 refine ⟨fun k hk => ?_, inner ++ cs, by rw [ay, bk]; exact hown, ?_⟩
 ·rcases hat with hat | ⟨b, hb, hle⟩
  ·exact h0 k (hat ▸ hk)
  ·rw [hb] at hk
   injection hk with hk
   exact hfresh k (by omega)
 ·exact (hr.imp_ (fun _ _ hq => step hq (fun _ hk => hk))).snoc (step hp hokp) (d.K_len (d.K_of_M hp))
section
variable {P : Program} {ops : Array Oper} {rest : List Oper} {o : Oper} {a : Act} {Q : Exit -> Act -> World -> Prop} {α : Type}
theorem cW (d : Kd α) {w0 W : World} (base : Nat) (hgd : o.guard = ag) (s x : Operand) (t e : TypeId) (z : Value) (bytes : Nat)
 (ho : o.op = .call { callee := .builtin .append, args := #[s, x], argTypes := #[t, t] })
 (ht : P.underlying t = ac (.slice e)) (hinfo : (P.info? e).map (fun i => (i.zero, i.size, i.bytes)) = ac (ac z, d.sz, bytes)) (hz : z.cells.size = d.sz) (hs0 : 0 < d.sz) (hb0 : 0 < bytes)
 (v : Value) (xs : List α) (p : α) (cs : List Value) (ok okp : Nat -> Prop) (hs : a.eval s = v) (hx : a.eval x = .slice (ac ⟨W.heap.size, 0, ag⟩) 1 1) (hp : d.M W base okp p cs) (hokp : ∀ k, okp k -> ok k /\ ac k ≠ v.ownBlock) (hfresh : ∀ k, W.heap.size <= k -> ok k)
 (HO : d.R e W base ok v xs) (HB : Below base w0 W) (hbase : base <= W.heap.size) (hl : (xs.length + 1) * bytes <= 140737488355328)
 (h : ∀ v1 w1, d.R e w1 base ok v1 (xs ++ [p]) -> Below base w0 w1 -> W.grownBy w1 v.ownBlock -> (v1.ownBlock = v.ownBlock \/ ∃ b, v1.ownBlock = ac b /\ W.heap.size <= b) -> wpList P ops Q rest (a.put o.dst v1) w1) :
 wpList P ops Q (o :: rest) a (W.alloc (.cells cs.toArray e)) := by
 obtain ⟨h0, inner, hown, hr⟩ := HO
 refine i9 base hgd s x t e z d.sz bytes ho ht hinfo hz hs0 hb0 v xs.length inner cs hs hx (d.K_len (d.K_of_M hp)) (d.K_one (d.K_of_M hp)) hown HB hbase hl ?_
 intro v1 w1 hown1 hb1 hg1 hat1
 exact h v1 w1 (R_appended h0 hr hp hokp hfresh hown1 hg1 hat1) hb1 hg1 hat1
end
section
variable {P : Program} {ops : Array Oper} {o : Oper} {a : Act} {Q : Exit -> Act -> World -> Prop} {Kc : Act -> World -> Prop} {α : Type}
theorem gX (d : Kd α) {w0 W : World} (base : Nat) (hw : dg o (yielded ops a.tmps) = af) (s x : Operand) (t e : TypeId) (z : Value) (bytes : Nat)
 (ho : o.op = .call { callee := .builtin .append, args := #[s, x], argTypes := #[t, t] })
 (ht : P.underlying t = ac (.slice e)) (hinfo : (P.info? e).map (fun i => (i.zero, i.size, i.bytes)) = ac (ac z, d.sz, bytes)) (hz : z.cells.size = d.sz) (hs0 : 0 < d.sz) (hb0 : 0 < bytes)
 (v : Value) (xs : List α) (p : α) (cs : List Value) (ok okp : Nat -> Prop) (hs : a.eval s = v) (hx : a.eval x = .slice (ac ⟨W.heap.size, 0, ag⟩) 1 1) (hp : d.M W base okp p cs) (hokp : ∀ k, okp k -> ok k /\ ac k ≠ v.ownBlock) (hfresh : ∀ k, W.heap.size <= k -> ok k)
 (HO : d.R e W base ok v xs) (HB : Below base w0 W) (hbase : base <= W.heap.size) (hl : (xs.length + 1) * bytes <= 140737488355328)
 (h : ∀ v1 w1, d.R e w1 base ok v1 (xs ++ [p]) -> Below base w0 w1 -> W.grownBy w1 v.ownBlock -> (v1.ownBlock = v.ownBlock \/ ∃ b, v1.ownBlock = ac b /\ W.heap.size <= b) -> Kc (a.put o.dst v1) w1) :
 if dg o (yielded ops a.tmps) = af then jf P o a (W.alloc (.cells cs.toArray e)) Kc Q else Kc (a.put o.dst undef) (W.alloc (.cells cs.toArray e)) := by
 obtain ⟨h0, inner, hown, hr⟩ := HO
 refine nI base hw s x t e z d.sz bytes ho ht hinfo hz hs0 hb0 v xs.length inner cs hs hx (d.K_len (d.K_of_M hp)) (d.K_one (d.K_of_M hp)) hown HB hbase hl ?_
 intro v1 w1 hown1 hb1 hg1 hat1
 exact h v1 w1 (R_appended h0 hr hp hokp hfresh hown1 hg1 hat1) hb1 hg1 hat1
end
theorem jZ {α : Type} {enc : α -> Value} (xs : List α) : dF (fun (x : α) (cs : List Value) => cs = [enc x]) 1 xs (gW enc xs) := by
 refine ⟨by simp [gW], fun j p hj => ?_⟩
 obtain ⟨hl, hp⟩ := dm.1 hj
 have hl' : j < (gW enc xs).length := by rw [iG]; exact hl
 rw [gu, ig hl']
 simp [gW, hp]
theorem R_of_own {α : Type} {enc : α -> Value} {h1 : ∀ x, (enc x).oneCell' = af} {e : Nat} {w : World} {base : Nat} {ok : Nat -> Prop} {v : Value} {xs : List α} (ho : w.ownsRow base e 1 v xs.length (gW enc xs)) (hok : ∀ k, v.ownBlock = ac k -> ok k) : (scalar enc h1).R e w base ok v xs := ⟨hok, gW enc xs, ho, jZ xs⟩
theorem oR {α : Type} {enc : α -> Value} {h1 : ∀ x, (enc x).oneCell' = af} {e : Nat} {w : World} {base : Nat} {ok : Nat -> Prop} {v : Value} {xs : List α} (h : (scalar enc h1).R e w base ok v xs) : w.ownsRow base e 1 v xs.length (gW enc xs) := by
 obtain ⟨_, inner, ho, hr⟩ := h
 have : inner = gW enc xs := by
  apply List.ext_getElem?
  intro j
  rcases gj j xs.length with hj | hj
  ·have h2 := hr.2 j _ (az hj)
   have hl : j < inner.length := by have := hr.1; simp [scalar] at this; omega
   have h3 : (inner.drop (j * 1)).take 1 = [enc xs[j]] := h2
   rw [gu, ig hl] at h3
   have h4 : inner[j] = enc xs[j] := by
    have h5 := congrArg List.head? h3
    rw [List.take_succ_cons] at h5
    exact ck h5
   rw [az hl, h4]
   simp [gW, az hj]
  ·have h3 : inner.length = xs.length := by have := hr.1; simp [scalar] at this; omega
   rw [ed (by omega), ed (by rw [iG]; omega)]
 rw [<- this]
 exact ho
theorem lC {α : Type} {enc : α -> Value} {d : α} {h1 : ∀ x, (enc x).oneCell' = af} {w : World} {A : Option Addr} {n : Nat} {xs : List α} (h : (scalar enc h1).C w A n xs) : eR enc d w A n xs := by
 refine ⟨h.1, h.2.1, fun hn => ?_⟩
 obtain ⟨ad, e, hc⟩ := h.2.2 hn
 refine ⟨ad, e, fun j hj => ?_⟩
 have hl : j < xs.length := by have := h.1; omega
 obtain ⟨c, _, hK, hcell⟩ := hc j _ (az hl)
 have hK' : c = [enc xs[j]] := hK
 subst hK'
 have := hcell 0 _ rfl
 simpa [scalar, au, az hl] using this
end Kd
namespace Kd
structure Mono {α β : Type} (F : Kd α -> Kd β) : Prop where
 sz : ∀ d d' : Kd α, d.sz = d'.sz -> (F d).sz = (F d').sz
 K : ∀ d d' : Kd α, d.sz = d'.sz -> (∀ w x cs, d.K w x cs -> d'.K w x cs) -> ∀ w x cs, (F d).K w x cs -> (F d').K w x cs
 M : ∀ d d' : Kd α, d.sz = d'.sz -> (∀ w base ok x cs, d.M w base ok x cs -> d'.M w base ok x cs) -> ∀ w base ok x cs, (F d).M w base ok x cs -> (F d').M w base ok x cs
theorem fB {α β : Type} (k : Kd β) : Mono (fun _ : Kd α => k) := ⟨fun _ _ _ => rfl, fun _ _ _ _ _ _ _ h => h, fun _ _ _ _ _ _ _ _ _ h => h⟩
theorem mono_id {α : Type} : Mono (fun d : Kd α => d) := ⟨fun _ _ h => h, fun _ _ _ h => h, fun _ _ _ h => h⟩
theorem C_imp {α : Type} {d d' : Kd α} (hs : d.sz = d'.sz) (h : ∀ w x cs, d.K w x cs -> d'.K w x cs) {w : World} {A : Option Addr} {n : Nat} {xs : List α} (hc : d.C w A n xs) : d'.C w A n xs := by
 unfold C at hc ⊢
 rw [<- hs]
 exact hc.imp_ (aq _ _) (fun _ _ hp => h _ _ _ hp)
theorem R_imp {α : Type} {d d' : Kd α} (hs : d.sz = d'.sz) (h : ∀ w base ok x cs, d.M w base ok x cs -> d'.M w base ok x cs) {e : Nat} {w : World} {base : Nat} {ok : Nat -> Prop} {v : Value} {xs : List α} (hr : d.R e w base ok v xs) : d'.R e w base ok v xs := by
 unfold R at hr ⊢
 rw [<- hs]
 exact ⟨hr.1, hr.2.imp_ (fun _ _ hp => h _ _ _ _ _ hp)⟩
theorem nF {α β : Type} (e : Nat) {G : Kd α -> Kd β} (hG : Mono G) : Mono (fun d => slice e (G d)) := by
 refine ⟨fun _ _ _ => rfl, ?_, ?_⟩
 ·rintro d d' hs h w x cs ⟨A, c, rfl, hl, hr⟩
  exact ⟨A, c, rfl, hl, C_imp (hG.sz d d' hs) (hG.K d d' hs h) hr⟩
 ·rintro d d' hs h w base ok x cs ⟨v, rfl, hr⟩
  exact ⟨v, rfl, R_imp (hG.sz d d' hs) (hG.M d d' hs h) hr⟩
theorem fC {α β γ : Type} {G : Kd α -> Kd β} {H : Kd α -> Kd γ} (hG : Mono G) (hH : Mono H) : Mono (fun d => pair (G d) (H d)) := by
 refine ⟨fun d d' hs => ?_, ?_, ?_⟩
 ·show (G d).sz + (H d).sz = (G d').sz + (H d').sz
  rw [hG.sz d d' hs, hH.sz d d' hs]
 ·rintro d d' hs h w x cs ⟨c0, c1, rfl, h0, h1⟩
  exact ⟨c0, c1, rfl, hG.K d d' hs h _ _ _ h0, hH.K d d' hs h _ _ _ h1⟩
 ·rintro d d' hs h w base ok x cs ⟨c0, c1, rfl, h0, h1⟩
  exact ⟨c0, c1, rfl, hG.M d d' hs h _ _ _ _ _ h0, hH.M d d' hs h _ _ _ _ _ h1⟩
theorem mono_iso {α β γ : Type} {G : Kd α -> Kd β} (f : γ -> β) (hG : Mono G) : Mono (fun d => iso (G d) f) :=
 ⟨hG.sz, fun d d' hs h w x cs => hG.K d d' hs h w (f x) cs, fun d d' hs h w base ok x cs => hG.M d d' hs h w base ok (f x) cs⟩
def Sub {α β : Type} (F : Kd α -> Kd β) (E : List Nat) : Prop := ∀ d : Kd α, (∀ q, q ∈ d.E -> q ∈ E) -> ∀ q, q ∈ (F d).E -> q ∈ E
theorem fV {α β : Type} {E : List Nat} (k : Kd β) (h : ∀ q, q ∈ k.E -> q ∈ E) : Sub (fun _ : Kd α => k) E := fun _ _ => h
theorem sub_id {α : Type} {E : List Nat} : Sub (fun d : Kd α => d) E := fun _ h => h
theorem qF {α β : Type} {E : List Nat} (e : Nat) {G : Kd α -> Kd β} (he : e ∈ E) (hG : Sub G E) : Sub (fun d => slice e (G d)) E := fun d h q hq => by
 rcases gi.1 hq with rfl | hq
 ·exact he
 ·exact hG d h q hq
theorem gN {α β γ : Type} {E : List Nat} {G : Kd α -> Kd β} {H : Kd α -> Kd γ} (hG : Sub G E) (hH : Sub H E) : Sub (fun d => pair (G d) (H d)) E := fun d h q hq => by
 rcases fu.1 hq with hq | hq
 ·exact hG d h q hq
 ·exact hH d h q hq
theorem sub_iso {α β γ : Type} {E : List Nat} {G : Kd α -> Kd β} (f : γ -> β) (hG : Sub G E) : Sub (fun d => iso (G d) f) E := hG
theorem upto_E {α : Type} {F : Kd α -> Kd α} {sz : Nat} {E : List Nat} (h : Sub F E) : ∀ n q, q ∈ (upto F sz E n).E -> q ∈ E
 | 0, _, hq => hq
 | n + 1, q, hq => h _ (upto_E h n) q hq
theorem upto_sz {α : Type} {F : Kd α -> Kd α} {sz : Nat} {E : List Nat} (h : ∀ d : Kd α, (F d).sz = sz) : ∀ n, (upto F sz E n).sz = sz
 | 0 => rfl
 | _ + 1 => h _
section
variable {α : Type} {F : Kd α -> Kd α} {sz : Nat} {E : List Nat} {hs : ∀ n, (upto F sz E n).sz = sz} {hE : ∀ n q, q ∈ (upto F sz E n).E -> q ∈ E}
theorem upto_K (hm : Mono F) (hs : ∀ n, (upto F sz E n).sz = sz) : ∀ n {w x cs}, (upto F sz E n).K w x cs -> (upto F sz E (n + 1)).K w x cs
 | 0, _, _, _, h => h.elim
 | n + 1, _, _, _, h => hm.K _ _ (by rw [hs n, hs (n + 1)]) (fun _ _ _ hk => upto_K hm hs n hk) _ _ _ h
theorem upto_M (hm : Mono F) (hs : ∀ n, (upto F sz E n).sz = sz) : ∀ n {w base ok x cs}, (upto F sz E n).M w base ok x cs -> (upto F sz E (n + 1)).M w base ok x cs
 | 0, _, _, _, _, _, h => h.elim
 | n + 1, _, _, _, _, _, h => hm.M _ _ (by rw [hs n, hs (n + 1)]) (fun _ _ _ _ _ hk => upto_M hm hs n hk) _ _ _ _ _ h
theorem upto_K_le (hm : Mono F) (hs : ∀ n, (upto F sz E n).sz = sz) {n m : Nat} (hnm : n <= m) {w x cs} (h : (upto F sz E n).K w x cs) : (upto F sz E m).K w x cs := by
 obtain ⟨j, rfl⟩ := Nat.exists_eq_add_of_le hnm
 induction j with
 | zero => exact h
 | succ j ih => exact upto_K hm hs _ (ih (by omega))
theorem upto_M_le (hm : Mono F) (hs : ∀ n, (upto F sz E n).sz = sz) {n m : Nat} (hnm : n <= m) {w base ok x cs} (h : (upto F sz E n).M w base ok x cs) : (upto F sz E m).M w base ok x cs := by
 obtain ⟨j, rfl⟩ := Nat.exists_eq_add_of_le hnm
 induction j with
 | zero => exact h
 | succ j ih => exact upto_M hm hs _ (ih (by omega))
theorem fix_C {n : Nat} {w : World} {A : Option Addr} {m : Nat} {xs : List α} (h : (upto F sz E n).C w A m xs) : (fix F sz E hs hE).C w A m xs := C_imp (d' := fix F sz E hs hE) (hs n) (fun w x cs hp => (⟨n, hp⟩ : ∃ n, (upto F sz E n).K w x cs)) h
theorem bounded {P : Nat -> Nat -> Prop} (hP : ∀ n m j, n <= m -> P n j -> P m j) : ∀ m, (∀ j, j < m -> ∃ n, P n j) -> ∃ N, ∀ j, j < m -> P N j
 | 0, _ => ⟨0, fun j hj => absurd hj (cq j)⟩
 | m + 1, h => by
   obtain ⟨N, hN⟩ := bounded hP m (fun j hj => h j (by omega))
   obtain ⟨n, hn⟩ := h m (by omega)
   refine ⟨max N n, fun j hj => ?_⟩
   rcases gj j m with hj' | hj'
   ·exact hP N _ j (Nat.le_max_left _ _) (hN j hj')
   ·have : j = m := by omega
    subst this
    exact hP n _ j (Nat.le_max_right _ _) hn
theorem reps_bounded {α : Type} {R : Nat -> α -> List Value -> Prop} (hR : ∀ n m p c, n <= m -> R n p c -> R m p c) {size : Nat} {ps : List α} {cs : List Value} (h : dF (fun p c => ∃ n, R n p c) size ps cs) : ∃ N, dF (R N) size ps cs := by
 obtain ⟨N, hN⟩ := bounded (P := fun n j => ∀ p, ps[j]? = ac p -> R n p ((cs.drop (j * size)).take size)) (fun n m j hnm hp p hj => hR n m p _ hnm (hp p hj)) ps.length
  (fun j hj => by
    obtain ⟨n, hn⟩ := h.2 j _ (az hj)
    refine ⟨n, fun p hp => ?_⟩
    rw [az hj] at hp
    injection hp with hp
    rw [<- hp]
    exact hn)
 exact ⟨N, h.1, fun j p hj => hN j (dm.1 hj).1 p hj⟩
theorem nD (hm : Mono F) {e : Nat} {w : World} {base : Nat} {ok : Nat -> Prop} {v : Value} {xs : List α} (h : (fix F sz E hs hE).R e w base ok v xs) : ∃ n, (upto F sz E n).R e w base ok v xs := by
 obtain ⟨h0, inner, ho, hr⟩ := h
 obtain ⟨N, hN⟩ := reps_bounded (R := fun n p c => (upto F sz E n).M w base (fun k => ok k /\ ac k ≠ v.ownBlock) p c) (fun n m p c hnm hp => upto_M_le hm hs hnm hp) hr
 refine ⟨N, h0, inner, ?_, ?_⟩
 ·rw [hs N]; exact ho
 ·rw [hs N]; exact hN
theorem nK (hm : Mono F) {w : World} {A : Option Addr} {m : Nat} {xs : List α} (h : (fix F sz E hs hE).C w A m xs) : ∃ n, (upto F sz E n).C w A m xs := by
 rcases cf m with hz | hpos
 ·subst hz
  exact ⟨0, h.1, h.2.1, fun hp => absurd hp (Nat.lt_irrefl 0)⟩
 ·obtain ⟨ad, e, hc⟩ := h.2.2 hpos
  obtain ⟨N, hN⟩ := bounded (P := fun n j => ∀ p, xs[j]? = ac p -> ∃ c, c.length = sz /\ (upto F sz E n).K w p c /\ ∀ i u, c[i]? = ac u -> w.cell? (ad.add (j * sz + i)) = ac u)
   (fun n n' j hnm hp p hj => by
     obtain ⟨c, h1, h2, h3⟩ := hp p hj
     exact ⟨c, h1, upto_K_le hm hs hnm h2, h3⟩) xs.length
   (fun j hj => by
     obtain ⟨c, h1, ⟨n, h2⟩, h3⟩ := hc j _ (az hj)
     refine ⟨n, fun p hp => ?_⟩
     rw [az hj] at hp
     injection hp with hp
     rw [<- hp]
     exact ⟨c, h1, h2, h3⟩)
  refine ⟨N, h.1, h.2.1, fun _ => ⟨ad, e, fun j p hj => ?_⟩⟩
  rw [hs N]
  exact hN j (dm.1 hj).1 p hj
theorem pP (hm : Mono F) (hs : ∀ n, (upto F sz E n).sz = sz) {n m : Nat} (hnm : n <= m) {e : Nat} {w : World} {base : Nat} {ok : Nat -> Prop} {v : Value} {xs : List α} (h : (upto F sz E n).R e w base ok v xs) : (upto F sz E m).R e w base ok v xs := R_imp (by rw [hs n, hs m]) (fun _ _ _ _ _ hp => upto_M_le hm hs hnm hp) h
theorem rC (hm : Mono F) (hs : ∀ n, (upto F sz E n).sz = sz) {n m : Nat} (hnm : n <= m) {w : World} {A : Option Addr} {l : Nat} {xs : List α} (h : (upto F sz E n).C w A l xs) : (upto F sz E m).C w A l xs := C_imp (by rw [hs n, hs m]) (fun _ _ _ hp => upto_K_le hm hs hnm hp) h
end
end Kd
namespace Kd
section
variable {α β : Type} {d : Kd α} {d' : Kd β} {e e' : Nat} {w w1 W : World} {base b b' : Nat} {ok ok' okv oku : Nat -> Prop} {v u : Value} {xs : List α} {ys : List β}
theorem R_alloc (h : d.R e w base ok v xs) (o : Obj) : d.R e (w.alloc o) base ok v xs := bK h (aR (aq _ _) o)
theorem R_drew (h : d.R e w base ok v xs) : d.R e w.drew base ok v xs := bK h (below_drew (aq _ _))
theorem R_drewN (h : d.R e w base ok v xs) (m : Nat) : d.R e (w.drewN m) base ok v xs := bK h (aO (aq _ _) m)
theorem C_nil (d : Kd α) (w : World) : d.C w ag ([] : List α).length [] := ⟨rfl, by simp, fun h => absurd h (Nat.lt_irrefl 0)⟩
theorem oY {A : Option Addr} {n c : Nat} (h : d.R e w base ok (.slice A n c) xs) : n = xs.length /\ n <= c /\ d.C w A xs.length xs := by
 obtain ⟨A', c', he, hl, hr⟩ := d7 h
 injection he with h1 h2 h3
 subst h1
 exact ⟨h2, by omega, hr⟩
theorem R_lt (h : d.R e w base ok v xs) : ∀ k, v.ownBlock = ac k -> k < w.heap.size := by
 obtain ⟨inner, ho⟩ := mJ h
 exact qU ho
theorem R_base (h : d.R e w base ok v xs) : ∀ k, v.ownBlock = ac k -> base <= k := by
 obtain ⟨inner, ho⟩ := mJ h
 exact j8 ho
theorem R_form (h : d.R e w base ok v xs) (hp : 0 < xs.length) : ∃ g cap, v = .slice (ac ⟨g, 0, ag⟩) xs.length cap /\ base <= g /\ g < w.heap.size /\ ∃ cells, w.heap[g]? = ac (.cells cells e (0, 0)) := by
 obtain ⟨inner, ho⟩ := mJ h
 obtain ⟨g, cap, he, hb, hl⟩ := ho.form hp
 obtain ⟨cells, hc⟩ := dY ho g (by rw [he]; simp [dh])
 exact ⟨g, cap, he, hb, hl, cells, hc⟩
end
section
variable {w W : World} {A : Option Addr} {n : Nat}
theorem at_int {k : IntKind} {xs : List Int} (h : (Kd.int k).C w A n xs) (i : Int) (h0 : 0 <= i) (h1 : i < n) : ∃ ad, A = ac ad /\ w.cell? (ad.add i.toNat) = ac (.int k (rd xs i)) :=
 eR.at_ (lC (enc := ba k) (d := (0 : Int)) (h1 := fun _ => rfl) h) i h0 h1
theorem mV {xs : List ByteArray} (h : Kd.string.C w A n xs) (i : Int) (h0 : 0 <= i) (h1 : i < n) : ∃ ad, A = ac ad /\ w.cell? (ad.add i.toNat) = ac (.string (rdOf fe xs i)) :=
 eR.at_ (lC (enc := Value.string) (d := fe) (h1 := fun _ => rfl) h) i h0 h1
variable {α : Type} {enc : α -> Value} {h1 : ∀ x, (enc x).oneCell' = af} {e base g cap : Nat} {ok : Nat -> Prop} {xs : List α}
theorem R_cell (d : α) (h : (scalar enc h1).R e W base ok (.slice (ac ⟨g, 0, ag⟩) xs.length cap) xs) (i : Int) (h0 : 0 <= i) (hi : i < xs.length) : W.cell? ⟨g, i.toNat, ag⟩ = ac (enc (rdOf d xs i)) /\ W.frozen? ⟨g, i.toNat, ag⟩ = J := own_at_of (oR h) i h0 hi
end
section
variable {P : Program} {ops : Array Oper} {rest : List Oper} {o : Oper} {a : Act} {Q : Exit -> Act -> World -> Prop}
theorem event_run {W w1 : World} {v : Value} (hgd : o.guard = ag) (hrun : (execOp a.eval o).run P W = .ok (.value v) w1) (h : wpList P ops Q rest (a.put o.dst v) w1) : wpList P ops Q (o :: rest) a W := by
 refine wpList_plain hgd fun K hK => ?_
 unfold jf
 rw [hrun]
 exact hK _ _ h
variable {α : Type}
theorem R_lit (d : Kd α) {w0 W : World} (base e : Nat) (hgd : o.guard = ag) {N : Tmp} (_hd : o.dst = ac N) {xs : List α} {inner : List Value} {ok okp : Nat -> Prop}
 (hrun : (execOp a.eval o).run P W = .ok (.value (.slice (ac ⟨W.heap.size, 0, ag⟩) xs.length xs.length)) (W.alloc (.cells inner.toArray e)))
 (hrep : dF (d.M W base okp) d.sz xs inner) (hok : ∀ k, okp k -> ok k) (hfresh : ok W.heap.size) (HB : Below base w0 W) (hbase : base <= W.heap.size) (hm : xs.length <= 9223372036854775807)
 (h : ∀ v1 w1, d.R e w1 base ok v1 xs -> Below base w0 w1 -> W.grownBy w1 ag -> (∃ b, v1.ownBlock = ac b /\ W.heap.size <= b) -> wpList P ops Q rest (a.put o.dst v1) w1) : wpList P ops Q (o :: rest) a W := by
 refine event_run hgd hrun (h _ _ ⟨fun k hk => ?_, inner, ?_, ?_⟩ (HB.alloc hbase _) (World.grownBy_alloc W _ ag) ⟨W.heap.size, by simp [dh], ar _⟩)
 ·have : W.heap.size = k := by simpa [dh] using hk
  subst this
  exact hfresh
 ·have h2 := World.ownsRow_lit (base := base) (e := e) (size := d.sz) W inner.toArray xs.length hbase (by simpa [maxLen] using hm) (by simpa using hrep.1)
  simpa using h2
 ·refine hrep.imp_ (fun p c hp => d.M_mono (fun k hk => ⟨hok k hk.1, fun he => ?_⟩) (M_below (d.M_bound hp) (aR (aq _ _) _)))
  have h3 : k = W.heap.size := by simpa [dh] using he
  have := hk.2.2.1
  omega
theorem reps_made {α : Type} {R : α -> List Value -> Prop} {z : Value} {size : Nat} {z0 : α} (hz : z.cells.size = size) (hs : 0 < size) (h0 : R z0 z.cells.toList) (m : Nat) : dF R size (bu m z0) (madeCells z.cells (m * size)).toList := by
 refine ⟨by simp [size_madeCells], fun j p hj => ?_⟩
 obtain ⟨hjl, hp⟩ := dm.1 hj
 have hjm : j < m := by simpa using hjl
 have hp' : z0 = p := by simpa using hp
 subst hp'
 have hle : j * size + size <= m * size := by rw [<- kr]; exact fj _ hjm
 have : ((madeCells z.cells (m * size)).toList.drop (j * size)).take size = z.cells.toList := by
  apply List.ext_getElem
  ·simp [size_madeCells, hz]
   omega
  ·intro i h1 h2
   have hi : i < size := by rw [Array.length_toList, hz] at h2; exact h2
   have hmod : (j * size + i) % size = i := by
    rw [Nat.mul_comm, Nat.mul_add_mod]
    exact fp hi
   simp [madeCells, hz, hmod]
   rw [getElem!_pos z.cells i (by omega)]
 rw [this]
 exact h0
theorem R_make (d : Kd α) {w0 W : World} (base e : Nat) (hgd : o.guard = ag) {N : Tmp} (hd : o.dst = ac N) (t : TypeId) (x y : Operand) (ho : o.op = .makeSlice t x y) (n : Int) (hx : a.eval x = .int .i64 n) (hy : a.eval y = .int .i64 n)
 (ht : P.underlying t = ac (.slice e)) (z : Value) (bytes : Nat) (hinfo : (P.info? e).map (fun i => (i.zero, i.size, i.bytes)) = ac (ac z, d.sz, bytes)) (hz : z.cells.size = d.sz) (hs0 : 0 < d.sz) (hb0 : 0 < bytes)
 (z0 : α) {ok okp : Nat -> Prop} (hzero : d.M W base okp z0 z.cells.toList) (hok : ∀ k, okp k -> ok k) (hfresh : ok W.heap.size) (h0 : 0 <= n) (hl : n.toNat * bytes <= 281474976710656) (HB : Below base w0 W) (hbase : base <= W.heap.size)
 (h : ∀ v1 w1, d.R e w1 base ok v1 (bu n.toNat z0) -> Below base w0 w1 -> W.grownBy w1 ag -> (∃ b, v1.ownBlock = ac b /\ W.heap.size <= b) -> wpList P ops Q rest (a.put o.dst v1) w1) : wpList P ops Q (o :: rest) a W := by
 obtain ⟨m, rfl⟩ := dn h0
 simp only [av] at hl h
 obtain ⟨i0, hi, hzz⟩ := gf.1 hinfo
 simp only [Prod.mk.injEq] at hzz
 obtain ⟨hz0, hz1, hz2⟩ := hzz
 have hm : m <= 281474976710656 := bh (fo _ hb0) hl
 have hr := run_make (P := P) W t e i0 z ht hi hz0 .i64 .i64 (m : Int) (m : Int) (by omega) (by omega)
  (by
    have h3 : ((i0.bytes * m : Nat) : Int) <= 281474976710656 := by rw [hz2, Nat.mul_comm]; omega
    rwa [il] at h3) (by omega)
 simp only [av] at hr
 rw [hz1] at hr
 refine R_lit d base e hgd hd (xs := bu m z0) (inner := (madeCells z.cells (m * d.sz)).toList) (okp := okp) (ok := ok) ?_ (reps_made hz hs0 hzero m) hok hfresh HB hbase (by simp; omega) h
 simp [execOp, ho, hx, hy, hr]
end
end Kd
theorem own_take {w : World} {base n m c size : Nat} {e : TypeId} {A : Option Addr} {xs : List Value} (h : w.ownsRow base e size (.slice A n c) n xs) (hm : m <= n) : w.ownsRow base e size (.slice A m c) m (xs.take (m * size)) := by
 obtain ⟨h1, h2⟩ := h
 refine ⟨by rw [cn, h1]; exact cy (fj _ hm), ?_⟩
 rcases h2 with ⟨he, h0⟩ | ⟨g, cap, cur, he, hb, hh, hnc, hcm, hcs, ht⟩
 ·injection he with ha _ hc
  subst ha; subst hc
  exact .inl ⟨by rw [show m = 0 by omega], by omega⟩
 ·injection he with ha _ hc
  subst ha; subst hc
  refine .inr ⟨g, c, cur, rfl, hb, hh, by omega, hcm, hcs, ?_⟩
  rw [<- ht, List.take_take, cy (fj _ hm)]
def QRow (w : World) (base : Nat) (e : TypeId) (size : Nat) (v : Value) (n : Nat) (xs : List Value) : Prop :=
 xs.length = n * size /\
 ((n = 0 /\ ∃ A, v = .slice A 0 0 /\ ∀ a, A = ac a -> base <= a.block /\ ∃ cur, w.heap[a.block]? = ac (.cells cur e (0, 0))) \/
  ∃ g off cap cur, v = .slice (ac ⟨g, off * size, ag⟩) n cap /\ base <= g /\ w.heap[g]? = ac (.cells cur e (0, 0)) /\ n <= cap /\ off + cap <= maxLen /\ cur.size = (off + cap) * size /\ (cur.toList.drop (off * size)).take (n * size) = xs)
section
variable {w w1 : World} {base n size : Nat} {e : TypeId} {v : Value} {xs : List Value}
theorem nS {g : Nat} : ∀ (vs : List Value) (o : Nat) {w : World} (k : Nat), k ≠ g -> (w.setCells g o vs).heap[k]? = w.heap[k]?
 | [], _, _, _, _ => rfl
 | v :: r, o, w, k, hk => by
   rw [World.setCells, nS r (o + 1) k hk]
   exact dw w ⟨g, o, ag⟩ v k hk
theorem mL (g : Nat) : ∀ (vs : List Value) (o : Nat) (w : World), (w.setCells g o vs).os = w.os /\ (w.setCells g o vs).tape = w.tape /\ (w.setCells g o vs).output = w.output /\ (w.setCells g o vs).heap.size = w.heap.size
 | [], _, _ => ⟨rfl, rfl, rfl, rfl⟩
 | v :: r, o, w => by
   obtain ⟨h1, h2, h3, h4⟩ := mL g r (o + 1) (w.setCell ⟨g, o, ag⟩ v)
   rw [World.setCells]
   exact ⟨h1, h2, h3, by rw [h4]; simp [iu]⟩
theorem nR {g : Nat} {e : TypeId} : ∀ (vs : List Value) (o : Nat) (w : World) (cur : Array Value), w.heap[g]? = ac (.cells cur e (0, 0)) -> o + vs.length <= cur.size ->
 ∃ cur', (w.setCells g o vs).heap[g]? = ac (.cells cur' e (0, 0)) /\ cur'.size = cur.size /\ cur'.toList = cur.toList.take o ++ vs ++ cur.toList.drop (o + vs.length)
 | [], o, w, cur, h, _ => ⟨cur, h, rfl, by simp⟩
 | v :: r, o, w, cur, h, hl => by
   have h2 := bT h o v
   simp only [iv] at hl
   obtain ⟨cur', h3, h4, h5⟩ := nR r (o + 1) (w.setCell ⟨g, o, ag⟩ v) _ h2 (by simp; omega)
   refine ⟨cur', h3, by rw [h4]; simp, ?_⟩
   rw [h5, Array.toList_setIfInBounds]
   have ho : o < cur.toList.length := by rw [Array.length_toList]; omega
   rw [List.take_set, List.drop_set_of_lt (by omega)]
   simp only [iv]
   rw [show o + 1 + r.length = o + (r.length + 1) by omega]
   congr 1
   rw [List.take_succ_eq_append_getElem ho, List.set_append_right _ _ (by rw [cn]; omega)]
   have ho' : o < cur.size := by omega
   simp [cy (Nat.le_of_lt ho')]
end
namespace Kd
theorem reps_take {α : Type} {R : α -> List Value -> Prop} {size m : Nat} {ps : List α} {cs : List Value} (h : dF R size ps cs) (hm : m <= ps.length) : dF R size (ps.take m) (cs.take (m * size)) := by
 refine ⟨by rw [cn, cn, h.1, cy hm, cy (fj _ hm)], fun j p hj => ?_⟩
 rw [jt] at hj
 split at hj
 ·rename_i hjm
  have := h.2 j p hj
  have hle : j * size + size <= m * size := by rw [<- kr]; exact fj _ hjm
  rw [List.drop_take, List.take_take, cy (by omega)]
  exact this
 ·cases hj
theorem R_take {α : Type} {d : Kd α} {e m n c : Nat} {w : World} {base : Nat} {ok : Nat -> Prop} {A : Option Addr} {xs : List α} (h : d.R e w base ok (.slice A n c) xs) (hm : m <= xs.length) : d.R e w base ok (.slice A m c) (xs.take m) := by
 obtain ⟨h0, inner, ho, hr⟩ := h
 have hn : n = xs.length := by
  obtain ⟨A', c', he⟩ := own_slice ho
  injection he
 subst hn
 have hb : ∀ x y : Nat, (Value.slice A x c).ownBlock = (Value.slice A y c).ownBlock := by
  intro x y
  cases A <;> rfl
 refine ⟨fun k hk => h0 k (by rw [hb _ m]; exact hk), inner.take (m * d.sz), ?_, ?_⟩
 ·rw [cn, cy hm]
  exact own_take ho hm
 ·rw [hb m xs.length]
  exact reps_take hr hm
def Q {α : Type} (d : Kd α) (e : Nat) (w : World) (base : Nat) (ok : Nat -> Prop) (v : Value) (xs : List α) : Prop :=
 (∀ k, v.ownBlock = ac k -> ok k) /\ ∃ inner, QRow w base e d.sz v xs.length inner /\ dF (d.M w base (fun k => ok k /\ ac k ≠ v.ownBlock)) d.sz xs inner
end Kd
namespace Kd
theorem reps_append {α : Type} {R : α -> List Value -> Prop} {size : Nat} {ps qs : List α} {cs ds : List Value} (h : dF R size ps cs) (h' : dF R size qs ds) : dF R size (ps ++ qs) (cs ++ ds) := by
 refine ⟨by rw [ay, ay, h.1, h'.1, Nat.add_mul], fun j p hj => ?_⟩
 rcases gj j ps.length with hlt | hge
 ·rw [je hlt] at hj
  have hle : j * size + size <= cs.length := by rw [h.1, <- kr]; exact fj _ hlt
  rw [List.drop_append_of_le_length (by omega), ke (by rw [dx]; omega)]
  exact h.2 j p hj
 ·rw [List.getElem?_append_right hge] at hj
  have h2 := h'.2 (j - ps.length) p hj
  have hle : ps.length * size <= j * size := fj _ hge
  rw [List.drop_append, jp (by rw [h.1]; exact hle), List.nil_append, h.1, <- Nat.sub_mul]
  exact h2
section
variable {P : Program} {ops : Array Oper} {rest : List Oper} {o : Oper} {a : Act} {Q : Exit -> Act -> World -> Prop} {α : Type}
theorem R_copy {enc : α -> Value} {h1 : ∀ x, (enc x).oneCell' = af} (d : α) {w0 W : World} (base : Nat) (hgd : o.guard = ag) (s x : Operand) (t t' e : TypeId)
 (ho : o.op = .call { callee := .builtin .copy, args := #[s, x], argTypes := #[t, t'] }) (ht : P.underlying t = ac (.slice e)) (hinfo : (P.info? e).map (·.size) = ac 1)
 (v : Value) (xs ys : List α) (A : Option Addr) (m c : Nat) (ok : Nat -> Prop) (hs : a.eval s = v) (hx : a.eval x = .slice A m c)
 (HO : (scalar enc h1).R e W base ok v xs) (HR : (scalar enc h1).C W A m ys) (HB : Below base w0 W) (hbase : base <= W.heap.size)
 (h : ∀ w1, (scalar enc h1).R e w1 base ok v (ys.take (min m xs.length) ++ xs.drop (min m xs.length)) -> Below base w0 w1 -> W.grownBy w1 v.ownBlock -> wpList P ops Q rest (a.put o.dst (.int .i64 ((min m xs.length : Nat) : Int))) w1) :
 wpList P ops Q (o :: rest) a W := by
 have hR := lC (enc := enc) (d := d) (h1 := h1) HR
 have hm : ys.length = m := hR.1
 have hown := oR HO
 have fin : ∀ w1, (Builtin.copy_ #[t, t'] o.type #[v, .slice A m c]).run P W = .ok (goInt ((min m xs.length : Nat) : Int)) w1 -> (scalar enc h1).R e w1 base ok v (ys.take (min m xs.length) ++ xs.drop (min m xs.length)) -> W.grownBy w1 v.ownBlock -> wpList P ops Q (o :: rest) a W := by
  intro w1 hr hrow hg
  refine wpList_plain hgd fun K hK => ?_
  unfold jf execOp
  simp only [ho, resolve, invoke, builtin, Sem.run_bind, Sem.run_pure, Result.andThen_ok, cb, cm, cw, hs, hx, hr]
  exact hK _ _ (h w1 hrow (HB.grown hg hbase (j8 hown)) hg)
 rcases cf (min m xs.length) with h0 | hp
 ·obtain ⟨A', c', hv⟩ := own_slice hown
  refine fin W ?_ (by rw [h0, jq, List.drop_zero, List.nil_append]; exact HO) (World.grownBy.refl W _)
  rw [h0, hv]
  exact run_copy_none W t t' o.type e A' A xs.length c' m c ht hinfo h0
 ·obtain ⟨ad, hA, hc⟩ := hR.2.2 (by omega)
  rcases hown.2 with ⟨_, hx0⟩ | ⟨g, cap, cur, hv, hb, hh, hnc, hcm, hcs, htake⟩
  ·omega
  have hcs1 : cur.size = cap := by omega
  have hsrc : ∀ j u, (gW enc (ys.take (min m xs.length)))[j]? = ac u -> W.cell? (ad.add j) = ac u := by
   intro j u hu
   have hj : j < (ys.take (min m xs.length)).length := by
    rcases gj j (ys.take (min m xs.length)).length with h | h
    ·exact h
    ·rw [ed (by rw [iG]; exact h)] at hu
     cases hu
   have hjm : j < min m xs.length := by rw [cn] at hj; omega
   rw [encs_get (d := d) _ j hj] at hu
   rw [hc j (by omega), <- hu]
   simp [au, hjm]
  have hkl : (gW enc (ys.take (min m xs.length))).length = min m xs.length := by rw [iG, cn]; omega
  have hr := run_copy_cells (P := P) W t t' o.type e g 0 xs.length cap ad m c (gW enc (ys.take (min m xs.length))) ht hinfo (by rw [hkl]) hsrc
   (fun j hj => by rw [cell_of_row W g _ cur e (0, 0) hh]; simp; omega) (fun j _ => aI hh _) (by intro u hu; simp only [gW, List.mem_map] at hu; obtain ⟨q, _, rfl⟩ := hu; exact h1 q)
  obtain ⟨cur', h3, h4, h5⟩ := nR (gW enc (ys.take (min m xs.length))) 0 W cur hh (by rw [hkl]; omega)
  obtain ⟨s1, s2, s3, s4⟩ := mL g (gW enc (ys.take (min m xs.length))) 0 W
  refine fin _ (by rw [hv, hA, hr, hkl]) (R_of_own ?_ HO.1) ⟨s1, s2, s3, by rw [s4]; exact ar _, fun k _ hk => nS _ _ k (fun he => hk (by rw [hv, he]; simp [dh]))⟩
  have hln : (ys.take (min m xs.length) ++ xs.drop (min m xs.length)).length = xs.length := by
   rw [ay, cn, dx]
   omega
  rw [hln]
  refine ⟨by rw [iG, hln, gu], .inr ⟨g, cap, cur', hv, hb, h3, hnc, hcm, by rw [h4, hcs], ?_⟩⟩
  rw [h5, jq, List.nil_append, hkl, Nat.zero_add, encs_append, gu]
  rw [List.take_append, hkl, ku (by rw [hkl]; omega)]
  congr 1
  have htk : cur.toList.take xs.length = gW enc xs := by rw [<- htake, gu]
  have hd : gW enc (xs.drop (min m xs.length)) = (gW enc xs).drop (min m xs.length) := by simp [gW, List.map_drop]
  rw [hd, <- htk, List.drop_take]
end
end Kd
theorem add_add (a : Addr) (i j : Nat) : (a.add i).add j = a.add (i + j) := by
 unfold Addr.add
 by_cases h1 : i = 0 <;> by_cases h2 : j = 0 <;> simp [h1, h2, ic]
namespace Kd
section
variable {α : Type} {k : Kd α} {w : World} {A : Option Addr} {xs : List α} {m c : Nat}
theorem C_take (h : k.C w A xs.length xs) (hm : m <= xs.length) : k.C w A (xs.take m).length (xs.take m) := by
 have hl : (xs.take m).length = m := by rw [cn]; omega
 refine ⟨rfl, by rw [hl]; have := h.2.1; omega, fun hp => ?_⟩
 obtain ⟨ad, e, hc⟩ := h.2.2 (by omega)
 refine ⟨ad, e, fun j p hj => hc j p ?_⟩
 rw [jt] at hj
 split at hj
 ·exact hj
 ·cases hj
end
end Kd
theorem gD {w W : World} (h : Below w.heap.size w W) : w.heap.size <= W.heap.size := h.size
theorem gI {w W w2 : World} (h : Below w.heap.size w W) (k : Below W.heap.size W w2) : Below w.heap.size w w2 := below_then h h.size k
theorem e8.nil (W : World) (k : IntKind) : e8 W k ag ([] : List Int).length [] := ⟨rfl, by simp, fun h => absurd h (Nat.lt_irrefl 0)⟩
theorem e8.drewN {W : World} {k : IntKind} {A : Option Addr} {n : Nat} {xs : List Int} (h : e8 W k A n xs) (m : Nat) : e8 (W.drewN m) k A n xs := h
theorem jQ {w W : World} {g j : Nat} {v : Value} (h : Below w.heap.size w W) (hg : w.heap.size <= g) : Below w.heap.size w (W.setCell ⟨g, j, ag⟩ v) := h.setCell hg _
theorem eR.nil {α : Type} (enc : α -> Value) (d : α) (W : World) : eR enc d W ag ([] : List α).length [] := ⟨rfl, by simp, fun h => absurd h (Nat.lt_irrefl 0)⟩
theorem eR.drewN {α : Type} {enc : α -> Value} {d : α} {W : World} {A : Option Addr} {n : Nat} {xs : List α} (h : eR enc d W A n xs) (m : Nat) : eR enc d (W.drewN m) A n xs := h
theorem bQ {w : World} {g : Nat} {t : TypeId} {cs cs' : Array Value} (h : w.heap[g]? = ac (.cells cs t (0, 0))) (i : Nat) (u : Value) (e : cs.setIfInBounds i u = cs') : (w.setCell ⟨g, i, ag⟩ u).heap[g]? = ac (.cells cs' t (0, 0)) := e ▸ bT h i u
theorem aU {base : Nat} {w W : World} (h : Below base w W) : Below base w W.drew := h.drew
section
variable {P : Program} {ops : Array Oper} {rest : List Oper} {o : Oper} {a : Act} {Q : Exit -> Act -> World -> Prop}
theorem pG {W : World} (hgd : o.guard = ag) {N : Tmp} (_hd : o.dst = ac N) {cs : Array Value} {t : TypeId}
 (hrun : (execOp a.eval o).run P W = .ok (.value (.pointer (ac ⟨W.heap.size, 0, ag⟩))) (W.alloc (.cells cs t (0, 0))))
 (h : ∀ g, g = W.heap.size -> ∀ w1, w1.heap[g]? = ac (.cells cs t (0, 0)) -> Below W.heap.size W w1 -> wpList P ops Q rest (a.put o.dst (.pointer (ac ⟨g, 0, ag⟩))) w1) : wpList P ops Q (o :: rest) a W :=
 Kd.event_run hgd hrun (h _ rfl _ (aV W _) (aR (aq _ _) _))
theorem Kd.R_append_row {α : Type} (enc : α -> Value) (d : α) {h1 : ∀ x : α, (enc x).oneCell' = af} {w0 W : World} (base : Nat) (hgd : o.guard = ag) (s x : Operand) (t e : TypeId) (z : Value) (bytes : Nat)
 (ho : o.op = .call { callee := .builtin .append, args := #[s, x], argTypes := #[t, t] })
 (ht : P.underlying t = ac (.slice e)) (hinfo : (P.info? e).map (fun i => (i.zero, i.size, i.bytes)) = ac (ac z, 1, bytes)) (hz : z.cells.size = 1) (hb0 : 0 < bytes)
 (v : Value) (xs ys : List α) (A : Option Addr) (m c : Nat) (ok : Nat -> Prop) (hs : a.eval s = v) (hx : a.eval x = .slice A m c) (hfresh : ∀ k, W.heap.size <= k -> ok k)
 (HO : (Kd.scalar enc h1).R e W base ok v xs) (HR : (Kd.scalar enc h1).C W A m ys) (HB : Below base w0 W) (hbase : base <= W.heap.size) (hl : (xs.length + m) * bytes <= 140737488355328)
 (h : ∀ v1 w1, (Kd.scalar enc h1).R e w1 base ok v1 (xs ++ ys) -> Below base w0 w1 -> W.grownBy w1 v.ownBlock -> (v1.ownBlock = v.ownBlock \/ ∃ b, v1.ownBlock = ac b /\ W.heap.size <= b) -> wpList P ops Q rest (a.put o.dst v1) w1) :
 wpList P ops Q (o :: rest) a W := by
 refine lW (w0 := w0) enc d base hgd s x t e z bytes ho ht hinfo hz hb0 h1 v xs ys A m c hs hx (Kd.oR HO) (Kd.lC (d := d) HR) HB hbase hl ?_
 intro v1 w1 hown hb hg hat
 refine h v1 w1 (Kd.R_of_own hown (fun k hk => ?_)) hb hg hat
 rcases hat with e1 | ⟨b, e1, hbb⟩
 ·exact HO.1 k (by rw [<- e1]; exact hk)
 ·rw [e1] at hk
  injection hk with hk
  subst hk
  exact hfresh _ hbb
end
section
variable {P : Program} {ops : Array Oper} {rest : List Oper} {o : Oper} {a : Act} {Q : Exit -> Act -> World -> Prop} {W : World}
theorem o6 {N : Tmp} (_hN : o.dst = ac N) (h : wpList P ops Q (o :: rest) a W) : wpList P ops Q (o :: rest) a W := h
end
section
variable {P : Program} {ops : Array Oper} {o : Oper} {a : Act} {Q : Exit -> Act -> World -> Prop} {Kc : Act -> World -> Prop}
theorem dZ {W w1 : World} {v : Value} (hw : dg o (yielded ops a.tmps) = af) (hrun : (execOp a.eval o).run P W = .ok (.value v) w1) (h : Kc (a.put o.dst v) w1) : if dg o (yielded ops a.tmps) = af then jf P o a W Kc Q else Kc (a.put o.dst undef) W := by
 rw [if_pos hw]
 unfold jf
 rw [hrun]
 exact h
theorem box_step {W : World} (hw : dg o (yielded ops a.tmps) = af) {N : Tmp} (_hd : o.dst = ac N) {cs : Array Value} {t : TypeId}
 (hrun : (execOp a.eval o).run P W = .ok (.value (.pointer (ac ⟨W.heap.size, 0, ag⟩))) (W.alloc (.cells cs t (0, 0))))
 (h : ∀ g, g = W.heap.size -> ∀ w1, w1.heap[g]? = ac (.cells cs t (0, 0)) -> Below W.heap.size W w1 -> Kc (a.put o.dst (.pointer (ac ⟨g, 0, ag⟩))) w1) : if dg o (yielded ops a.tmps) = af then jf P o a W Kc Q else Kc (a.put o.dst undef) W :=
 dZ hw hrun (h _ rfl _ (aV W _) (aR (aq _ _) _))
namespace Kd
variable {α : Type}
theorem jI (d : Kd α) {w0 W : World} (base e : Nat) (hw : dg o (yielded ops a.tmps) = af) {N : Tmp} (_hd : o.dst = ac N) {xs : List α} {inner : List Value} {ok okp : Nat -> Prop}
 (hrun : (execOp a.eval o).run P W = .ok (.value (.slice (ac ⟨W.heap.size, 0, ag⟩) xs.length xs.length)) (W.alloc (.cells inner.toArray e)))
 (hrep : dF (d.M W base okp) d.sz xs inner) (hok : ∀ k, okp k -> ok k) (hfresh : ok W.heap.size) (HB : Below base w0 W) (hbase : base <= W.heap.size) (hm : xs.length <= 9223372036854775807)
 (h : ∀ v1 w1, d.R e w1 base ok v1 xs -> Below base w0 w1 -> W.grownBy w1 ag -> (∃ b, v1.ownBlock = ac b /\ W.heap.size <= b) -> Kc (a.put o.dst v1) w1) : if dg o (yielded ops a.tmps) = af then jf P o a W Kc Q else Kc (a.put o.dst undef) W := by
 refine dZ hw hrun (h _ _ ⟨fun k hk => ?_, inner, ?_, ?_⟩ (HB.alloc hbase _) (World.grownBy_alloc W _ ag) ⟨W.heap.size, by simp [dh], ar _⟩)
 ·have : W.heap.size = k := by simpa [dh] using hk
  subst this
  exact hfresh
 ·have h2 := World.ownsRow_lit (base := base) (e := e) (size := d.sz) W inner.toArray xs.length hbase (by simpa [maxLen] using hm) (by simpa using hrep.1)
  simpa using h2
 ·refine hrep.imp_ (fun p c hp => d.M_mono (fun k hk => ⟨hok k hk.1, fun he => ?_⟩) (M_below (d.M_bound hp) (aR (aq _ _) _)))
  have h3 : k = W.heap.size := by simpa [dh] using he
  have := hk.2.2.1
  omega
theorem dQ (d : Kd α) {Rr : α -> List Value -> Prop} {w0 W : World} (base : Nat) (hw : dg o (yielded ops a.tmps) = af) (s x : Operand) (t e : TypeId) (z : Value) (bytes : Nat)
 (ho : o.op = .call { callee := .builtin .append, args := #[s, x], argTypes := #[t, t] })
 (ht : P.underlying t = ac (.slice e)) (hinfo : (P.info? e).map (fun i => (i.zero, i.size, i.bytes)) = ac (ac z, d.sz, bytes)) (hz : z.cells.size = d.sz) (hs0 : 0 < d.sz) (hb0 : 0 < bytes)
 (v : Value) (xs ys : List α) (A : Option Addr) (m c : Nat) (ok okp : Nat -> Prop) (hs : a.eval s = v) (hx : a.eval x = .slice A m c)
 (HO : d.R e W base ok v xs) (HR : eM Rr d.sz W A m ys) (hKM : ∀ x cs, Rr x cs -> d.M W base okp x cs) (hokp : ∀ k, okp k -> ok k /\ ac k ≠ v.ownBlock) (hfresh : ∀ k, W.heap.size <= k -> ok k)
 (HB : Below base w0 W) (hbase : base <= W.heap.size) (hl : (xs.length + m) * bytes <= 140737488355328)
 (h : ∀ v1 w1, d.R e w1 base ok v1 (xs ++ ys) -> Below base w0 w1 -> W.grownBy w1 v.ownBlock -> (v1.ownBlock = v.ownBlock \/ ∃ b, v1.ownBlock = ac b /\ W.heap.size <= b) -> Kc (a.put o.dst v1) w1) :
 if dg o (yielded ops a.tmps) = af then jf P o a W Kc Q else Kc (a.put o.dst undef) W := by
 obtain ⟨i0, hi, hzz⟩ := gf.1 hinfo
 simp only [Prod.mk.injEq] at hzz
 obtain ⟨hz0, hz1, hz2⟩ := hzz
 have hm : ys.length = m := HR.1
 have hlen : xs.length + m <= 140737488355328 := bh (fo _ hb0) hl
 obtain ⟨hok, inner, hown, hr⟩ := HO
 have hrun : ∃ v1 w1, (Builtin.append_ #[t, t] o.type #[v, .slice A m c]).run P W = .ok v1 w1 /\ d.R e w1 base ok v1 (xs ++ ys) /\ W.grownBy w1 v.ownBlock /\ (v1.ownBlock = v.ownBlock \/ ∃ b, v1.ownBlock = ac b /\ W.heap.size <= b) := by
  rcases A with _ | ad
  ·have h0 : m = 0 := by
    rcases cf m with h0 | h0
    ·exact h0
    ·obtain ⟨ad, h, _⟩ := HR.2.2 h0
     cases h
   subst h0
   obtain rfl : ys = [] := cg hm
   refine ⟨v, W, ?_, by rw [df]; exact ⟨hok, inner, hown, hr⟩, World.grownBy.refl W _, .inl rfl⟩
   rcases hown.2 with ⟨rfl, hn⟩ | ⟨g, cap, cur, rfl, _, _, hnc, _⟩
   ·simp [Builtin.append_, run_underlying ht, sizeOf, typeInfo, hi, Builtin.lenOf, Builtin.firstCells]
   ·simp [Builtin.append_, run_underlying ht, sizeOf, typeInfo, hi, Builtin.lenOf, Builtin.firstCells, hnc, storeCells]
  ·obtain ⟨news, hnr, hnc⟩ := eM.inner_ HR
   have hnM : dF (d.M W base okp) d.sz ys news := hnr.imp_ (fun p c hp => hKM p c hp)
   have hone : ∀ u ∈ news, u.oneCell' = af := by
    intro u hu
    obtain ⟨q, hq, rfl⟩ := List.mem_iff_getElem.1 hu
    have hql : q / d.sz < ys.length := by
     rw [Nat.div_lt_iff_lt_mul hs0]
     rw [<- hnM.1]
     exact hq
    have hc := hnM.2 (q / d.sz) _ (az hql)
    refine d.K_one (d.K_of_M hc) _ ?_
    rw [List.mem_iff_getElem?]
    refine ⟨q % d.sz, ?_⟩
    rw [jt, if_pos (gm _ hs0), List.getElem?_drop, Nat.mul_comm, Nat.div_add_mod, az hq]
   obtain ⟨v1, w1, hrun, h2, hg, _, hat⟩ := run_append_own_at (P := P) W base t o.type e i0 z d.sz bytes ht hi hz0 hz1 hz2 hz hs0 v xs.length inner hown ad m c news (by rw [hnM.1, hm]) hnc hone (by simp only [maxLen]; omega) hl hbase
   have hat' : v1.ownBlock = v.ownBlock \/ ∃ b, v1.ownBlock = ac b /\ W.heap.size <= b := by
    rcases hat with hat | hat
    ·exact .inl hat
    ·exact .inr ⟨_, hat, ar _⟩
   have hne : ∀ k, ac k ≠ v.ownBlock -> k < W.heap.size -> ac k ≠ v1.ownBlock := by
    intro k hk hlt
    rcases hat' with hat | ⟨b, hb, hle⟩
    ·rw [hat]; exact hk
    ·rw [hb]
     intro he
     injection he with he
     omega
   have step : ∀ {q : α} {c : List Value} {o : Nat -> Prop}, d.M W base o q c -> (∀ k, o k -> ok k /\ ac k ≠ v.ownBlock) -> d.M w1 base (fun k => ok k /\ ac k ≠ v1.ownBlock) q c := by
    intro q c o hq ho
    have h1 := d.M_move (w1 := w1) (fun k hk => hg.block k hk.2.2.1 (ho k hk.1).2) (d.M_bound hq)
    exact d.M_mono (fun k hk => ⟨(ho k hk.1).1, hne k (ho k hk.1).2 hk.2.2.1⟩) h1
   refine ⟨v1, w1, hrun, ⟨fun k hk => ?_, inner ++ news, by rw [ay, hm]; exact h2, reps_append (hr.imp_ (fun _ _ hq => step hq (fun _ hk => hk))) (hnM.imp_ (fun _ _ hq => step hq hokp))⟩, hg, hat'⟩
   rcases hat' with hat | ⟨b, hb, hle⟩
   ·exact hok k (hat ▸ hk)
   ·rw [hb] at hk
    injection hk with hk
    exact hfresh k (by omega)
 obtain ⟨v1, w1, hr1, h1, hg, hat⟩ := hrun
 rw [if_pos hw]
 unfold jf execOp
 simp only [ho, resolve, invoke, builtin, Sem.run_bind, Sem.run_pure, Result.andThen_ok, cb, cm, cw, hs, hx, hr1]
 exact h v1 w1 h1 (HB.grown hg hbase (j8 hown)) hg hat
end Kd
end
end Go.Proofs.YtfigjpehecibeaaGreatW.PrintWords
end
namespace Go.Proofs.YtfigjpehecibeaaGreatW.PrintLast
section
variable {P : Program} {ops : Array Oper} {Q : Exit -> Act -> World -> Prop} {md : kf} {S : World -> Prop} {ds : List Nat}
def Region.reachB (md : kf) (ops : Array Oper) (i : Nat) : Nat -> Nat -> Bool
 | 0, _ => J
 | fuel + 1, d => match ops[d]? with
   | some o => o.after.any fun e => Region.binds md e && (e.on == i || Region.reachB md ops i fuel e.on)
   | none => J
def Region.closedB (md : kf) (ops : Array Oper) (listed : Array Bool) : Bool :=
 (br ops.size).all fun j => !listed.getD j J || match ops[j]? with
   | some o => o.after.all fun e => !Region.binds md e || listed.getD e.on J
   | none => af
def Region.lastB (md : kf) (ops : Array Oper) (listed : Array Bool) (ds : List Nat) (i : Nat) : Bool :=
 ds.all fun d => listed.getD d af || Region.reachB md ops i ops.size d
def eU (md : kf) (ops : Array Oper) (listed : Array Bool) : Prop :=
 ∀ j oj, ops[j]? = ac oj -> listed.getD j J = af -> ∀ e ∈ oj.after, Region.binds md e = af -> listed.getD e.on J = af
theorem Region.closedB_spec {listed : Array Bool} (h : Region.closedB md ops listed = af) : eU md ops listed := by
 intro j oj hj hl e he hb
 have hlt : j < ops.size := (jo.1 hj).1
 have h1 := dz.1 h j (ja.2 hlt)
 simp only [hl, hj, Bool.not_true, Bool.false_or] at h1
 have h2 := Array.all_eq_true_iff_forall_mem.1 h1 e he
 simpa [hb] using h2
theorem eU.set {listed : Array Bool} {i : Nat} (h : eU md ops listed) (hi : i ∈ ij md ops listed) : eU md ops (listed.setIfInBounds i af) := by
 obtain ⟨_, oi, hoi, hall⟩ := mem_ready.1 hi
 intro j oj hj hl e he hb
 by_cases hij : i = j
 ·subst hij
  have : oj = oi := ck (hj.symm.trans hoi)
  subst this
  exact getD_set_true (hall e he hb)
 ·rw [getD_set_ne J hij] at hl
  exact getD_set_true (h j oj hj hl e he hb)
theorem Region.reach_listed {listed : Array Bool} {i : Nat} (hc : eU md ops listed) : ∀ (fuel d : Nat), Region.reachB md ops i fuel d = af -> listed.getD d J = af -> listed.getD i J = af
 | 0, _, h, _ => by simp [Region.reachB] at h
 | fuel + 1, d, h, hl => by
   unfold Region.reachB at h
   cases ho : ops[d]? with
   | none => rw [ho] at h; simp at h
   | some o =>
     rw [ho] at h
     obtain ⟨e, he, h1⟩ := Array.any_eq_true'.1 h
     simp only [bo, Bool.or_eq_true, beq_iff_eq] at h1
     have hle := hc d o ho hl e he h1.1
     rcases h1.2 with h2 | h2
     ·rw [<- h2]; exact hle
     ·exact Region.reach_listed hc fuel e.on h2 hle
theorem Region.reach_not_ready {listed : Array Bool} {i d fuel : Nat} (hc : eU md ops listed) (hr : Region.reachB md ops i fuel d = af) (hun : listed.getD i af = J) : d ∉ ij md ops listed := by
 intro hd
 obtain ⟨_, o, ho, hall⟩ := mem_ready.1 hd
 have hi : listed.getD i J = af := by
  cases fuel with
  | zero => simp [Region.reachB] at hr
  | succ n =>
    unfold Region.reachB at hr
    rw [ho] at hr
    obtain ⟨e, he, h1⟩ := Array.any_eq_true'.1 hr
    simp only [bo, Bool.or_eq_true, beq_iff_eq] at h1
    have hle := hall e he h1.1
    rcases h1.2 with h2 | h2
    ·rw [<- h2]; exact hle
    ·exact Region.reach_listed hc n e.on h2 hle
 rcases gj i listed.size with h' | h'
 ·simp [h'] at hun hi
  rw [hun] at hi
  cases hi
 ·simp [Array.getElem?_eq_none h'] at hun
def bC (P : Program) (md : kf) (ops : Array Oper) (Q : Exit -> Act -> World -> Prop) (S : World -> Prop) (ds : List Nat) : Nat -> Array Bool -> Act -> World -> Prop
 | 0, listed, a, w => ij md ops listed = [] /\ Q .normal a w
 | fuel + 1, listed, a, w =>
   (ij md ops listed = [] -> Q .normal a w) /\
   ∀ i ∈ ij md ops listed, wpOp P ops Q i (fun a' w' => (i ∉ ds -> S w -> S w') /\ bC P md ops Q S ds fuel (listed.setIfInBounds i af) a' w') a w
theorem l8 : ∀ (fuel : Nat) (listed : Array Bool) (a : Act) (w : World), bC P md ops Q S ds fuel listed a w -> wpAny P md ops Q fuel listed a w
 | 0, _, _, _, h => h
 | fuel + 1, _, _, _, h => ⟨h.1, fun i hi => wpOp_mono (fun a' w' h' => l8 fuel _ a' w' h'.2) (h.2 i hi)⟩
theorem o9 {i : Nat} {oi : Oper} {v : Value} (hi : ops[i]? = ac oi) (hsel : ∀ (j : Nat) (o : Oper) cs b, ops[j]? = ac o -> o.op ≠ .select cs b)
 (hQ : ∀ c a w, Q (.panic c) (a.put oi.dst v) w -> Q (.panic c) a w) (n : Nat) :
 ∀ (fuel : Nat) (listed : Array Bool) (a : Act) (w : World),
  (∀ j oj, ops[j]? = ac oj -> j ≠ i -> listed.getD j af = J -> (∀ e ∈ oj.after, Region.binds md e = af -> e.on ≠ i) -> oi.apart ops oj = af) ->
  eU md ops listed -> (∀ d ∈ ds, listed.getD d af = J -> Region.reachB md ops i n d = af) ->
  i ∈ ij md ops listed -> YieldsIf P ops S oi v a -> S w ->
  bC P md ops Q S ds fuel (listed.setIfInBounds i af) (a.put oi.dst v) w -> bC P md ops Q S ds (fuel + 1) listed a w := by
 intro fuel
 induction fuel with
 | zero =>
   intro listed a w _ _ _ hr hy hS H
   refine ⟨fun h => (by rw [h] at hr; cases hr), fun j hj => ?_⟩
   by_cases hji : j = i
   ·subst hji; exact hy.wpOp hi hS ⟨fun _ h => h, H⟩
   ·have := ready_mono hj hji
    rw [H.1] at this
    cases this
 | succ fuel ih =>
   intro listed a w hfree hc hd hr hy hS H
   refine ⟨fun h => (by rw [h] at hr; cases hr), fun j hj => ?_⟩
   by_cases hji : j = i
   ·subst hji; exact hy.wpOp hi hS ⟨fun _ h => h, H⟩
   ·have h1 := H.2 j (ready_mono hj hji)
    obtain ⟨hjun, oj, hoj, hall⟩ := mem_ready.1 hj
    have hiun := (mem_ready.1 hr).1
    have hnot : ∀ e ∈ oj.after, Region.binds md e = af -> e.on ≠ i := fun e he hb heq => by
     have h1 := hall e he hb
     rw [heq] at h1
     rcases gj i listed.size with h' | h'
     ·simp [h'] at hiun h1; rw [hiun] at h1; cases h1
     ·simp [Array.getElem?_eq_none h'] at h1
    have hjd : j ∉ ds := fun hm => Region.reach_not_ready hc (hd j hm hjun) hiun hj
    have h2 := wpOp_putIf hoj (hfree j oj hoj hji hjun hnot) (fun cs b => hsel i oi cs b hi) (fun cs b => hsel j oj cs b hoj) hQ hy h1
    have hfree' : ∀ k ok, ops[k]? = ac ok -> k ≠ i -> (listed.setIfInBounds j af).getD k af = J ->
     (∀ e ∈ ok.after, Region.binds md e = af -> e.on ≠ i) -> oi.apart ops ok = af := fun k ok hk hki hun hno => by
     refine hfree k ok hk hki ?_ hno
     by_cases hjk : j = k
     ·subst hjk; exact hjun
     ·rw [getD_set_ne af hjk] at hun; exact hun
    have hd' : ∀ d ∈ ds, (listed.setIfInBounds j af).getD d af = J -> Region.reachB md ops i n d = af := fun d hm hun => by
     refine hd d hm ?_
     by_cases hjk : j = d
     ·subst hjk; exact hjun
     ·rw [getD_set_ne af hjk] at hun; exact hun
    refine wpOp_mono (fun a' w' h3 => ⟨h3.2.1, ih (listed.setIfInBounds j af) a' w' hfree' (hc.set hj) hd' (ready_mono hr (Ne.symm hji)) h3.1 (h3.2.1 hjd hS) ?_⟩) h2
    rw [Array.setIfInBounds_comm _ _ hji]
    exact h3.2.2
theorem wpAnyLast_any {i : Nat} {oi : Oper} {v : Value} (hi : ops[i]? = ac oi) (hsel : ∀ (j : Nat) (o : Oper) cs b, ops[j]? = ac o -> o.op ≠ .select cs b)
 (hQ : ∀ c a w, Q (.panic c) (a.put oi.dst v) w -> Q (.panic c) a w) :
 ∀ (fuel : Nat) (listed : Array Bool) (a : Act) (w : World),
  (∀ j oj, ops[j]? = ac oj -> j ≠ i -> listed.getD j af = J -> (∀ e ∈ oj.after, Region.binds md e = af -> e.on ≠ i) -> oi.apart ops oj = af) ->
  i ∈ ij md ops listed -> Yields P ops oi v a ->
  bC P md ops Q S ds fuel (listed.setIfInBounds i af) (a.put oi.dst v) w -> bC P md ops Q S ds (fuel + 1) listed a w := by
 intro fuel
 induction fuel with
 | zero =>
   intro listed a w _ hr hy H
   refine ⟨fun h => (by rw [h] at hr; cases hr), fun j hj => ?_⟩
   by_cases hji : j = i
   ·subst hji; exact (hy.yieldsIf (S := fun _ => True)).wpOp hi trivial ⟨fun _ h => h, H⟩
   ·have := ready_mono hj hji
    rw [H.1] at this
    cases this
 | succ fuel ih =>
   intro listed a w hfree hr hy H
   refine ⟨fun h => (by rw [h] at hr; cases hr), fun j hj => ?_⟩
   by_cases hji : j = i
   ·subst hji; exact (hy.yieldsIf (S := fun _ => True)).wpOp hi trivial ⟨fun _ h => h, H⟩
   ·have h1 := H.2 j (ready_mono hj hji)
    obtain ⟨hjun, oj, hoj, hall⟩ := mem_ready.1 hj
    have hiun := (mem_ready.1 hr).1
    have hnot : ∀ e ∈ oj.after, Region.binds md e = af -> e.on ≠ i := fun e he hb heq => by
     have h1 := hall e he hb
     rw [heq] at h1
     rcases gj i listed.size with h' | h'
     ·simp [h'] at hiun h1; rw [hiun] at h1; cases h1
     ·simp [Array.getElem?_eq_none h'] at h1
    have h2 := wpOp_put hoj (hfree j oj hoj hji hjun hnot) (fun cs b => hsel i oi cs b hi) (fun cs b => hsel j oj cs b hoj) hQ hy h1
    have hfree' : ∀ k ok, ops[k]? = ac ok -> k ≠ i -> (listed.setIfInBounds j af).getD k af = J ->
     (∀ e ∈ ok.after, Region.binds md e = af -> e.on ≠ i) -> oi.apart ops ok = af := fun k ok hk hki hun hno => by
     refine hfree k ok hk hki ?_ hno
     by_cases hjk : j = k
     ·subst hjk; exact hjun
     ·rw [getD_set_ne af hjk] at hun; exact hun
    refine wpOp_mono (fun a' w' h3 => ⟨h3.2.1, ih (listed.setIfInBounds j af) a' w' hfree' (ready_mono hr (Ne.symm hji)) h3.1 ?_⟩) h2
    rw [Array.setIfInBounds_comm _ _ hji]
    exact h3.2.2
theorem wpAnyLast_take {i : Nat} {oi : Oper} {v : Value} {fuel : Nat} {listed : Array Bool} {a : Act} {w : World} (hi : ops[i]? = ac oi)
 (hs : Region.noSelect ops = af) (hf : Region.free md ops listed i = af) (hr : (ij md ops listed).contains i = af)
 (hc : Region.closedB md ops listed = af) (hl : Region.lastB md ops listed ds i = af)
 (hQ : ∀ c a w, Q (.panic c) (a.put oi.dst v) w -> Q (.panic c) a w) (hy : YieldsIf P ops S oi v a) (hS : S w)
 (h : bC P md ops Q S ds fuel (listed.setIfInBounds i af) (a.put oi.dst v) w) : bC P md ops Q S ds (fuel + 1) listed a w :=
 o9 hi (Region.noSelect_spec hs) hQ ops.size fuel listed a w (Region.free_spec hi hf) (Region.closedB_spec hc)
  (fun d hm hun => by have := dz.1 hl d hm; rw [hun] at this; simpa using this) (by simpa using hr) hy hS h
theorem wpAnyLast_all {rs : List Nat} {fuel : Nat} {listed : Array Bool} {a : Act} {w : World} (hr : ij md ops listed = rs) (hne : rs ≠ [])
 (h : ∀ i ∈ rs, wpOp P ops Q i (fun a' w' => (i ∉ ds -> S w -> S w') /\ bC P md ops Q S ds fuel (listed.setIfInBounds i af) a' w') a w) : bC P md ops Q S ds (fuel + 1) listed a w :=
 ⟨fun h0 => absurd (hr ▸ h0) hne, hr ▸ h⟩
theorem wpAnyLast_done {listed : Array Bool} {a : Act} {w : World} (hr : ij md ops listed = []) (h : Q .normal a w) :
 ∀ fuel, bC P md ops Q S ds fuel listed a w
 | 0 => ⟨hr, h⟩
 | _ + 1 => ⟨fun _ => h, by rw [hr]; simp⟩
theorem wp_region_last {id : Nat} {a : Act} {w : World} (hm : P.follows .mixedOrders = af)
 (h : bC P .any ops Q S ds ops.size (Array.replicate ops.size J) a { w with drawn := w.drawn + 1 }) : (Code.region id ops af).wp P Q a w :=
 wp_region_any hm (l8 _ _ _ _ h)
end
section
variable {P : Program} {ops : Array Oper} {Q : Exit -> Act -> World -> Prop} {md : kf} {S : World -> Prop} {ds : List Nat}
def dA (P : Program) (md : kf) (ops : Array Oper) (Q : Exit -> Act -> World -> Prop) (S : World -> Prop) (ds : List Nat) (fuel : Nat) (listed : Array Bool) (a : Act) (w : World) (rs : List Nat) : Prop :=
 ∀ i ∈ rs, wpOp P ops Q i (fun a' w' => (i ∉ ds -> S w -> S w') /\ bC P md ops Q S ds fuel (listed.setIfInBounds i af) a' w') a w
theorem dA.nil {fuel : Nat} {listed : Array Bool} {a : Act} {w : World} : dA P md ops Q S ds fuel listed a w [] := fun _ h => by cases h
theorem dA.cons {fuel : Nat} {listed : Array Bool} {a : Act} {w : World} {i : Nat} {o : Oper} {rs : List Nat} (ho : ops[i]? = ac o) (hd : i ∉ ds)
 (h : ∀ K' : Act -> World -> Prop, Shut (∀ a w, S w -> (S w -> bC P md ops Q S ds fuel (listed.setIfInBounds i af) a w) -> K' a w) -> if dg o (yielded ops a.tmps) = af then jf P o a w K' Q else K' (a.put o.dst undef) w)
 (hs : dA P md ops Q S ds fuel listed a w rs) : dA P md ops Q S ds fuel listed a w (i :: rs) := fun j hj => by
 rcases gi.1 hj with rfl | hj
 ·exact wpOp_step ho (fun K' hK => h K' (fun a w hS hW => hK a w ⟨fun _ _ => hS, hW hS⟩))
 ·exact hs j hj
theorem dA.cons_last {fuel : Nat} {listed : Array Bool} {a : Act} {w : World} {i : Nat} {o : Oper} {rs : List Nat} (ho : ops[i]? = ac o) (hd : i ∈ ds)
 (h : ∀ K' : Act -> World -> Prop, Shut (∀ a w, bC P md ops Q S ds fuel (listed.setIfInBounds i af) a w -> K' a w) -> if dg o (yielded ops a.tmps) = af then jf P o a w K' Q else K' (a.put o.dst undef) w)
 (hs : dA P md ops Q S ds fuel listed a w rs) : dA P md ops Q S ds fuel listed a w (i :: rs) := fun j hj => by
 rcases gi.1 hj with rfl | hj
 ·exact wpOp_step ho (fun K' hK => h K' (fun a w hW => hK a w ⟨fun hn => absurd hd hn, hW⟩))
 ·exact hs j hj
theorem iM {rs : List Nat} {fuel : Nat} {listed : Array Bool} {a : Act} {w : World} (hr : ij md ops listed = rs) (hne : rs ≠ [])
 (h : dA P md ops Q S ds fuel listed a w rs) : bC P md ops Q S ds (fuel + 1) listed a w := wpAnyLast_all hr hne h
theorem fZ {id n : Nat} {a : Act} {w : World} (l : Array Bool) (hm : P.follows .mixedOrders = af) (hn : ops.size = n) (hl : Array.replicate n J = l) (hS : S w.drew)
 (h : S w.drew -> bC P .any ops Q S ds n l a w.drew) : (Code.region id ops af).wp P Q a w := by
 subst hn
 subst hl
 exact wp_region_last hm (h hS)
def takeB (md : kf) (ops : Array Oper) (ds : List Nat) (l l' : Array Bool) (i : Nat) : Bool :=
 Region.noSelect ops && Region.free md ops l i && (ij md ops l).contains i && Region.closedB md ops l && Region.lastB md ops l ds i && (l.setIfInBounds i af == l')
theorem dP {i : Nat} {N : Option Tmp} {oi : Oper} {v : Value} {fuel : Nat} {l : Array Bool} {a : Act} {w : World} (l' : Array Bool) (hi : ops[i]? = ac oi) (hN : oi.dst = N) (hc : takeB md ops ds l l' i = af)
 (hQ : ∀ c a w, Q (.panic c) (a.put oi.dst v) w -> Q (.panic c) a w) (hy : YieldsIf P ops S oi v a) (hS : S w) {a' : Act} (ha : a.put N v = a')
 (h : bC P md ops Q S ds fuel l' a' w) : bC P md ops Q S ds (fuel + 1) l a w := by
 subst ha
 subst hN
 simp only [takeB, bo, beq_iff_eq] at hc
 obtain ⟨⟨⟨⟨⟨h1, h2⟩, h3⟩, h4⟩, h5⟩, h6⟩ := hc
 subst h6
 exact wpAnyLast_take hi h1 h2 h3 h4 h5 hQ hy hS h
def anyB (md : kf) (ops : Array Oper) (l l' : Array Bool) (i : Nat) : Bool :=
 Region.noSelect ops && Region.free md ops l i && (ij md ops l).contains i && (l.setIfInBounds i af == l')
theorem bB {i : Nat} {N : Option Tmp} {oi : Oper} {v : Value} {fuel : Nat} {l : Array Bool} {a : Act} {w : World} (l' : Array Bool) (hi : ops[i]? = ac oi) (hN : oi.dst = N) (hc : anyB md ops l l' i = af)
 (hQ : ∀ c a w, Q (.panic c) (a.put oi.dst v) w -> Q (.panic c) a w) (hy : Yields P ops oi v a) {a' : Act} (ha : a.put N v = a')
 (h : bC P md ops Q S ds fuel l' a' w) : bC P md ops Q S ds (fuel + 1) l a w := by
 subst ha
 subst hN
 simp only [anyB, bo, beq_iff_eq] at hc
 obtain ⟨⟨⟨h1, h2⟩, h3⟩, h6⟩ := hc
 subst h6
 exact wpAnyLast_any hi (Region.noSelect_spec h1) hQ fuel l a w (Region.free_spec hi h2) (by simpa using h3) hy h
def readyB (md : kf) (ops : Array Oper) (l l' : Array Bool) (i : Nat) : Bool := (ij md ops l == [i]) && (l.setIfInBounds i af == l')
theorem kJ {i : Nat} {N : Option Tmp} {oi : Oper} {fuel : Nat} {l : Array Bool} {a : Act} {w : World} (l' : Array Bool) (hi : ops[i]? = ac oi) (hN : oi.dst = N) (hc : readyB md ops l l' i = af) (hd : i ∉ ds)
 (h : ∀ K : Act -> World -> Prop, Shut (∀ a' w', S w' -> (S w' -> bC P md ops Q S ds fuel l' a' w') -> K a' w') -> if dg oi (yielded ops a.tmps) = af then jf P oi a w K Q else K (a.put N undef) w) :
 bC P md ops Q S ds (fuel + 1) l a w := by
 subst hN
 simp only [readyB, bo, beq_iff_eq] at hc
 obtain ⟨h1, h2⟩ := hc
 subst h2
 exact iM h1 (by simp) (dA.cons hi hd (fun K hK => h K hK) dA.nil)
theorem oF {i : Nat} {N : Option Tmp} {oi : Oper} {fuel : Nat} {l : Array Bool} {a : Act} {w : World} (l' : Array Bool) (hi : ops[i]? = ac oi) (hN : oi.dst = N) (hc : readyB md ops l l' i = af) (hd : i ∈ ds)
 (h : ∀ K : Act -> World -> Prop, Shut (∀ a' w', bC P md ops Q S ds fuel l' a' w' -> K a' w') -> if dg oi (yielded ops a.tmps) = af then jf P oi a w K Q else K (a.put N undef) w) :
 bC P md ops Q S ds (fuel + 1) l a w := by
 subst hN
 simp only [readyB, bo, beq_iff_eq] at hc
 obtain ⟨h1, h2⟩ := hc
 subst h2
 exact iM h1 (by simp) (dA.cons_last hi hd (fun K hK => h K hK) dA.nil)
theorem kH {l : Array Bool} {a : Act} {w : World} {n : Nat} (hr : (ij md ops l == []) = af) (h : Q .normal a w) : bC P md ops Q S ds n l a w := wpAnyLast_done (by simpa using hr) h n
theorem two_ {i j : Nat} {Ni Nj : Option Tmp} {oi oj : Oper} {fuel : Nat} {l : Array Bool} {a : Act} {w : World} (li lj : Array Bool) (hi : ops[i]? = ac oi) (hj : ops[j]? = ac oj) (hNi : oi.dst = Ni) (hNj : oj.dst = Nj)
 (hc : (ij md ops l == [i, j] && l.setIfInBounds i af == li && l.setIfInBounds j af == lj) = af) (hdi : i ∉ ds) (hdj : j ∉ ds)
 (h1 : ∀ K : Act -> World -> Prop, Shut (∀ a' w', S w' -> (S w' -> bC P md ops Q S ds fuel li a' w') -> K a' w') -> if dg oi (yielded ops a.tmps) = af then jf P oi a w K Q else K (a.put Ni undef) w)
 (h2 : ∀ K : Act -> World -> Prop, Shut (∀ a' w', S w' -> (S w' -> bC P md ops Q S ds fuel lj a' w') -> K a' w') -> if dg oj (yielded ops a.tmps) = af then jf P oj a w K Q else K (a.put Nj undef) w) :
 bC P md ops Q S ds (fuel + 1) l a w := by
 subst hNi
 subst hNj
 simp only [bo, beq_iff_eq] at hc
 obtain ⟨⟨h3, h4⟩, h5⟩ := hc
 subst h4
 subst h5
 exact iM h3 (by simp) (dA.cons hi hdi (fun K hK => h1 K hK) (dA.cons hj hdj (fun K hK => h2 K hK) dA.nil))
def iJ : Act -> List (Tmp × Value) -> Act
 | a, [] => a
 | a, (n, v) :: r => iJ (a.put (ac n) v) r
theorem join_ {σ : Type} {fuel : Nat} {l : Array Bool} {a : Act} {w : World} (fuel' : Nat) (l' : Array Bool) (ns : σ -> List (Tmp × Value)) (F : σ -> World -> Prop)
 (hcont : ∀ s w', F s w' -> bC P md ops Q S ds fuel' l' (iJ a (ns s)) w')
 (h : (∀ s w', F s w' -> bC P md ops Q S ds fuel' l' (iJ a (ns s)) w') -> bC P md ops Q S ds fuel l a w) : bC P md ops Q S ds fuel l a w := h hcont
theorem cU {fuel : Nat} {l : Array Bool} {a a' : Act} {w : World} (ha : a = a') (h : bC P md ops Q S ds fuel l a' w) : bC P md ops Q S ds fuel l a w := by
 subst ha
 exact h
theorem call_ {oi : Oper} {N : Option Tmp} {a : Act} {w : World} {K : Act -> World -> Prop} (f : FuncId) (args : Array Value) (hw : dg oi (yielded ops a.tmps) = af) (hN : oi.dst = N) (hrun : (execOp a.eval oi).run P w = .ok (.enter f args) w)
 (h : Calls P f args w fun e w' => ∃ v, e = .returned v /\ K (a.put N v) w') : if dg oi (yielded ops a.tmps) = af then jf P oi a w K Q else K (a.put N undef) w := by
 rw [if_pos hw]
 subst hN
 unfold jf
 rw [hrun, Oper.upon_enter]
 refine h.mono fun e w'' hh => ?_
 obtain ⟨v, rfl, hk⟩ := hh
 exact hk
theorem enters_ {f : FuncId} {fn : Func} (hf : P.funcs[f]? = ac fn) (hname : (fn.name == "runtime.NumGoroutine") = J) (hb : fn.body.isSome = af) (args : Array Value) (w : World) : (callFunc f args).run P w = .ok (.enter f args) w := by
 have h1 : fn.name ≠ "runtime.NumGoroutine" := by simpa using hname
 obtain ⟨c, hc⟩ := Option.isSome_iff_exists.1 hb
 simp [callFunc, hf, h1, hc]
theorem j5 {oi : Oper} {N : Option Tmp} {a : Act} {w : World} {K : Act -> World -> Prop} {f : FuncId} {fn : Func} {as : Array Operand} {ts : Array TypeId} (hf : P.funcs[f]? = ac fn) (hname : (fn.name == "runtime.NumGoroutine") = J) (hb : fn.body.isSome = af) (args : Array Value)
 (hw : dg oi (yielded ops a.tmps) = af) (hN : oi.dst = N) (hop : oi.op = .call { callee := .value (.func f), args := as, argTypes := ts }) (hargs : as.map a.eval = args)
 (h : Calls P f args w fun e w' => ∃ v, e = .returned v /\ K (a.put N v) w') : if dg oi (yielded ops a.tmps) = af then jf P oi a w K Q else K (a.put N undef) w := by
 refine call_ f args hw hN ?_ h
 have he := enters_ hf hname hb args w
 unfold execOp
 simp [hop, resolve, Deferred.ofValue, invoke, Act.eval, hargs, he]
theorem mD {rest : List Oper} {oi : Oper} {a : Act} {w : World} (N : Option Tmp) (hd : oi.dst = N) (hg : oi.guard = ag) {f : FuncId} {fn : Func} {as : Array Operand} {ts : Array TypeId} (hf : P.funcs[f]? = ac fn) (hname : (fn.name == "runtime.NumGoroutine") = J) (hb : fn.body.isSome = af) (args : Array Value)
 (hop : oi.op = .call { callee := .value (.func f), args := as, argTypes := ts }) (hargs : as.map a.eval = args)
 (h : Calls P f args w fun e w' => ∃ v, e = .returned v /\ wpList P ops Q rest (a.put N v) w') : wpList P ops Q (oi :: rest) a w := by
 refine wpList_plain hg fun K hK => ?_
 have he := enters_ hf hname hb args w
 have hrun : (execOp a.eval oi).run P w = .ok (.enter f args) w := by
  unfold execOp
  simp [hop, resolve, Deferred.ofValue, invoke, Act.eval, hargs, he]
 unfold jf
 rw [hrun, Oper.upon_enter]
 refine h.mono fun e w'' hh => ?_
 obtain ⟨v, rfl, hk⟩ := hh
 subst hd
 exact hK _ _ hk
theorem skip_ {oi : Oper} {a : Act} {w w1 : World} {K : Act -> World -> Prop} (hw : dg oi (yielded ops a.tmps) = af) (hN : oi.dst = ag) (hrun : (execOp a.eval oi).run P w = .ok .skip w1)
 (h : K a w1) : if dg oi (yielded ops a.tmps) = af then jf P oi a w K Q else K (a.put ag undef) w := by
 rw [if_pos hw]
 unfold jf
 rw [hrun]
 show K (a.put oi.dst undef) w1
 rw [hN]
 exact h
theorem aN (n : Int) : IntKind.i64.wrap n = Go.RowKit.wrap64 n := by unfold Go.RowKit.wrap64; exact IntKind.wrap_i64 n
theorem aM (n : Int) : IntKind.i32.wrap n = Go.RowKit.wrap32 n := by unfold Go.RowKit.wrap32; exact IntKind.wrap_i32 n
end
end Go.Proofs.YtfigjpehecibeaaGreatW.PrintLast
section
namespace Go.Proofs.YtfigjpehecibeaaGreatW.PrintWords
open Go.RowKit
namespace Kd
def tag {α : Type} (f : Nat -> Nat) (d : Kd α) : Kd (α × Nat) where
 sz := d.sz
 E := d.E
 K := fun w x cs => d.K w x.1 cs
 M := fun w base ok x cs => d.M w base (fun k => ok k /\ f k = x.2) x.1 cs
 K_len := fun h => d.K_len h
 K_one := fun h => d.K_one h
 K_below := fun hb h => d.K_below hb h
 K_of_M := fun h => d.K_of_M h
 M_mono := fun hok h => d.M_mono (fun k hk => ⟨hok k hk.1, hk.2⟩) h
 M_bound := fun h => d.M_mono (fun _ hk => ⟨⟨hk.1.1, hk.2⟩, hk.1.2⟩) (d.M_bound h)
 M_move := fun hm h => d.M_move (fun k hk => hm k hk.1) h
 M_lower := fun hb h => d.M_lower hb h
def raw (sz : Nat) : Kd (List Value) where
 sz := sz
 E := []
 K := fun _ x cs => cs = x /\ cs.length = sz /\ ∀ u ∈ cs, u.oneCell' = af
 M := fun _ _ _ x cs => cs = x /\ cs.length = sz /\ ∀ u ∈ cs, u.oneCell' = af
 K_len := fun h => h.2.1
 K_one := fun h => h.2.2
 K_below := fun _ h => h
 K_of_M := fun h => h
 M_mono := fun _ h => h
 M_bound := fun h => h
 M_move := fun _ h => h
 M_lower := fun _ h => h
def S {α : Type} (d : Kd α) (e : Nat) (w : World) (base : Nat) (ok : Nat -> Prop) (v : Value) (xs : List α) : Prop := ∃ f, (tag f d).R e w base ok v xs.zipIdx
def gap {α : Type} (f : Nat -> Nat) (d : Kd α) (i : Nat) (c : List Value) : Kd (α × Nat) where
 sz := d.sz
 E := d.E
 K := fun w x cs => (x.2 = i -> cs = c /\ cs.length = d.sz /\ ∀ u ∈ cs, u.oneCell' = af) /\ (x.2 ≠ i -> d.K w x.1 cs)
 M := fun w base ok x cs => (x.2 = i -> cs = c /\ cs.length = d.sz /\ ∀ u ∈ cs, u.oneCell' = af) /\ (x.2 ≠ i -> d.M w base (fun k => ok k /\ f k = x.2) x.1 cs)
 K_len := fun {w x cs} h => by
  by_cases hx : x.2 = i
  ·exact (h.1 hx).2.1
  ·exact d.K_len (h.2 hx)
 K_one := fun {w x cs} h => by
  by_cases hx : x.2 = i
  ·exact (h.1 hx).2.2
  ·exact d.K_one (h.2 hx)
 K_below := fun hb h => ⟨h.1, fun hx => d.K_below hb (h.2 hx)⟩
 K_of_M := fun h => ⟨h.1, fun hx => d.K_of_M (h.2 hx)⟩
 M_mono := fun hok h => ⟨h.1, fun hx => d.M_mono (fun k hk => ⟨hok k hk.1, hk.2⟩) (h.2 hx)⟩
 M_bound := fun h => ⟨h.1, fun hx => d.M_mono (fun _ hk => ⟨⟨hk.1.1, hk.2⟩, hk.1.2⟩) (d.M_bound (h.2 hx))⟩
 M_move := fun hm h => ⟨h.1, fun hx => d.M_move (fun k hk => hm k hk.1) (h.2 hx)⟩
 M_lower := fun hb h => ⟨h.1, fun hx => d.M_lower hb (h.2 hx)⟩
def H {α : Type} (d : Kd α) (e : Nat) (w : World) (base : Nat) (ok : Nat -> Prop) (v : Value) (xs : List α) (i : Int) (oki : Nat -> Prop) (c : List Value) : Prop :=
 (∀ k, oki k -> ok k) /\ ∃ f, (gap f d i.toNat c).R e w base (fun k => ok k /\ ¬ oki k) v xs.zipIdx
end Kd
end Go.Proofs.YtfigjpehecibeaaGreatW.PrintWords
end
section
namespace Go.Proofs.YtfigjpehecibeaaGreatW.PrintWords
open Go.RowKit
namespace Kd
structure Heap {α : Type} (d : Kd α) : Prop where
 K : ∀ {w w1 : World} {x : α} {cs : List Value}, (∀ k, k < w.heap.size -> w1.heap[k]? = w.heap[k]?) -> d.K w x cs -> d.K w1 x cs
theorem cell_heap {w w1 : World} (hb : ∀ k, k < w.heap.size -> w1.heap[k]? = w.heap[k]?) {a : Addr} {v : Value} (h : w.cell? a = ac v) : w1.cell? a = ac v := by
 have := hb a.block (aj w a h)
 simpa [World.cell?, this] using h
theorem Heap.C {α : Type} {d : Kd α} (hd : Heap d) {w w1 : World} {A : Option Addr} {n : Nat} {xs : List α} (hb : ∀ k, k < w.heap.size -> w1.heap[k]? = w.heap[k]?) (h : d.C w A n xs) : d.C w1 A n xs :=
 ⟨h.1, h.2.1, fun hn => by
   obtain ⟨ad, e, hc⟩ := h.2.2 hn
   refine ⟨ad, e, fun j p hj => ?_⟩
   obtain ⟨c, hs, hr, hcell⟩ := hc j p hj
   exact ⟨c, hs, hd.K hb hr, fun i u hu => cell_heap hb (hcell i u hu)⟩⟩
end Kd
end Go.Proofs.YtfigjpehecibeaaGreatW.PrintWords
end
namespace Go.Proofs.YtfigjpehecibeaaGreatW.PrintWords
open Go.RowKit
def Kept (w W : World) (S : Nat -> Prop) : Prop := w.heap.size <= W.heap.size /\ ∀ i, i < w.heap.size -> ¬ S i -> W.heap[i]? = w.heap[i]?
section
variable {w W W2 : World} {S S2 S' : Nat -> Prop}
theorem Kept.refl (w : World) (S : Nat -> Prop) : Kept w w S := ⟨ar _, fun _ _ _ => rfl⟩
theorem Kept.of_below (h : Below w.heap.size w W) (S : Nat -> Prop) : Kept w W S := ⟨h.size, fun i hi _ => h.block i hi⟩
theorem Kept.mono (h : Kept w W S) (hs : ∀ k, S k -> S' k) : Kept w W S' := ⟨h.1, fun i hi hn => h.2 i hi (fun hk => hn (hs i hk))⟩
theorem Kept.then_ (h : Kept w W S) (k : Kept W W2 S2) (hs : ∀ k, S2 k -> S k \/ w.heap.size <= k) : Kept w W2 S :=
 ⟨bh h.1 k.1, fun i hi hn => (k.2 i (bq hi h.1) (fun h2 => (hs i h2).elim hn (fun h3 => by omega))).trans (h.2 i hi hn)⟩
theorem Kept.below (h : Kept w W S) (hb : Below W.heap.size W W2) : Kept w W2 S := h.then_ (Kept.of_below hb (fun _ => False)) (fun _ hk => hk.elim)
theorem Kept.alloc (h : Kept w W S) (o : Obj) : Kept w (W.alloc o) S := h.below (aR (aq _ _) o)
theorem Kept.drew (h : Kept w W S) : Kept w W.drew S := h
theorem Kept.drewN (h : Kept w W S) (m : Nat) : Kept w (W.drewN m) S := h
theorem Kept.setCell (h : Kept w W S) {p : Addr} (hp : S p.block \/ w.heap.size <= p.block) (u : Value) : Kept w (W.setCell p u) S :=
 h.then_ (S2 := fun k => k = p.block) ⟨by simp [iu], fun i _ hn => dw W p u i hn⟩ (fun k hk => by rw [hk]; exact hp)
end
end Go.Proofs.YtfigjpehecibeaaGreatW.PrintWords
section
namespace Go.Proofs.YtfigjpehecibeaaGreatW.PrintWords
open Go.RowKit
def Foot (P : World -> Prop) (W : World) (ok : Nat -> Prop) : Prop := ∀ W' : World, (∀ k, ok k -> k < W.heap.size -> W'.heap[k]? = W.heap[k]?) -> P W'
theorem heap_lt {W W1 : World} {k : Nat} (h : W1.heap[k]? = W.heap[k]?) (hlt : k < W.heap.size) : k < W1.heap.size := by
 rw [Array.getElem?_eq_getElem hlt] at h
 exact (jo.1 h).1
namespace Foot
variable {P Q : World -> Prop} {W W1 : World} {ok ok' : Nat -> Prop}
theorem mono (h : Foot P W ok) (hok : ∀ k, ok k -> ok' k) : Foot P W ok' := fun W' hW => h W' (fun k hk hlt => hW k (hok k hk) hlt)
theorem step (h : Foot P W ok) (hm : ∀ k, ok k -> k < W.heap.size -> W1.heap[k]? = W.heap[k]?) : Foot P W1 ok := fun W' hW => h W' (fun k hk hlt => (hW k hk (heap_lt (hm k hk hlt) hlt)).trans (hm k hk hlt))
theorem imp (h : Foot P W ok) (hi : ∀ W', P W' -> Q W') : Foot Q W ok := fun W' hW => hi W' (h W' hW)
end Foot
namespace Kd
def F {α : Type} (d : Kd α) (W : World) (ok : Nat -> Prop) (A : Option Addr) (n : Nat) (xs : List α) : Prop := Foot (fun W => d.C W A n xs) W ok
def FK {α : Type} (d : Kd α) (W : World) (ok : Nat -> Prop) (x : α) (c : List Value) : Prop := Foot (fun W => d.K W x c) W ok
end Kd
end Go.Proofs.YtfigjpehecibeaaGreatW.PrintWords
end
section
namespace Go.Proofs.YtfigjpehecibeaaGreatW.PrintWords
open Go.RowKit
namespace Kd
section
variable {α : Type} {d : Kd α} {e base n cc g : Nat} {ok ok' okp S : Nat -> Prop} {w w1 W W1 : World} {A : Option Addr} {u v v1 : Value} {xs : List α} {x : α} {c : List Value}
def N {α : Type} (d : Kd α) (e : Nat) (w : World) (base : Nat) (ok : Nat -> Prop) (v : Value) (xs : List α) : Prop :=
 (∀ k, v.ownBlock = ac k -> ok k) /\ ∃ rows : List (List Value), rows.length = xs.length /\ (raw d.sz).R e w base (fun k => ac k = v.ownBlock) v rows /\ ∀ (j : Nat) (x : α) (c : List Value), xs[j]? = ac x -> rows[j]? = ac c -> FK d w (fun k => ok k /\ ac k ≠ v.ownBlock) x c
end
end Kd
end Go.Proofs.YtfigjpehecibeaaGreatW.PrintWords
end
section
namespace Go.Proofs.YtfigjpehecibeaaGreatW.PrintMore
open Go.RowKit Go.Proofs.YtfigjpehecibeaaGreatW.PrintWords
theorem iX (k k' : IntKind) (x y : Int) : Builtin.max2 (.int k x) (.int k' y) = pure (.int k (if x < y then y else x)) := by simp only [Builtin.max2, gt_iff_lt]
theorem gY (k k' : IntKind) (x y : Int) : Builtin.min2 (.int k x) (.int k' y) = pure (.int k (if y < x then y else x)) := by simp only [Builtin.min2]
theorem kS (ats : Array TypeId) (ty : TypeId) (a b : Value) : Builtin.max_ ats ty #[a, b] = (Builtin.max2 a b >>= fun s => pure s) := by simp only [Builtin.max_, List.foldlM_cons, List.foldlM_nil]
theorem j9 (ats : Array TypeId) (ty : TypeId) (a b : Value) : Builtin.min_ ats ty #[a, b] = (Builtin.min2 a b >>= fun s => pure s) := by simp only [Builtin.min_, List.foldlM_cons, List.foldlM_nil]
theorem gQ (ats : Array TypeId) (ty : TypeId) (a b c : Value) : Builtin.max_ ats ty #[a, b, c] = (Builtin.max2 a b >>= fun s => Builtin.max2 s c >>= fun s => pure s) := by simp only [Builtin.max_, List.foldlM_cons, List.foldlM_nil]
theorem gO (ats : Array TypeId) (ty : TypeId) (a b c : Value) : Builtin.min_ ats ty #[a, b, c] = (Builtin.min2 a b >>= fun s => Builtin.min2 s c >>= fun s => pure s) := by simp only [Builtin.min_, List.foldlM_cons, List.foldlM_nil]
theorem iV (ats : Array TypeId) (ty : TypeId) (a b c d : Value) : Builtin.max_ ats ty #[a, b, c, d] = (Builtin.max2 a b >>= fun s => Builtin.max2 s c >>= fun s => Builtin.max2 s d >>= fun s => pure s) := by simp only [Builtin.max_, List.foldlM_cons, List.foldlM_nil]
theorem iZ (ats : Array TypeId) (ty : TypeId) (a b c d : Value) : Builtin.min_ ats ty #[a, b, c, d] = (Builtin.min2 a b >>= fun s => Builtin.min2 s c >>= fun s => Builtin.min2 s d >>= fun s => pure s) := by simp only [Builtin.min_, List.foldlM_cons, List.foldlM_nil]
end Go.Proofs.YtfigjpehecibeaaGreatW.PrintMore
namespace Go.Proofs.YtfigjpehecibeaaGreatW.PrintWords
open Go.RowKit
section
variable {P : Program} {ops : Array Oper} {rest : List Oper} {o : Oper} {a : Act} {Q : Exit -> Act -> World -> Prop} {W : World}
theorem eF {f : FuncId} {as : Array Operand} {ts : Array TypeId} (_ho : o.op = .call { callee := .value (.func f), args := as, argTypes := ts }) (h : wpList P ops Q (o :: rest) a W) : wpList P ops Q (o :: rest) a W := h
theorem eV {b : Builtin} {xs : Array Operand} {ts : Array TypeId} (_ho : o.op = .call { callee := .builtin b, args := xs, argTypes := ts }) (h : wpList P ops Q (o :: rest) a W) : wpList P ops Q (o :: rest) a W := h
end
def mx (a b : Int) : Int := if a < b then b else a
def mn (a b : Int) : Int := if b < a then b else a
def shl (k : IntKind) (x y : Int) : Int := k.wrap (x * 2 ^ min y.toNat k.bits)
def shr (k : IntKind) (x y : Int) : Int := x / 2 ^ min y.toNat k.bits
theorem shl_small {k : IntKind} {x y j : Int} (h : shl k x y = j) (hy : y <= k.bits) : k.wrap (x * 2 ^ y.toNat) = j := by rw [<- h]; unfold shl; rw [cy (by omega)]
end Go.Proofs.YtfigjpehecibeaaGreatW.PrintWords
namespace Go.Proofs.YtfigjpehecibeaaGreatW.PrintWords
open Go.RowKit
namespace Kd
def V {α : Type} (d : Kd α) (_e : Nat) (W : World) (_base : Nat) (ok : Nat -> Prop) (v : Value) (xs : List α) : Prop := ∃ A c, v = .slice A xs.length c /\ xs.length <= c /\ F d W ok A xs.length xs
end Kd
end Go.Proofs.YtfigjpehecibeaaGreatW.PrintWords
end
namespace Go.Proofs.YtfigjpehecibeaaGreatW.PrintLast
open Go.Proofs.YtfigjpehecibeaaGreatW.PrintWords (Aside0)
section
variable {md : kf} {ops : Array Oper} {T : Bool × List (List Nat × List Nat)} {l l' li lj lk : Array Bool} {ds : List Nat} {i j k : Nat}
theorem gd (l : Array Bool) (j : Nat) (b : Bool) : l.getD j b = l.toList.getD j b := by simp [Array.getD_eq_getD_getElem?, au]
end
end Go.Proofs.YtfigjpehecibeaaGreatW.PrintLast
namespace Go.Proofs.YtfigjpehecibeaaGreatW.PrintWords
open Go.RowKit
section
variable {P : Program} {d : Nat} {xs ys : Array Value} {f : Field} {fs : List Field} {a b : Value} {r s : Bool} {w : World}
theorem eqf_last (hn : (f.name == "_") = J) (ha : (part f.type xs f.offset).run P w = .ok a w) (hb : (part f.type ys f.offset).run P w = .ok b w) (he : (Op.equalIn d f.type a b).run P w = .ok r w) : (Op.eqFields d xs ys [f]).run P w = .ok r w := by
 have hn' : f.name ≠ "_" := by simpa using hn
 simp only [Op.eqFields, if_pos hn', Sem.run_bind, ha, hb, he, Result.andThen_ok]
 cases r <;> simp
theorem eqf_cons (hn : (f.name == "_") = J) (ha : (part f.type xs f.offset).run P w = .ok a w) (hb : (part f.type ys f.offset).run P w = .ok b w) (he : (Op.equalIn d f.type a b).run P w = .ok r w) (hr : (Op.eqFields d xs ys fs).run P w = .ok s w) : (Op.eqFields d xs ys (f :: fs)).run P w = .ok (r && s) w := by
 have hn' : f.name ≠ "_" := by simpa using hn
 rw [Op.eqFields]
 simp only [if_pos hn', Sem.run_bind, ha, hb, he, Result.andThen_ok]
 cases r
 ·simp
 ·simpa using hr
theorem eqA_of {t : TypeId} {fs : Array Field} (hu : P.underlying t = ac (.struct fs)) (hp : P.stoodInHeld t = J) (h : (Op.eqFields d xs ys fs.toList).run P w = .ok r w) : (Op.equalIn (d + 1) t (.agg xs) (.agg ys)).run P w = .ok r w := by
 have hf : P.fieldsOf t = fs := by simp [Program.fieldsOf, hu]
 rw [run_equalIn_struct (P := P) w d t xs ys (by rw [hf]; exact hu) hp, hf]
 exact h
end
end Go.Proofs.YtfigjpehecibeaaGreatW.PrintWords
namespace Go.Proofs.YtfigjpehecibeaaGreatW.PrintWords
theorem dF.one {α : Type} {R : α -> List Value -> Prop} {ps : List α} {cs : List Value} {p : α} {v : Value} (hp : R p [v]) (h : dF R 1 ps cs) : dF R 1 (p :: ps) (v :: cs) := by
 refine ⟨by simp [h.1], fun j q hq => ?_⟩
 cases j with
 | zero =>
   simp only [List.getElem?_cons_zero, Option.some.injEq] at hq
   subst hq
   simpa using hp
 | succ j =>
   simp only [List.getElem?_cons_succ] at hq
   have h1 := h.2 j q hq
   simpa [gu] using h1
theorem dF.front {α : Type} {R : α -> List Value -> Prop} {size : Nat} {ps : List α} {cs c all : List Value} {p : α} (hp : R p c) (hc : c.length = size) (h : dF R size ps cs) (ha : c ++ cs = all) : dF R size (p :: ps) all := by
 subst ha
 refine ⟨by rw [ay, hc, h.1, iv, kr, Nat.add_comm], fun j q hq => ?_⟩
 cases j with
 | zero =>
   simp only [List.getElem?_cons_zero, Option.some.injEq] at hq
   subst hq
   rw [Nat.zero_mul, List.drop_zero, ke (by omega), ku (by omega)]
   exact hp
 | succ j =>
   simp only [List.getElem?_cons_succ] at hq
   have h1 := h.2 j q hq
   rw [kr, List.drop_append, List.drop_of_length_le (by rw [hc]; exact Nat.le_add_left _ _), List.nil_append, hc, Nat.add_sub_cancel]
   exact h1
theorem dF.c2 {α : Type} {R : α -> List Value -> Prop} {ps : List α} {cs : List Value} {p : α} {va vb : Value} (hp : R p [va, vb]) (h : dF R 2 ps cs) : dF R 2 (p :: ps) (va :: vb :: cs) := dF.front hp rfl h rfl
theorem dF.c3 {α : Type} {R : α -> List Value -> Prop} {ps : List α} {cs : List Value} {p : α} {va vb vc : Value} (hp : R p [va, vb, vc]) (h : dF R 3 ps cs) : dF R 3 (p :: ps) (va :: vb :: vc :: cs) := dF.front hp rfl h rfl
theorem dF.c4 {α : Type} {R : α -> List Value -> Prop} {ps : List α} {cs : List Value} {p : α} {va vb vc vd : Value} (hp : R p [va, vb, vc, vd]) (h : dF R 4 ps cs) : dF R 4 (p :: ps) (va :: vb :: vc :: vd :: cs) := dF.front hp rfl h rfl
theorem dF.c5 {α : Type} {R : α -> List Value -> Prop} {ps : List α} {cs : List Value} {p : α} {va vb vc vd ve : Value} (hp : R p [va, vb, vc, vd, ve]) (h : dF R 5 ps cs) : dF R 5 (p :: ps) (va :: vb :: vc :: vd :: ve :: cs) := dF.front hp rfl h rfl
theorem dF.c6 {α : Type} {R : α -> List Value -> Prop} {ps : List α} {cs : List Value} {p : α} {va vb vc vd ve vf : Value} (hp : R p [va, vb, vc, vd, ve, vf]) (h : dF R 6 ps cs) : dF R 6 (p :: ps) (va :: vb :: vc :: vd :: ve :: vf :: cs) := dF.front hp rfl h rfl
theorem dF.c7 {α : Type} {R : α -> List Value -> Prop} {ps : List α} {cs : List Value} {p : α} {va vb vc vd ve vf vg : Value} (hp : R p [va, vb, vc, vd, ve, vf, vg]) (h : dF R 7 ps cs) : dF R 7 (p :: ps) (va :: vb :: vc :: vd :: ve :: vf :: vg :: cs) := dF.front hp rfl h rfl
theorem dF.c8 {α : Type} {R : α -> List Value -> Prop} {ps : List α} {cs : List Value} {p : α} {va vb vc vd ve vf vg vh : Value} (hp : R p [va, vb, vc, vd, ve, vf, vg, vh]) (h : dF R 8 ps cs) : dF R 8 (p :: ps) (va :: vb :: vc :: vd :: ve :: vf :: vg :: vh :: cs) := dF.front hp rfl h rfl
theorem dF.c9 {α : Type} {R : α -> List Value -> Prop} {ps : List α} {cs : List Value} {p : α} {va vb vc vd ve vf vg vh vi : Value} (hp : R p [va, vb, vc, vd, ve, vf, vg, vh, vi]) (h : dF R 9 ps cs) : dF R 9 (p :: ps) (va :: vb :: vc :: vd :: ve :: vf :: vg :: vh :: vi :: cs) := dF.front hp rfl h rfl
theorem dF.c10 {α : Type} {R : α -> List Value -> Prop} {ps : List α} {cs : List Value} {p : α} {va vb vc vd ve vf vg vh vi vj : Value} (hp : R p [va, vb, vc, vd, ve, vf, vg, vh, vi, vj]) (h : dF R 10 ps cs) : dF R 10 (p :: ps) (va :: vb :: vc :: vd :: ve :: vf :: vg :: vh :: vi :: vj :: cs) := dF.front hp rfl h rfl
end Go.Proofs.YtfigjpehecibeaaGreatW.PrintWords
namespace Go.Proofs.YtfigjpehecibeaaGreatW.PrintLast
def up (b : Nat -> Bool) (i : Nat) : Nat -> Bool := fun j => if j = i then af else b j
end Go.Proofs.YtfigjpehecibeaaGreatW.PrintLast
namespace Go.Proofs.YtfigjpehecibeaaGreatW.PrintWords
open Go.RowKit
section
variable {P : Program} {ops : Array Oper} {rest : List Oper} {o : Oper} {a : Act} {Q : Exit -> Act -> World -> Prop} {W : World}
theorem mZ (hw : dg o (yielded ops a.tmps) = af) (h : wpList P ops Q ({ o with guard := ag } :: rest) a W) : wpList P ops Q (o :: rest) a W := by
 have h1 : dg { o with guard := ag } (yielded ops a.tmps) = af := rfl
 unfold wpList at h ⊢
 rw [if_pos h1] at h
 rw [if_pos hw]
 exact h
end
end Go.Proofs.YtfigjpehecibeaaGreatW.PrintWords
