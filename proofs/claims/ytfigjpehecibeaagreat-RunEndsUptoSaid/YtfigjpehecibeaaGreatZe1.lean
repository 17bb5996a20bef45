/- Texts joined by a program of mine: Op L0 La Gr Lb Lc Le Ld0 Lf LsAlt LsAgt LsA1 LsA2 LsA3 LsA4 LsA5 LsBlt LsBgt LsB1 LsB2 LsB3 LsB4 LsB5 Lg Lh Li Lm Lk Ln Lo Ot Lp. -/
import Derived.Deep.Slices
import Derived.SizedLaws
import Derived.Test.YtfigjpehecibeaaGreatProg
import Derived.Below
import Derived.Deep.Draws
import Derived.Deep.AppendLies
import Derived.Maps.AppendAt
import Derived.OwnWalk
import Derived.Laws.BytesArg
import Derived.Laws.MakeOwn
import Derived.Laws.OwnMore
import Derived.Deep.OwnRows
import Derived.Tactics
import Derived.Lib.ConvBytes
import Derived.Laws.Slices
import Derived.WalkKit
import Derived.KernelRfl
import Derived.RowKit3
import Derived.Deep.LoopGhost
import Derived.Deep.QuietTactic
import Derived.BigQuiet
import Derived.WideLaws
import Derived.Deep.DeepCutAuto
import Derived.Deep.CutBlock
import Derived.Deep.RegionHeld3
import Derived.Laws.Rows
import Derived.Lib.AppendStr
import Derived.ArgAppend
import Derived.Laws.IdiomCopy
import Derived.OrdersHeld
import Derived.Laws.BitsLemmas
import Derived.RowKit
import Derived.Lib.Bytes
import Derived.Test.YtfigjpehecibeaaGreatRows
import Derived.Test.YtfigjpehecibeaaGreatZe0
open And renaming intro -> ae
open Bool renaming true -> af, and_eq_true -> bo, false -> J, true_and -> jy, false_and -> jb
open ByteArray renaming empty -> fe
open Go.Ending renaming returned -> fw
open Go.Proofs.Tryz renaming prog -> ak, func242 -> jx, underlying3 -> ju, underlying74 -> jr, underlying9 -> jc
open Go.Proofs.YtfigjpehecibeaaGreatW.PrintWords.Aside0 renaming mk -> I
open Go.Proofs.YtfigjpehecibeaaGreatW.PrintWords.Drawn0 renaming refl -> cz, step -> da
open Go.RowKit.Below renaming refl -> aq
open Go.Value renaming int -> ba
open Go.World renaming block_lt_of_cell? -> aj
open Int renaming toNat_natCast -> av, natCast_nonneg -> bc, lt_or_le -> cu
open List renaming all_eq_true -> dz, mem_cons -> gi, getElem?_eq_some_iff -> dm, getElem?_eq_getElem -> az, getElem_of_mem -> fz, take_of_length_le -> ku, length_drop -> dx, map_cons -> cm, map_nil -> cw, append_nil -> df, getElem?_map -> kg, range -> br, mem_range -> ja, map_toArray -> cb, length_take -> cn, drop_eq_nil_of_le -> jp, getD_eq_getElem?_getD -> au, drop_eq_getElem_cons -> ig, any_cons -> jn, isEmpty_iff -> gp, getElem_mem -> ef, sizeOf_lt_of_mem -> eu, eq_nil_of_length_eq_zero -> cg, isEmpty_eq_false_iff -> db, cons_append -> gq, take_length -> di
open Nat renaming le_refl -> ar, le_trans -> bh, mul_le_mul_right -> fj, le_mul_of_pos_right -> fo, zero_le -> bi, not_lt_zero -> cq, eq_zero_or_pos -> cf, lt_or_ge -> gj, mul_one -> gu, add_zero -> fq, min_eq_right -> iw, min_eq_left -> cy
open Option renaming some -> ac, none -> ag, map_eq_some_iff -> gf, bind_some -> jk
open Option.some renaming inj -> ck
open Or renaming inl -> bg
open SizeOf renaming sizeOf -> cd
set_option linter.unusedVariables false
set_option linter.unusedSimpArgs false
set_option maxHeartbeats 8000000
namespace Go.Proofs.YtfigjpehecibeaaGreat.Op
open Go.RowKit Go.ChangeShapes Go.WideShapes Go.Deep Go.Proofs.YtfigjpehecibeaaGreatW.PrintWords
structure Bulk {H : Type} (B : DataW H -> Nat) : Prop where
 str : ∀ l, l.length + 1 <= B (.lit (.string l))
 one : ∀ d, 1 <= B d
 slice : ∀ es ss, (es.map B).sum + 1 <= B (.slice es ss)
 agg : ∀ ps, (ps.map B).sum + 1 <= B (.agg ps)
def iP {H : Type} (enc : TypeId × Value -> H) (P : Program) (w : World) (B : DataW H -> Nat) {α : Type} (fuel : Nat) (t : TypeId) (k : Kd α) (good : α -> Prop) (bulk : α -> Nat) : Prop :=
 ∀ cs x, DataW.trod enc P w 0 (fun _ => af) af fuel t cs = ac x -> (x.1.weights P t).all (· <= reachBytes) = af -> ∃ v, k.K w v cs /\ good v /\ bulk v <= B x.1
section
variable {H : Type} {enc : TypeId × Value -> H} {P : Program} {w : World} {B : DataW H -> Nat} {fuel : Nat} {t e : TypeId}
theorem eW (hB : Bulk B) {k : IntKind} (ht : P.underlying t = ac (.int k)) : iP enc P w B fuel t (Kd.int k) (fun n => (Lit.int k n).wf = af) (fun _ => 1) := by
 intro cs x h _
 obtain ⟨n, rfl, rfl, hw⟩ := DataW.trod_int ht h
 exact ⟨n, rfl, hw, hB.one _⟩
theorem iY (hB : Bulk B) (ht : P.underlying t = ac .string) : iP enc P w B fuel t Kd.string (fun s => s.size <= 140737488351232) (fun s => s.size + 1) := by
 intro cs x h hs
 obtain ⟨s, rfl, rfl, _⟩ := DataW.trod_string ht h
 refine ⟨s, rfl, ?_, ?_⟩
 ·have z := of_decide_eq_true (dz.1 hs s.data.toList.length (by simp [DataW.weights]))
  simpa [reachBytes] using z
 ·have := hB.str s.data.toList
  simpa using this
theorem all_weights {ds : List (DataW H)} (h : (DataW.weightsAll P e ds).all (· <= reachBytes) = af) {d : DataW H} (hd : d ∈ ds) : (d.weights P e).all (· <= reachBytes) = af := by
 induction ds with
 | nil => cases hd
 | cons a r ih =>
   rw [DataW.weightsAll, List.all_append, bo] at h
   rcases gi.1 hd with rfl | hd
   ·exact h.1
   ·exact ih h.2 hd
theorem list_of {α β : Type} (ds : List β) (p : Nat -> β -> α -> Prop) (b : α -> Nat) (B : β -> Nat) (h : ∀ i d, ds[i]? = ac d -> ∃ v, p i d v /\ b v <= B d) :
 ∃ vs : List α, vs.length = ds.length /\ (∀ i d v, ds[i]? = ac d -> vs[i]? = ac v -> p i d v) /\ (vs.map b).sum <= (ds.map B).sum := by
 induction ds generalizing p with
 | nil => exact ⟨[], rfl, fun i d v h => by simp at h, by simp⟩
 | cons d r ih =>
   obtain ⟨v, hv, hb⟩ := h 0 d rfl
   obtain ⟨vs, h1, h2, h3⟩ := ih (fun i => p (i + 1)) (fun i d hd => h (i + 1) d (by simpa using hd))
   refine ⟨v :: vs, by simp [h1], fun i d' v' hd hv' => ?_, by simp; omega⟩
   cases i with
   | zero => simp at hd hv'; subst hd; subst hv'; exact hv
   | succ i => exact h2 i d' v' (by simpa using hd) (by simpa using hv')
theorem fG (hB : Bulk B) {α : Type} {k : Kd α} {good : α -> Prop} {bulk : α -> Nat} {n bytes : Nat} (ht : P.underlying t = ac (.slice e)) (hc : P.cellsOf e = k.sz) (hy : P.bytesOf e = bytes) (hpos : 0 < bytes)
 (he : ∀ m, m < fuel -> iP enc P w B m e k good bulk) :
 iP enc P w B fuel t (Kd.slice n k) (fun xs => xs.length * bytes <= 140737488351232 /\ ∀ x ∈ xs, good x) (fun xs => (xs.map bulk).sum + 1) := by
 intro cs x h hs
 rcases DataW.trod_slice ht h with ⟨rfl, rfl⟩ | ⟨a, len, cap, elems, rest, m, rfl, rfl, rfl, hb, hl, hm, hlen, hel, _, _⟩
 ·exact ⟨[], ⟨ag, 0, rfl, ar _, Kd.C_nil _ _⟩, ⟨by simp, fun x hx => by cases hx⟩, hB.one _⟩
 ·have hw : ((elems.map (·.1)).length + (rest.map (·.1)).length) * P.bytesOf e <= reachBytes /\ (DataW.weightsAll P e (elems.map (·.1))).all (· <= reachBytes) = af := by
   simp only [DataW.weights, ht] at hs
   rw [List.all_cons, bo, List.all_append, bo] at hs
   exact ⟨of_decide_eq_true hs.1, hs.2.1⟩
  obtain ⟨vs, h1, h2, h3⟩ := list_of elems (fun i d v => ∃ cs', w.cells? 0 (a.add (i * P.cellsOf e)) (P.cellsOf e) = ac cs' /\ k.K w v cs' /\ good v) bulk (fun d => B d.1) (by
   intro i d hd
   have hi : i < len := by rw [<- hlen]; exact (dm.1 hd).1
   have hx := hel i hi
   rw [hd] at hx
   obtain ⟨cs', g1, g2⟩ := Option.bind_eq_some_iff.1 hx
   obtain ⟨v, g3, g4, g5⟩ := he m (Nat.lt_succ_self m) cs' d g2 (all_weights hw.2 (List.mem_map.2 ⟨d, List.mem_of_getElem? hd, rfl⟩))
   exact ⟨v, ⟨cs', g1, g3, g4⟩, g5⟩)
  have hvl : vs.length = len := by rw [h1, hlen]
  have hsz : len * bytes <= 140737488351232 := by
   have z := hw.1
   rw [hy, List.length_map, hlen] at z
   refine bh (fj _ (Nat.le_add_right _ _)) (bh z ?_)
   simp [reachBytes]
  refine ⟨vs, ⟨ac a, cap, by rw [hvl], by rw [hvl]; exact hl, rfl, ?_, fun _ => ⟨a, rfl, ?_⟩⟩, ⟨by rw [hvl]; exact hsz, ?_⟩, ?_⟩
  ·rw [hvl]
   have : len <= len * bytes := fo _ hpos
   omega
  ·intro j p hp
   have hj : j < vs.length := (dm.1 hp).1
   obtain ⟨cs', g1, g2, _⟩ := h2 j _ p (az (by rw [<- h1]; exact hj)) hp
   obtain ⟨_, g4, g5⟩ := World.cells?_some g1
   rw [hc] at g4 g5
   refine ⟨cs', g4, g2, fun i u hu => ?_⟩
   have hi : i < cs'.length := (dm.1 hu).1
   have g6 := g5 i (by omega)
   rw [Go.Deep.add_add] at g6
   rw [g6, hu]
  ·intro x hx
   obtain ⟨j, hj, rfl⟩ := fz hx
   obtain ⟨_, _, _, g⟩ := h2 j _ _ (az (by rw [<- h1]; exact hj)) (az hj)
   exact g
  ·have z := hB.slice (elems.map (·.1)) (rest.map (·.1))
   have e2 : (elems.map fun d => B d.1).sum = ((elems.map (·.1)).map B).sum := by rw [List.map_map]; rfl
   show (vs.map bulk).sum + 1 <= B (.slice (elems.map (·.1)) (rest.map (·.1)))
   omega
def OpensF {H : Type} (enc : TypeId × Value -> H) (P : Program) (w : World) (B : DataW H -> Nat) {β : Type} (n total o : Nat) (fs : List (TypeId × Nat)) (k : Kd β) (good : β -> Prop) (bulk : β -> Nat) : Prop :=
 ∀ (cs : List Value) (xs : List (DataW H × List MemPlace)), cs.length = total -> xs.length = fs.length -> (∀ (i : Nat) (f : TypeId × Nat), fs[i]? = ac f -> DataW.trod enc P w 0 (fun _ => af) af n f.1 ((cs.drop f.2).take (P.cellsOf f.1)) = xs[i]?) ->
  (DataW.weightsEach P (fs.map (·.1)) (xs.map (·.1))).all (· <= reachBytes) = af -> ∃ v, k.K w v (cs.drop o) /\ good v /\ bulk v <= (xs.map fun d => B d.1).sum
theorem jY {α : Type} {k : Kd α} {good : α -> Prop} {bulk : α -> Nat} {n total o : Nat} {f : TypeId} (hf : iP enc P w B n f k good bulk) (ho : total <= o + P.cellsOf f) : OpensF enc P w B n total o [(f, o)] k good bulk := by
 intro cs xs hl hx ht hw
 match xs, hx with
 | [x], _ =>
   have h0 := ht 0 (f, o) rfl
   simp only [List.getElem?_cons_zero] at h0
   rw [ku (by rw [dx]; omega)] at h0
   simp only [cm, cw, DataW.weightsEach, df] at hw
   obtain ⟨v, g1, g2, g3⟩ := hf _ _ h0 hw
   exact ⟨v, g1, g2, by simpa using g3⟩
theorem bY {α β : Type} {k : Kd α} {k2 : Kd β} {good : α -> Prop} {bulk : α -> Nat} {good2 : β -> Prop} {bulk2 : β -> Nat} {n total o o2 : Nat} {f : TypeId} {fs : List (TypeId × Nat)} (hf : iP enc P w B n f k good bulk) (ho : o + P.cellsOf f = o2)
 (h2 : OpensF enc P w B n total o2 fs k2 good2 bulk2) : OpensF enc P w B n total o ((f, o) :: fs) (Kd.pair k k2) (fun v => good v.1 /\ good2 v.2) (fun v => bulk v.1 + bulk2 v.2) := by
 intro cs xs hl hx ht hw
 match xs, hx with
 | x :: xs, hx =>
   have h0 := ht 0 (f, o) rfl
   simp only [List.getElem?_cons_zero] at h0
   simp only [cm, DataW.weightsEach, List.all_append, bo] at hw
   obtain ⟨v, g1, g2, g3⟩ := hf _ _ h0 hw.1
   obtain ⟨v2, g4, g5, g6⟩ := h2 cs xs hl (by simpa using hx) (fun i f' hf' => by simpa using ht (i + 1) f' (by simpa using hf')) hw.2
   refine ⟨(v, v2), ⟨_, _, ?_, g1, g4⟩, ⟨g2, g5⟩, by simp; omega⟩
   rw [<- ho, <- List.drop_drop, List.take_append_drop]
theorem iU (hB : Bulk B) {β : Type} {fa : Array Field} {fs : List (TypeId × Nat)} {k : Kd β} {good : β -> Prop} {bulk : β -> Nat} (ht : P.underlying t = ac (.struct fa)) (hfs : fa.toList.map (fun f => (f.type, f.offset)) = fs)
 (h : ∀ n, n < fuel -> OpensF enc P w B n (P.cellsOf t) 0 fs k good bulk) : iP enc P w B fuel t k good (fun v => bulk v + 1) := by
 intro cs x hx hw
 obtain ⟨xs, n, rfl, rfl, hl, hxl, hf⟩ := DataW.trod_struct ht hx
 simp only [DataW.weights, ht] at hw
 have hmt : fa.toList.map (·.type) = fs.map (·.1) := by rw [<- hfs, List.map_map]; rfl
 rw [hmt] at hw
 obtain ⟨v, g1, g2, g3⟩ := h n (Nat.lt_succ_self n) cs xs hl (by rw [hxl, <- hfs]; simp) (fun i f hif => by
  rw [<- hfs, kg] at hif
  obtain ⟨f0, hf0, rfl⟩ := gf.1 hif
  exact hf i f0 (by simpa using hf0)) hw
 refine ⟨v, by simpa using g1, g2, ?_⟩
 have z := hB.agg (xs.map (·.1))
 have e2 : (xs.map fun d => B d.1).sum = ((xs.map (·.1)).map B).sum := by rw [List.map_map]; rfl
 show bulk v + 1 <= B (.agg (xs.map (·.1)))
 omega
theorem mN {α β : Type} {k : Kd α} {good : α -> Prop} {bulk : α -> Nat} {f : β -> α} (g : α -> β) (hg : ∀ a, f (g a) = a) (h : iP enc P w B fuel t k good bulk) : iP enc P w B fuel t (Kd.iso k f) (fun b => good (f b)) (fun b => bulk (f b)) := by
 intro cs x hx hw
 obtain ⟨v, g1, g2, g3⟩ := h cs x hx hw
 exact ⟨g v, by show k.K w (f (g v)) cs; rw [hg]; exact g1, by show good (f (g v)); rw [hg]; exact g2, by show bulk (f (g v)) <= _; rw [hg]; exact g3⟩
theorem gT {α : Type} {k : Kd α} {good good2 : α -> Prop} {bulk bulk2 : α -> Nat} (h : iP enc P w B fuel t k good bulk) (hg : ∀ a, good a -> good2 a) (hb : ∀ a, bulk2 a <= bulk a) : iP enc P w B fuel t k good2 bulk2 := by
 intro cs x hx hw
 obtain ⟨v, g1, g2, g3⟩ := h cs x hx hw
 exact ⟨v, g1, hg v g2, bh (hb v) g3⟩
theorem opens_kd {α : Type} {k k2 : Kd α} {good : α -> Prop} {bulk : α -> Nat} (h : iP enc P w B fuel t k good bulk) (hk : ∀ a cs, k.K w a cs -> k2.K w a cs) : iP enc P w B fuel t k2 good bulk := by
 intro cs x hx hw
 obtain ⟨v, g1, g2, g3⟩ := h cs x hx hw
 exact ⟨v, hk v cs g1, g2, g3⟩
theorem weights_at {ts : List TypeId} {ds : List (DataW H)} {j : Nat} {d : DataW H} (h : (DataW.weightsEach P ts ds).all (· <= reachBytes) = af) (ht : ts[j]? = ac t) (hd : ds[j]? = ac d) : (d.weights P t).all (· <= reachBytes) = af :=
 dz.2 fun n hn => dz.1 h n (DataW.weights_mem_each ht hd n hn)
end
end Go.Proofs.YtfigjpehecibeaaGreat.Op
namespace Go.Proofs.YtfigjpehecibeaaGreat.L
open Go.RowKit Go.Proofs.YtfigjpehecibeaaGreatW.PrintWords Go.Proofs.YtfigjpehecibeaaGreatW.PrintLast Go.Proofs.YtfigjpehecibeaaGreatW.PrintMore
section
attribute [local go_sem] iX gY kS j9 gQ gO iV iZ   
def errW : Option Int -> Value
 | none => .nilIface
 | some c => .iface 0 (.int .i64 c)
theorem bV : errW ag = .nilIface := rfl
theorem bU (c : Int) : errW (ac c) = .iface 0 (.int .i64 c) := rfl
theorem info9 : (Tryz.prog.info? 9).map (fun i => (i.zero, i.size, i.bytes)) = ac (ac (.string ⟨#[]⟩), 1, 16) := by kernel_rfl
structure S116 where
 f0 : Int
 f1 : Int
 f2 : ByteArray
 f3 : (List S116)
def z116 : S116 := ⟨(0 : Int), (0 : Int), (⟨#[]⟩ : ByteArray), ([] : List S116)⟩
def F75 (d : Kd S116) : Kd S116 := Kd.iso (Kd.pair (Kd.int .i64) (Kd.pair (Kd.int .u64) (Kd.pair Kd.string (Kd.slice 116 d)))) (fun x : S116 => (x.f0, x.f1, x.f2, x.f3))
theorem mono116 : Kd.Mono F75 := Kd.mono_iso _ (Kd.fC (Kd.fB _) (Kd.fC (Kd.fB _) (Kd.fC (Kd.fB _) (Kd.nF 116 Kd.mono_id))))
theorem sub116 : Kd.Sub F75 [116] := Kd.sub_iso _ (Kd.gN (Kd.fV _ (by decide)) (Kd.gN (Kd.fV _ (by decide)) (Kd.gN (Kd.fV _ (by decide)) (Kd.qF 116 (by decide) Kd.sub_id))))
theorem sz116 : ∀ n, (Kd.upto F75 4 [116] n).sz = 4 := Kd.upto_sz (fun _ => rfl)
def cQ : Kd S116 := Kd.fix F75 4 [116] sz116 (Kd.upto_E sub116)
theorem jU {w : World} {x : S116} {cs : List Value} (h : cQ.K w x cs) : ∃ A3 c3, cs = [.int .i64 x.f0, .int .u64 x.f1, .string x.f2, .slice A3 x.f3.length c3] /\ x.f3.length <= c3 /\ cQ.C w A3 x.f3.length x.f3 := by
 obtain ⟨n, h⟩ := h
 cases n with
 | zero => exact h.elim
 | succ n =>
   obtain ⟨_, _, rfl, rfl, ⟨_, _, rfl, rfl, ⟨_, _, rfl, rfl, ⟨A3, c3, rfl, l3, g3⟩⟩⟩⟩ := h
   exact ⟨A3, c3, rfl, l3, Kd.fix_C g3⟩
theorem rD (w : World) (x : S116) {A3 : Option Addr} {c3 : Nat} (l3 : x.f3.length <= c3) (g3 : cQ.C w A3 x.f3.length x.f3) : cQ.K w x [.int .i64 x.f0, .int .u64 x.f1, .string x.f2, .slice A3 x.f3.length c3] := by
 obtain ⟨n3, q3⟩ := Kd.nK mono116 g3
 have r3 := Kd.rC mono116 sz116 (show n3 <= n3 by omega) q3
 exact ⟨n3 + 1, ⟨[.int .i64 x.f0], [.int .u64 x.f1, .string x.f2, .slice A3 x.f3.length c3], rfl, rfl, ⟨[.int .u64 x.f1], [.string x.f2, .slice A3 x.f3.length c3], rfl, rfl, ⟨[.string x.f2], [.slice A3 x.f3.length c3], rfl, rfl, ⟨A3, c3, rfl, l3, r3⟩⟩⟩⟩⟩
theorem k116_mkM (w : World) (base : Nat) (ok : Nat -> Prop) (x : S116) {v3 : Value} (g3 : cQ.R 116 w base ok v3 x.f3) : cQ.M w base ok x [.int .i64 x.f0, .int .u64 x.f1, .string x.f2, v3] := by
 obtain ⟨n3, q3⟩ := Kd.nD mono116 g3
 have r3 := Kd.pP mono116 sz116 (show n3 <= n3 by omega) q3
 exact ⟨n3 + 1, ⟨[.int .i64 x.f0], [.int .u64 x.f1, .string x.f2, v3], rfl, rfl, ⟨[.int .u64 x.f1], [.string x.f2, v3], rfl, rfl, ⟨[.string x.f2], [v3], rfl, rfl, ⟨v3, rfl, r3⟩⟩⟩⟩⟩
def bO (xs : List S116) (i : Int) : S116 := xs.getD i.toNat z116
theorem fR {w : World} {A : Option Addr} {n : Nat} {xs : List S116} (h : Kd.C cQ w A n xs) (i : Int) (h0 : 0 <= i) (h1 : i < n) : ∃ ad A3 c3, A = ac ad /\ w.cell? (ad.add (i.toNat * 4)) = ac (.int .i64 (bO xs i).f0) /\ w.cell? ⟨(ad.add (i.toNat * 4)).block, (ad.add (i.toNat * 4)).off + 1, ag⟩ = ac (.int .u64 (bO xs i).f1) /\ w.cell? ⟨(ad.add (i.toNat * 4)).block, (ad.add (i.toNat * 4)).off + 2, ag⟩ = ac (.string (bO xs i).f2) /\ w.cell? ⟨(ad.add (i.toNat * 4)).block, (ad.add (i.toNat * 4)).off + 3, ag⟩ = ac (.slice A3 (bO xs i).f3.length c3) /\ (bO xs i).f3.length <= c3 /\ cQ.C w A3 (bO xs i).f3.length (bO xs i).f3 := by
 obtain ⟨ad, c, e, _, hK, hc0⟩ := Kd.oI h z116 i h0 h1
 have hc : ∀ j u, c[j]? = ac u -> w.cell? (ad.add (i.toNat * 4 + j)) = ac u := hc0
 obtain ⟨A3, c3, rfl, l3, g3⟩ := jU hK
 exact ⟨ad, A3, c3, e, hc 0 _ rfl, by rw [<- cA _ _ 1 (by omega)]; exact hc 1 _ rfl, by rw [<- cA _ _ 2 (by omega)]; exact hc 2 _ rfl, by rw [<- cA _ _ 3 (by omega)]; exact hc 3 _ rfl, l3, g3⟩
structure S119 where
 f0 : Int
 f1 : ByteArray
 f2 : S116
 f3 : S116
 f4 : Int
 f5 : Int
 f6 : (List S119)
 f7 : (List S119)
def z119 : S119 := ⟨(0 : Int), (⟨#[]⟩ : ByteArray), z116, z116, (0 : Int), (0 : Int), ([] : List S119), ([] : List S119)⟩
def F77 (d : Kd S119) : Kd S119 := Kd.iso (Kd.pair (Kd.int .i64) (Kd.pair Kd.string (Kd.pair cQ (Kd.pair cQ (Kd.pair (Kd.int .u64) (Kd.pair (Kd.int .u64) (Kd.pair (Kd.slice 119 d) (Kd.slice 119 d)))))))) (fun x : S119 => (x.f0, x.f1, x.f2, x.f3, x.f4, x.f5, x.f6, x.f7))
theorem kN : Kd.Mono F77 := Kd.mono_iso _ (Kd.fC (Kd.fB _) (Kd.fC (Kd.fB _) (Kd.fC (Kd.fB _) (Kd.fC (Kd.fB _) (Kd.fC (Kd.fB _) (Kd.fC (Kd.fB _) (Kd.fC (Kd.nF 119 Kd.mono_id) (Kd.nF 119 Kd.mono_id))))))))
theorem sub119 : Kd.Sub F77 [116, 119] := Kd.sub_iso _ (Kd.gN (Kd.fV _ (by decide)) (Kd.gN (Kd.fV _ (by decide)) (Kd.gN (Kd.fV _ (by decide)) (Kd.gN (Kd.fV _ (by decide)) (Kd.gN (Kd.fV _ (by decide)) (Kd.gN (Kd.fV _ (by decide)) (Kd.gN (Kd.qF 119 (by decide) Kd.sub_id) (Kd.qF 119 (by decide) Kd.sub_id))))))))
theorem sz119 : ∀ n, (Kd.upto F77 14 [116, 119] n).sz = 14 := Kd.upto_sz (fun _ => rfl)
def dC : Kd S119 := Kd.fix F77 14 [116, 119] sz119 (Kd.upto_E sub119)
theorem k119_open {w : World} {x : S119} {cs : List Value} (h : dC.K w x cs) : ∃ A5 c5 A9 c9 A12 c12 A13 c13, cs = [.int .i64 x.f0, .string x.f1, .int .i64 x.f2.f0, .int .u64 x.f2.f1, .string x.f2.f2, .slice A5 x.f2.f3.length c5, .int .i64 x.f3.f0, .int .u64 x.f3.f1, .string x.f3.f2, .slice A9 x.f3.f3.length c9, .int .u64 x.f4, .int .u64 x.f5, .slice A12 x.f6.length c12, .slice A13 x.f7.length c13] /\ x.f2.f3.length <= c5 /\ cQ.C w A5 x.f2.f3.length x.f2.f3 /\ x.f3.f3.length <= c9 /\ cQ.C w A9 x.f3.f3.length x.f3.f3 /\ x.f6.length <= c12 /\ dC.C w A12 x.f6.length x.f6 /\ x.f7.length <= c13 /\ dC.C w A13 x.f7.length x.f7 := by
 obtain ⟨n, h⟩ := h
 cases n with
 | zero => exact h.elim
 | succ n =>
   obtain ⟨_, _, rfl, rfl, ⟨_, _, rfl, rfl, ⟨_, _, rfl, s2, ⟨_, _, rfl, s6, ⟨_, _, rfl, rfl, ⟨_, _, rfl, rfl, ⟨_, _, rfl, ⟨A12, c12, rfl, l12, g12⟩, ⟨A13, c13, rfl, l13, g13⟩⟩⟩⟩⟩⟩⟩⟩ := h
   obtain ⟨A5, c5, rfl, l5, g5⟩ := jU s2
   obtain ⟨A9, c9, rfl, l9, g9⟩ := jU s6
   exact ⟨A5, c5, A9, c9, A12, c12, A13, c13, rfl, l5, g5, l9, g9, l12, Kd.fix_C g12, l13, Kd.fix_C g13⟩
theorem lS (w : World) (x : S119) {A5 : Option Addr} {c5 : Nat} (l5 : x.f2.f3.length <= c5) (g5 : cQ.C w A5 x.f2.f3.length x.f2.f3) {A9 : Option Addr} {c9 : Nat} (l9 : x.f3.f3.length <= c9) (g9 : cQ.C w A9 x.f3.f3.length x.f3.f3) {A12 : Option Addr} {c12 : Nat} (l12 : x.f6.length <= c12) (g12 : dC.C w A12 x.f6.length x.f6) {A13 : Option Addr} {c13 : Nat} (l13 : x.f7.length <= c13) (g13 : dC.C w A13 x.f7.length x.f7) : dC.K w x [.int .i64 x.f0, .string x.f1, .int .i64 x.f2.f0, .int .u64 x.f2.f1, .string x.f2.f2, .slice A5 x.f2.f3.length c5, .int .i64 x.f3.f0, .int .u64 x.f3.f1, .string x.f3.f2, .slice A9 x.f3.f3.length c9, .int .u64 x.f4, .int .u64 x.f5, .slice A12 x.f6.length c12, .slice A13 x.f7.length c13] := by
 obtain ⟨n12, q12⟩ := Kd.nK kN g12
 obtain ⟨n13, q13⟩ := Kd.nK kN g13
 have r12 := Kd.rC kN sz119 (show n12 <= (max n12 n13) by omega) q12
 have r13 := Kd.rC kN sz119 (show n13 <= (max n12 n13) by omega) q13
 exact ⟨(max n12 n13) + 1, ⟨[.int .i64 x.f0], [.string x.f1, .int .i64 x.f2.f0, .int .u64 x.f2.f1, .string x.f2.f2, .slice A5 x.f2.f3.length c5, .int .i64 x.f3.f0, .int .u64 x.f3.f1, .string x.f3.f2, .slice A9 x.f3.f3.length c9, .int .u64 x.f4, .int .u64 x.f5, .slice A12 x.f6.length c12, .slice A13 x.f7.length c13], rfl, rfl, ⟨[.string x.f1], [.int .i64 x.f2.f0, .int .u64 x.f2.f1, .string x.f2.f2, .slice A5 x.f2.f3.length c5, .int .i64 x.f3.f0, .int .u64 x.f3.f1, .string x.f3.f2, .slice A9 x.f3.f3.length c9, .int .u64 x.f4, .int .u64 x.f5, .slice A12 x.f6.length c12, .slice A13 x.f7.length c13], rfl, rfl, ⟨[.int .i64 x.f2.f0, .int .u64 x.f2.f1, .string x.f2.f2, .slice A5 x.f2.f3.length c5], [.int .i64 x.f3.f0, .int .u64 x.f3.f1, .string x.f3.f2, .slice A9 x.f3.f3.length c9, .int .u64 x.f4, .int .u64 x.f5, .slice A12 x.f6.length c12, .slice A13 x.f7.length c13], rfl, (rD w x.f2 l5 g5), ⟨[.int .i64 x.f3.f0, .int .u64 x.f3.f1, .string x.f3.f2, .slice A9 x.f3.f3.length c9], [.int .u64 x.f4, .int .u64 x.f5, .slice A12 x.f6.length c12, .slice A13 x.f7.length c13], rfl, (rD w x.f3 l9 g9), ⟨[.int .u64 x.f4], [.int .u64 x.f5, .slice A12 x.f6.length c12, .slice A13 x.f7.length c13], rfl, rfl, ⟨[.int .u64 x.f5], [.slice A12 x.f6.length c12, .slice A13 x.f7.length c13], rfl, rfl, ⟨[.slice A12 x.f6.length c12], [.slice A13 x.f7.length c13], rfl, ⟨A12, c12, rfl, l12, r12⟩, ⟨A13, c13, rfl, l13, r13⟩⟩⟩⟩⟩⟩⟩⟩⟩
theorem k119_mkM (w : World) (base : Nat) (ok : Nat -> Prop) (x : S119) {v5 : Value} (g5 : cQ.R 116 w base ok v5 x.f2.f3) {v9 : Value} (g9 : cQ.R 116 w base ok v9 x.f3.f3) {v12 : Value} (g12 : dC.R 119 w base ok v12 x.f6) {v13 : Value} (g13 : dC.R 119 w base ok v13 x.f7) : dC.M w base ok x [.int .i64 x.f0, .string x.f1, .int .i64 x.f2.f0, .int .u64 x.f2.f1, .string x.f2.f2, v5, .int .i64 x.f3.f0, .int .u64 x.f3.f1, .string x.f3.f2, v9, .int .u64 x.f4, .int .u64 x.f5, v12, v13] := by
 obtain ⟨n12, q12⟩ := Kd.nD kN g12
 obtain ⟨n13, q13⟩ := Kd.nD kN g13
 have r12 := Kd.pP kN sz119 (show n12 <= (max n12 n13) by omega) q12
 have r13 := Kd.pP kN sz119 (show n13 <= (max n12 n13) by omega) q13
 exact ⟨(max n12 n13) + 1, ⟨[.int .i64 x.f0], [.string x.f1, .int .i64 x.f2.f0, .int .u64 x.f2.f1, .string x.f2.f2, v5, .int .i64 x.f3.f0, .int .u64 x.f3.f1, .string x.f3.f2, v9, .int .u64 x.f4, .int .u64 x.f5, v12, v13], rfl, rfl, ⟨[.string x.f1], [.int .i64 x.f2.f0, .int .u64 x.f2.f1, .string x.f2.f2, v5, .int .i64 x.f3.f0, .int .u64 x.f3.f1, .string x.f3.f2, v9, .int .u64 x.f4, .int .u64 x.f5, v12, v13], rfl, rfl, ⟨[.int .i64 x.f2.f0, .int .u64 x.f2.f1, .string x.f2.f2, v5], [.int .i64 x.f3.f0, .int .u64 x.f3.f1, .string x.f3.f2, v9, .int .u64 x.f4, .int .u64 x.f5, v12, v13], rfl, (k116_mkM w base ok x.f2 g5), ⟨[.int .i64 x.f3.f0, .int .u64 x.f3.f1, .string x.f3.f2, v9], [.int .u64 x.f4, .int .u64 x.f5, v12, v13], rfl, (k116_mkM w base ok x.f3 g9), ⟨[.int .u64 x.f4], [.int .u64 x.f5, v12, v13], rfl, rfl, ⟨[.int .u64 x.f5], [v12, v13], rfl, rfl, ⟨[v12], [v13], rfl, ⟨v12, rfl, r12⟩, ⟨v13, rfl, r13⟩⟩⟩⟩⟩⟩⟩⟩⟩
def aQ (xs : List S119) (i : Int) : S119 := xs.getD i.toNat z119
theorem gV {w : World} {A : Option Addr} {n : Nat} {xs : List S119} (h : Kd.C dC w A n xs) (i : Int) (h0 : 0 <= i) (h1 : i < n) : ∃ ad A5 c5 A9 c9 A12 c12 A13 c13, A = ac ad /\ w.cell? (ad.add (i.toNat * 14)) = ac (.int .i64 (aQ xs i).f0) /\ w.cell? ⟨(ad.add (i.toNat * 14)).block, (ad.add (i.toNat * 14)).off + 1, ag⟩ = ac (.string (aQ xs i).f1) /\ w.cell? ⟨(ad.add (i.toNat * 14)).block, (ad.add (i.toNat * 14)).off + 2, ag⟩ = ac (.int .i64 (aQ xs i).f2.f0) /\ w.cell? ⟨(ad.add (i.toNat * 14)).block, (ad.add (i.toNat * 14)).off + 3, ag⟩ = ac (.int .u64 (aQ xs i).f2.f1) /\ w.cell? ⟨(ad.add (i.toNat * 14)).block, (ad.add (i.toNat * 14)).off + 4, ag⟩ = ac (.string (aQ xs i).f2.f2) /\ w.cell? ⟨(ad.add (i.toNat * 14)).block, (ad.add (i.toNat * 14)).off + 5, ag⟩ = ac (.slice A5 (aQ xs i).f2.f3.length c5) /\ w.cell? ⟨(ad.add (i.toNat * 14)).block, (ad.add (i.toNat * 14)).off + 6, ag⟩ = ac (.int .i64 (aQ xs i).f3.f0) /\ w.cell? ⟨(ad.add (i.toNat * 14)).block, (ad.add (i.toNat * 14)).off + 7, ag⟩ = ac (.int .u64 (aQ xs i).f3.f1) /\ w.cell? ⟨(ad.add (i.toNat * 14)).block, (ad.add (i.toNat * 14)).off + 8, ag⟩ = ac (.string (aQ xs i).f3.f2) /\ w.cell? ⟨(ad.add (i.toNat * 14)).block, (ad.add (i.toNat * 14)).off + 9, ag⟩ = ac (.slice A9 (aQ xs i).f3.f3.length c9) /\ w.cell? ⟨(ad.add (i.toNat * 14)).block, (ad.add (i.toNat * 14)).off + 10, ag⟩ = ac (.int .u64 (aQ xs i).f4) /\ w.cell? ⟨(ad.add (i.toNat * 14)).block, (ad.add (i.toNat * 14)).off + 11, ag⟩ = ac (.int .u64 (aQ xs i).f5) /\ w.cell? ⟨(ad.add (i.toNat * 14)).block, (ad.add (i.toNat * 14)).off + 12, ag⟩ = ac (.slice A12 (aQ xs i).f6.length c12) /\ w.cell? ⟨(ad.add (i.toNat * 14)).block, (ad.add (i.toNat * 14)).off + 13, ag⟩ = ac (.slice A13 (aQ xs i).f7.length c13) /\ (aQ xs i).f2.f3.length <= c5 /\ cQ.C w A5 (aQ xs i).f2.f3.length (aQ xs i).f2.f3 /\ (aQ xs i).f3.f3.length <= c9 /\ cQ.C w A9 (aQ xs i).f3.f3.length (aQ xs i).f3.f3 /\ (aQ xs i).f6.length <= c12 /\ dC.C w A12 (aQ xs i).f6.length (aQ xs i).f6 /\ (aQ xs i).f7.length <= c13 /\ dC.C w A13 (aQ xs i).f7.length (aQ xs i).f7 := by
 obtain ⟨ad, c, e, _, hK, hc0⟩ := Kd.oI h z119 i h0 h1
 have hc : ∀ j u, c[j]? = ac u -> w.cell? (ad.add (i.toNat * 14 + j)) = ac u := hc0
 obtain ⟨A5, c5, A9, c9, A12, c12, A13, c13, rfl, l5, g5, l9, g9, l12, g12, l13, g13⟩ := k119_open hK
 exact ⟨ad, A5, c5, A9, c9, A12, c12, A13, c13, e, hc 0 _ rfl, by rw [<- cA _ _ 1 (by omega)]; exact hc 1 _ rfl, by rw [<- cA _ _ 2 (by omega)]; exact hc 2 _ rfl, by rw [<- cA _ _ 3 (by omega)]; exact hc 3 _ rfl, by rw [<- cA _ _ 4 (by omega)]; exact hc 4 _ rfl, by rw [<- cA _ _ 5 (by omega)]; exact hc 5 _ rfl, by rw [<- cA _ _ 6 (by omega)]; exact hc 6 _ rfl, by rw [<- cA _ _ 7 (by omega)]; exact hc 7 _ rfl, by rw [<- cA _ _ 8 (by omega)]; exact hc 8 _ rfl, by rw [<- cA _ _ 9 (by omega)]; exact hc 9 _ rfl, by rw [<- cA _ _ 10 (by omega)]; exact hc 10 _ rfl, by rw [<- cA _ _ 11 (by omega)]; exact hc 11 _ rfl, by rw [<- cA _ _ 12 (by omega)]; exact hc 12 _ rfl, by rw [<- cA _ _ 13 (by omega)]; exact hc 13 _ rfl, l5, g5, l9, g9, l12, g12, l13, g13⟩
structure S70 where
 f0 : Int
 f1 : ByteArray
 f2 : Int
 f3 : (List Int)
def z70 : S70 := ⟨(0 : Int), (⟨#[]⟩ : ByteArray), (0 : Int), ([] : List Int)⟩
def k70 : Kd S70 := Kd.iso (Kd.pair (Kd.int .i64) (Kd.pair Kd.string (Kd.pair (Kd.int .i64) (Kd.slice 74 (Kd.int .u64))))) (fun x : S70 => (x.f0, x.f1, x.f2, x.f3))
theorem k70_open {w : World} {x : S70} {cs : List Value} (h : k70.K w x cs) : ∃ A3 c3, cs = [.int .i64 x.f0, .string x.f1, .int .i64 x.f2, .slice A3 x.f3.length c3] /\ x.f3.length <= c3 /\ (Kd.int .u64).C w A3 x.f3.length x.f3 := by
 obtain ⟨_, _, rfl, rfl, ⟨_, _, rfl, rfl, ⟨_, _, rfl, rfl, ⟨A3, c3, rfl, l3, g3⟩⟩⟩⟩ := h
 exact ⟨A3, c3, rfl, l3, g3⟩
theorem k70_mkM (w : World) (base : Nat) (ok : Nat -> Prop) (x : S70) {v3 : Value} (g3 : (Kd.int .u64).R 74 w base ok v3 x.f3) : k70.M w base ok x [.int .i64 x.f0, .string x.f1, .int .i64 x.f2, v3] := ⟨[.int .i64 x.f0], [.string x.f1, .int .i64 x.f2, v3], rfl, rfl, ⟨[.string x.f1], [.int .i64 x.f2, v3], rfl, rfl, ⟨[.int .i64 x.f2], [v3], rfl, rfl, ⟨v3, rfl, g3⟩⟩⟩⟩
def aG (xs : List S70) (i : Int) : S70 := xs.getD i.toNat z70
theorem dN {w : World} {A : Option Addr} {n : Nat} {xs : List S70} (h : Kd.C k70 w A n xs) (i : Int) (h0 : 0 <= i) (h1 : i < n) : ∃ ad A3 c3, A = ac ad /\ w.cell? (ad.add (i.toNat * 4)) = ac (.int .i64 (aG xs i).f0) /\ w.cell? ⟨(ad.add (i.toNat * 4)).block, (ad.add (i.toNat * 4)).off + 1, ag⟩ = ac (.string (aG xs i).f1) /\ w.cell? ⟨(ad.add (i.toNat * 4)).block, (ad.add (i.toNat * 4)).off + 2, ag⟩ = ac (.int .i64 (aG xs i).f2) /\ w.cell? ⟨(ad.add (i.toNat * 4)).block, (ad.add (i.toNat * 4)).off + 3, ag⟩ = ac (.slice A3 (aG xs i).f3.length c3) /\ (aG xs i).f3.length <= c3 /\ (Kd.int .u64).C w A3 (aG xs i).f3.length (aG xs i).f3 := by
 obtain ⟨ad, c, e, _, hK, hc0⟩ := Kd.oI h z70 i h0 h1
 have hc : ∀ j u, c[j]? = ac u -> w.cell? (ad.add (i.toNat * 4 + j)) = ac u := hc0
 obtain ⟨A3, c3, rfl, l3, g3⟩ := k70_open hK
 exact ⟨ad, A3, c3, e, hc 0 _ rfl, by rw [<- cA _ _ 1 (by omega)]; exact hc 1 _ rfl, by rw [<- cA _ _ 2 (by omega)]; exact hc 2 _ rfl, by rw [<- cA _ _ 3 (by omega)]; exact hc 3 _ rfl, l3, g3⟩
end
section
attribute [local go_sem] iX gY kS j9 gQ gO iV iZ
def lang_Reserved.f (a0 : ByteArray) : Option (Bool) := if a0.toList = ([112, 114, 111, 103, 114, 97, 109] : List UInt8) then (ac af) else (if a0.toList = ([119, 105, 100, 116, 104] : List UInt8) then (ac af) else (if a0.toList = ([108, 105, 110, 101] : List UInt8) then (ac af) else (if a0.toList = ([112, 117, 98, 108, 105, 99] : List UInt8) then (ac af) else (if a0.toList = ([115, 101, 99, 114, 101, 116] : List UInt8) then (ac af) else (if a0.toList = ([99, 111, 110, 115, 116] : List UInt8) then (ac af) else (if a0.toList = ([118, 97, 114] : List UInt8) then (ac af) else (if a0.toList = ([111, 117, 116] : List UInt8) then (ac af) else (if a0.toList = ([98, 101, 103, 105, 110] : List UInt8) then (ac af) else (if a0.toList = ([101, 110, 100] : List UInt8) then (ac af) else (if a0.toList = ([105, 102] : List UInt8) then (ac af) else (if a0.toList = ([101, 108, 115, 101] : List UInt8) then (ac af) else (if a0.toList = ([102, 111, 114] : List UInt8) then (ac af) else (if a0.toList = ([114, 101, 108, 101, 97, 115, 101] : List UInt8) then (ac af) else (if a0.toList = ([115, 97, 114] : List UInt8) then (ac af) else (if a0.toList = ([115, 108, 116] : List UInt8) then (ac af) else (if a0.toList = ([115, 101, 108] : List UInt8) then (ac af) else (ac J)))))))))))))))))
set_option maxRecDepth 100000 in
theorem lang_Reserved.calls (a0 : ByteArray) (r : Bool) (w : World) (h : lang_Reserved.f a0 = ac r) :
 Calls ak 167 #[.string a0] w fun e w' => e = .returned (.bool r) /\ Drawn0 w w' := by
 have H := I h
 clear h
 go_enter Tryz.func167, Tryz.ntmps167
 go_wp2
 all_goals (
  go_ret
  have h := H.out
  unfold lang_Reserved.f at h
  refine ⟨?_, by first | exact (aq _ _).alloc (ar _) _ | exact aq _ _ | (repeat (first | exact cz _ | apply da))⟩
  simp_all)
def letB (c : Int) : Bool := decide (97 <= c /\ c <= 122 \/ 65 <= c /\ c <= 90 \/ c = 95)
def digB (c : Int) : Bool := decide (48 <= c /\ c <= 57)
def okB (s : ByteArray) (i : Nat) : Bool := letB (bt s i) || (decide (1 <= i) && digB (bt s i))
def nmB (s : ByteArray) : Bool := decide (1 <= s.size) && decide (s.size <= 24) && (br s.size).all (okB s)
theorem bt_get (s : ByteArray) (pos : Nat) (h : pos < s.size) : bt s (pos : Int) = ((s[pos]'h).toNat : Int) := by simp [bt, h]
theorem width_pos (s : ByteArray) (pos : Nat) (h : pos < s.size) : 1 <= (Utf8.decode s pos).2 := by
 by_cases ha : (s[pos]'h).toNat < 128
 ·rw [decode_ascii s pos h ha]; exact ar _
 ·exact (decode_high s pos h (by omega)).2
theorem sees (s : ByteArray) (pos : Nat) (h : pos < s.size) : (((Utf8.decode s pos).1 : Int) = bt s pos /\ (Utf8.decode s pos).2 = 1) \/ (128 <= (Utf8.decode s pos).1 /\ 128 <= bt s pos) := by
 rw [bt_get s pos h]
 by_cases ha : (s[pos]'h).toNat < 128
 ·rw [decode_ascii s pos h ha]; exact .inl ⟨rfl, rfl⟩
 ·exact .inr ⟨(decode_high s pos h (by omega)).1, by omega⟩
theorem ret_bool {a b : Bool} (h : a = b) : fw (.bool a) = .returned (.bool b) := by rw [h]
theorem all_yes {s : ByteArray} {pos : Nat} (h : s.size <= pos) (hk : ∀ i, i < pos -> okB s i = af) : af = (br s.size).all (okB s) := by
 symm
 rw [dz]
 exact fun i hi => hk i (by have := ja.1 hi; omega)
theorem more_ok {s : ByteArray} {pos : Nat} (hk : ∀ i, i < pos -> okB s i = af) (h : okB s pos = af) : ∀ i, i < pos + 1 -> okB s i = af := by
 intro i hi
 by_cases e : i = pos
 ·rw [e]; exact h
 ·exact hk i (by omega)
theorem all_no {s : ByteArray} {pos : Nat} (h : pos < s.size) (hn : okB s pos = J) : J = (br s.size).all (okB s) := by
 symm
 rw [List.all_eq_false]
 exact ⟨pos, ja.2 h, by rw [hn]; decide⟩
theorem no_ok {s : ByteArray} {pos r wd : Nat} (h : ((r : Int) = bt s pos /\ wd = 1) \/ (128 <= r /\ 128 <= bt s pos)) (hl : ¬ (97 <= (r : Int) /\ (r : Int) <= 122) /\ ¬ (65 <= (r : Int) /\ (r : Int) <= 90) /\ ¬ (r : Int) = 95) (hd : pos = 0 \/ (r : Int) < 48 \/ 57 < (r : Int)) : okB s pos = J := by
 unfold okB letB digB
 simp only [Bool.or_eq_false_iff, Bool.and_eq_false_iff, decide_eq_false_iff_not]
 omega
theorem yes_ok {s : ByteArray} {pos r wd : Nat} (h : ((r : Int) = bt s pos /\ wd = 1) \/ (128 <= r /\ 128 <= bt s pos)) (hl : (97 <= (r : Int) /\ (r : Int) <= 122 \/ 65 <= (r : Int) /\ (r : Int) <= 90 \/ (r : Int) = 95) \/ (1 <= pos /\ 48 <= (r : Int) /\ (r : Int) <= 57)) : wd = 1 /\ okB s pos = af := by
 refine ⟨by omega, ?_⟩
 unfold okB letB digB
 simp only [Bool.or_eq_true, bo, decide_eq_true_eq]
 omega
set_option maxRecDepth 1000000 in
theorem bits_Name_long (s : ByteArray) (w : World) (h : s.size < 1 \/ 24 < s.size) :
 Calls ak 166 #[.string s] w fun e w' => e = .returned (.bool J) /\ Below w.heap.size w w' := by
 rcases h with h | h
 ·go_enter Tryz.func166, Tryz.ntmps166
  go_wp2
  go_ret
  exact ⟨rfl, aq _ _⟩
 ·have h' : ¬ s.size < 1 := by omega
  go_enter Tryz.func166, Tryz.ntmps166
  go_wp2
  go_ret
  exact ⟨rfl, aq _ _⟩
set_option maxRecDepth 1000000 in
theorem bits_Name_walk (s : ByteArray) (w : World) (h1 : 1 <= s.size) (h2 : s.size <= 24) :
 Calls ak 166 #[.string s] w fun e w' => e = .returned (.bool ((br s.size).all (okB s))) /\ Below w.heap.size w w' := by
 have n1 : ¬ s.size < 1 := by omega
 have n2 : ¬ 24 < s.size := by omega
 go_enter Tryz.func166, Tryz.ntmps166
 go_wp2
 go_loopw [3] (fun _ w' => ∃ pos : Nat, w' = w.iter s pos /\ pos <= s.size /\ Aside0 (∀ i, i < pos -> okB s i = af)) (fun _ w' => s.size - w'.iterPos w.heap.size)
 case atStart => exact ⟨0, rfl, by omega, ⟨fun i hi => by omega⟩⟩
 case round =>
  obtain ⟨pos, rfl, hle, hk⟩ := hrel
  by_cases hp : pos < s.size
  ·have hnx : ∀ ty, (Instr.next (.pointer (ac ⟨w.heap.size, 0, ag⟩)) af ty).run ak (w.iter s pos) = _ := fun ty => run_next_any w s pos ty hp
   have hsee := I (sees s pos hp)
   have hwd := width_pos s pos hp
   generalize hr : (Utf8.decode s pos).1 = r at *
   generalize hw : (Utf8.decode s pos).2 = wd at *
   clear hr hw
   go_wp2
   all_goals clear hnx
   all_goals first
    | (go_ret
       refine ⟨?_, (aq _ _).alloc (ar _) _⟩
       refine ret_bool (all_no hp ?_)
       refine no_ok hsee.out (r := r) (by omega) ?_
       (try simp at *); omega)
    | (have hs1 : (97 <= (r : Int) /\ (r : Int) <= 122 \/ 65 <= (r : Int) /\ (r : Int) <= 90 \/ (r : Int) = 95) \/ (1 <= pos /\ 48 <= (r : Int) /\ (r : Int) <= 57) := by
        (try simp at *); omega
       obtain ⟨g1, g2⟩ := yes_ok hsee.out hs1
       subst g1
       refine ⟨⟨pos + 1, by first | rfl | (congr 1; omega), by omega, ⟨more_ok hk.out g2⟩⟩, ?_⟩
       simp
       omega)
  ·have hnx : ∀ ty, (Instr.next (.pointer (ac ⟨w.heap.size, 0, ag⟩)) af ty).run ak (w.iter s pos) = _ := fun ty => run_next_end w s pos ty hp
   go_wp2
   go_ret
   exact ⟨ret_bool (all_yes (by omega) hk.out), (aq _ _).alloc (ar _) _⟩
theorem pZ (s : ByteArray) (w : World) :
 Calls ak 166 #[.string s] w fun e w' => e = .returned (.bool (nmB s)) /\ Below w.heap.size w w' := by
 by_cases h : 1 <= s.size /\ s.size <= 24
 ·have e : nmB s = (br s.size).all (okB s) := by unfold nmB; rw [decide_eq_true h.1, decide_eq_true h.2]; rfl
  rw [e]; exact bits_Name_walk s w h.1 h.2
 ·have e : nmB s = J := by
   unfold nmB
   by_cases h1 : 1 <= s.size
   ·rw [decide_eq_false (show ¬ s.size <= 24 by omega)]; simp
   ·rw [decide_eq_false h1]; simp
  rw [e]; exact bits_Name_long s w (by omega)
def bits_Name.f (a0 : ByteArray) : Option Bool := ac (nmB a0)
theorem bits_Name.calls (a0 : ByteArray) (r : Bool) (w : World) (h : bits_Name.f a0 = ac r) :
 Calls ak 166 #[.string a0] w fun e w' => e = .returned (.bool r) /\ Below w.heap.size w w' := by
 obtain rfl := ck h
 exact pZ a0 w
def lang_named.f (a0 : ByteArray) : Option (Bool) := (bits_Name.f a0).bind fun t101 => (if t101 = af then ((lang_Reserved.f a0).bind fun t102 => (ac (!t102))) else (ac J))
set_option maxRecDepth 100000 in
theorem lang_named.calls (a0 : ByteArray) (r : Bool) (w : World) (h : lang_named.f a0 = ac r) :
 Calls ak 119 #[.string a0] w fun e w' => e = .returned (.bool r) /\ Below w.heap.size w w' := by
 have HB := I (aq w.heap.size w)
 have H : ((bits_Name.f a0).bind fun t101 => (if t101 = af then ((lang_Reserved.f a0).bind fun t102 => (ac (!t102))) else (ac J))) = ac r := h
 clear h
 replace H := Option.bind_eq_some_iff.mp H
 obtain ⟨t101, A20, H⟩ := H
 replace H : (if t101 = af then ((lang_Reserved.f a0).bind fun t102 => (ac (!t102))) else (ac J)) = ac r := H
 have A2 := I A20
 clear A20
 by_cases c3 : t101 = af
 ·subst c3
  have H1 : ((lang_Reserved.f a0).bind fun t102 => (ac (!t102))) = ac r := by rw [if_pos rfl] at H; exact H
  clear H
  have H := H1
  clear H1
  replace H := Option.bind_eq_some_iff.mp H
  obtain ⟨t102, A40, H⟩ := H
  replace H : (ac (!t102)) = ac r := H
  have A4 := I A40
  clear A40
  obtain rfl := ck H
  go_enter Tryz.func119, Tryz.ntmps119
  go_wp2_with (first | ((with_reducible refine eF (f := 166) rfl ?_); refine mD (ac 4) rfl rfl Tryz.func166 (by kernel_rfl) rfl #[.string a0] rfl (by (try simp only [cb, cm, cw]); first | done | rfl | (simp only [dx, cn]; rfl)) ?_; (with_reducible refine (bits_Name.calls a0 af _ A2.out).mono ?_); rintro e w5 ⟨rfl, hb⟩; refine ⟨_, rfl, ?_⟩; have n0_ := I (gI (by repeat (first | (with_reducible first | exact HB.out | apply aR | apply aO | apply aU) | exact HB.out)) hb); clear HB; have HB := n0_; clear n0_; (try clear hb); (try clear hb2); (try clear hk); (try clear hi)) | (go_at_call 167; (with_reducible refine (lang_Reserved.calls a0 t102 _ A4.out).mono ?_); rintro e w' ⟨rfl, ⟨nd, rfl⟩⟩))
  go_ret
  exact ⟨by first | rfl | (simp [bV, bU] <;> rfl) | (simp [*, bV, bU] <;> rfl), by repeat (first | (with_reducible first | exact HB.out | apply aR | apply aO | apply aU) | exact HB.out)⟩
 ·replace c3 := Bool.eq_false_iff.mpr c3
  subst c3
  have H1 : (ac J) = ac r := by rw [if_neg (show ¬ (J = af) by decide)] at H; exact H
  clear H
  have H := H1
  clear H1
  obtain rfl := ck H
  go_enter Tryz.func119, Tryz.ntmps119
  go_wp2_with (first | ((with_reducible refine eF (f := 166) rfl ?_); refine mD (ac 4) rfl rfl Tryz.func166 (by kernel_rfl) rfl #[.string a0] rfl (by (try simp only [cb, cm, cw]); first | done | rfl | (simp only [dx, cn]; rfl)) ?_; (with_reducible refine (bits_Name.calls a0 J _ A2.out).mono ?_); rintro e w6 ⟨rfl, hb⟩; refine ⟨_, rfl, ?_⟩; have n0_ := I (gI (by repeat (first | (with_reducible first | exact HB.out | apply aR | apply aO | apply aU) | exact HB.out)) hb); clear HB; have HB := n0_; clear n0_; (try clear hb); (try clear hb2); (try clear hk); (try clear hi)))
  go_ret
  exact ⟨by first | rfl | (simp [bV, bU] <;> rfl) | (simp [*, bV, bU] <;> rfl), by repeat (first | (with_reducible first | exact HB.out | apply aR | apply aO | apply aU) | exact HB.out)⟩
def lang_none.f (a0_0 : Int) (a0_1 : Int) (a0_2 : ByteArray) (l0_3 : List (S116)) : Option (Bool) := if a0_0 = 0 then (if a0_1 = 0 then (if a0_2.toList = ([] : List UInt8) then (ac ((l0_3.length : Int) == 0)) else (ac J)) else (ac J)) else (ac J)
set_option maxRecDepth 100000 in
theorem lang_none.calls (a0_0 : Int) (a0_1 : Int) (a0_2 : ByteArray) (A0_3 : Option Addr) (c0_3 : Nat) (l0_3 : List (S116)) (r : Bool) (w : World) (hr0_3 : Kd.C cQ w A0_3 l0_3.length l0_3) (hc0_3 : l0_3.length <= c0_3) (h : lang_none.f a0_0 a0_1 a0_2 l0_3 = ac r) :
 Calls ak 241 #[.agg #[.int .i64 a0_0, .int .u64 a0_1, .string a0_2, .slice A0_3 l0_3.length c0_3]] w fun e w' => e = .returned (.bool r) /\ Below w.heap.size w w' := by
 have H := I h
 clear h hr0_3 hc0_3
 go_enter Tryz.func241, Tryz.ntmps241
 go_wp2
 all_goals (
  go_ret
  have h := H.out
  unfold lang_none.f at h
  refine ⟨?_, by first | exact (aq _ _).alloc (ar _) _ | exact aq _ _ | (repeat (first | exact cz _ | apply da))⟩
  simp_all)
def cadenceref15_Reserved.l0 : Nat -> ByteArray -> List ByteArray -> Int -> Option (Bool)
 | 0, _, _, _ => ag
 | k + 1, x0, x3, x4 => if x4 < (x3.length : Int) then (if 0 <= x4 then (if (rdOf fe x3 x4).toList = x0.toList then (ac af) else (cadenceref15_Reserved.l0 k x0 x3 (wrap64 (x4 + 1)))) else (ag)) else (ac J)
def cadenceref15_Reserved.f (k : Nat) (a0 : ByteArray) : Option (Bool) := cadenceref15_Reserved.l0 k a0 (([(⟨#[112, 114, 111, 103, 114, 97, 109]⟩ : ByteArray), (⟨#[119, 105, 100, 116, 104]⟩ : ByteArray), (⟨#[108, 105, 110, 101]⟩ : ByteArray), (⟨#[112, 117, 98, 108, 105, 99]⟩ : ByteArray), (⟨#[115, 101, 99, 114, 101, 116]⟩ : ByteArray), (⟨#[99, 111, 110, 115, 116]⟩ : ByteArray), (⟨#[118, 97, 114]⟩ : ByteArray), (⟨#[111, 117, 116]⟩ : ByteArray), (⟨#[98, 101, 103, 105, 110]⟩ : ByteArray), (⟨#[101, 110, 100]⟩ : ByteArray), (⟨#[105, 102]⟩ : ByteArray), (⟨#[101, 108, 115, 101]⟩ : ByteArray), (⟨#[102, 111, 114]⟩ : ByteArray), (⟨#[114, 101, 108, 101, 97, 115, 101]⟩ : ByteArray), (⟨#[115, 97, 114]⟩ : ByteArray), (⟨#[115, 108, 116]⟩ : ByteArray), (⟨#[115, 101, 108]⟩ : ByteArray)] : List ByteArray)) 0
set_option maxRecDepth 100000 in
theorem cadenceref15_Reserved.calls (k : Nat) (a0 : ByteArray) (r : Bool) (w : World) (h : cadenceref15_Reserved.f k a0 = ac r) :
 Calls ak 171 #[.string a0] w fun e w' => e = .returned (.bool r) /\ Below w.heap.size w w' := by
 have HB := I (aq w.heap.size w)
 have H : (cadenceref15_Reserved.l0 k a0 (([(⟨#[112, 114, 111, 103, 114, 97, 109]⟩ : ByteArray), (⟨#[119, 105, 100, 116, 104]⟩ : ByteArray), (⟨#[108, 105, 110, 101]⟩ : ByteArray), (⟨#[112, 117, 98, 108, 105, 99]⟩ : ByteArray), (⟨#[115, 101, 99, 114, 101, 116]⟩ : ByteArray), (⟨#[99, 111, 110, 115, 116]⟩ : ByteArray), (⟨#[118, 97, 114]⟩ : ByteArray), (⟨#[111, 117, 116]⟩ : ByteArray), (⟨#[98, 101, 103, 105, 110]⟩ : ByteArray), (⟨#[101, 110, 100]⟩ : ByteArray), (⟨#[105, 102]⟩ : ByteArray), (⟨#[101, 108, 115, 101]⟩ : ByteArray), (⟨#[102, 111, 114]⟩ : ByteArray), (⟨#[114, 101, 108, 101, 97, 115, 101]⟩ : ByteArray), (⟨#[115, 97, 114]⟩ : ByteArray), (⟨#[115, 108, 116]⟩ : ByteArray), (⟨#[115, 101, 108]⟩ : ByteArray)] : List ByteArray)) 0) = ac r := h
 clear h
 obtain ⟨y132, hy132⟩ : ∃ y_ : List ByteArray, y_ = (([(⟨#[112, 114, 111, 103, 114, 97, 109]⟩ : ByteArray), (⟨#[119, 105, 100, 116, 104]⟩ : ByteArray), (⟨#[108, 105, 110, 101]⟩ : ByteArray), (⟨#[112, 117, 98, 108, 105, 99]⟩ : ByteArray), (⟨#[115, 101, 99, 114, 101, 116]⟩ : ByteArray), (⟨#[99, 111, 110, 115, 116]⟩ : ByteArray), (⟨#[118, 97, 114]⟩ : ByteArray), (⟨#[111, 117, 116]⟩ : ByteArray), (⟨#[98, 101, 103, 105, 110]⟩ : ByteArray), (⟨#[101, 110, 100]⟩ : ByteArray), (⟨#[105, 102]⟩ : ByteArray), (⟨#[101, 108, 115, 101]⟩ : ByteArray), (⟨#[102, 111, 114]⟩ : ByteArray), (⟨#[114, 101, 108, 101, 97, 115, 101]⟩ : ByteArray), (⟨#[115, 97, 114]⟩ : ByteArray), (⟨#[115, 108, 116]⟩ : ByteArray), (⟨#[115, 101, 108]⟩ : ByteArray)] : List ByteArray)) := ⟨_, rfl⟩
 replace H : (cadenceref15_Reserved.l0 k a0 y132 0) = ac r := by first | (rw [hy132]; with_reducible exact H) | (have H2_ := (jk _ _).symm.trans H; rw [hy132]; with_reducible exact H2_) | (have H2_ := (jk _ _).symm.trans H; with_reducible exact H2_) | with_reducible exact H | (rw [hy132]; exact H) | exact H
 have Ny132 := I hy132
 clear hy132
 have H' := I H
 clear H
 go_enter Tryz.func171, Tryz.ntmps171
 go_wp2_with (first | ((with_reducible refine o6 (N := 5) rfl ?_); refine Kd.R_lit Kd.string _ 9 ?hg (N := 5) ?hd (xs := ([(⟨#[112, 114, 111, 103, 114, 97, 109]⟩ : ByteArray), (⟨#[119, 105, 100, 116, 104]⟩ : ByteArray), (⟨#[108, 105, 110, 101]⟩ : ByteArray), (⟨#[112, 117, 98, 108, 105, 99]⟩ : ByteArray), (⟨#[115, 101, 99, 114, 101, 116]⟩ : ByteArray), (⟨#[99, 111, 110, 115, 116]⟩ : ByteArray), (⟨#[118, 97, 114]⟩ : ByteArray), (⟨#[111, 117, 116]⟩ : ByteArray), (⟨#[98, 101, 103, 105, 110]⟩ : ByteArray), (⟨#[101, 110, 100]⟩ : ByteArray), (⟨#[105, 102]⟩ : ByteArray), (⟨#[101, 108, 115, 101]⟩ : ByteArray), (⟨#[102, 111, 114]⟩ : ByteArray), (⟨#[114, 101, 108, 101, 97, 115, 101]⟩ : ByteArray), (⟨#[115, 97, 114]⟩ : ByteArray), (⟨#[115, 108, 116]⟩ : ByteArray), (⟨#[115, 101, 108]⟩ : ByteArray)] : List ByteArray)) (inner := [.string (⟨#[112, 114, 111, 103, 114, 97, 109]⟩ : ByteArray), .string (⟨#[119, 105, 100, 116, 104]⟩ : ByteArray), .string (⟨#[108, 105, 110, 101]⟩ : ByteArray), .string (⟨#[112, 117, 98, 108, 105, 99]⟩ : ByteArray), .string (⟨#[115, 101, 99, 114, 101, 116]⟩ : ByteArray), .string (⟨#[99, 111, 110, 115, 116]⟩ : ByteArray), .string (⟨#[118, 97, 114]⟩ : ByteArray), .string (⟨#[111, 117, 116]⟩ : ByteArray), .string (⟨#[98, 101, 103, 105, 110]⟩ : ByteArray), .string (⟨#[101, 110, 100]⟩ : ByteArray), .string (⟨#[105, 102]⟩ : ByteArray), .string (⟨#[101, 108, 115, 101]⟩ : ByteArray), .string (⟨#[102, 111, 114]⟩ : ByteArray), .string (⟨#[114, 101, 108, 101, 97, 115, 101]⟩ : ByteArray), .string (⟨#[115, 97, 114]⟩ : ByteArray), .string (⟨#[115, 108, 116]⟩ : ByteArray), .string (⟨#[115, 101, 108]⟩ : ByteArray)]) (ok := fun _ => True) (okp := fun _ => True) ?hr ?hp (fun _ hk => hk) trivial (aq _ _) (ar _) (by simp) ?_; (case hd => rfl); (case hg => rfl); (case hr => first | (go_simp; done) | (go_simp; rfl)); (case hp => exact (dF.one (show Kd.M Kd.string _ _ _ (⟨#[112, 114, 111, 103, 114, 97, 109]⟩ : ByteArray) [.string (⟨#[112, 114, 111, 103, 114, 97, 109]⟩ : ByteArray)] from rfl) (dF.one (show Kd.M Kd.string _ _ _ (⟨#[119, 105, 100, 116, 104]⟩ : ByteArray) [.string (⟨#[119, 105, 100, 116, 104]⟩ : ByteArray)] from rfl) (dF.one (show Kd.M Kd.string _ _ _ (⟨#[108, 105, 110, 101]⟩ : ByteArray) [.string (⟨#[108, 105, 110, 101]⟩ : ByteArray)] from rfl) (dF.one (show Kd.M Kd.string _ _ _ (⟨#[112, 117, 98, 108, 105, 99]⟩ : ByteArray) [.string (⟨#[112, 117, 98, 108, 105, 99]⟩ : ByteArray)] from rfl) (dF.one (show Kd.M Kd.string _ _ _ (⟨#[115, 101, 99, 114, 101, 116]⟩ : ByteArray) [.string (⟨#[115, 101, 99, 114, 101, 116]⟩ : ByteArray)] from rfl) (dF.one (show Kd.M Kd.string _ _ _ (⟨#[99, 111, 110, 115, 116]⟩ : ByteArray) [.string (⟨#[99, 111, 110, 115, 116]⟩ : ByteArray)] from rfl) (dF.one (show Kd.M Kd.string _ _ _ (⟨#[118, 97, 114]⟩ : ByteArray) [.string (⟨#[118, 97, 114]⟩ : ByteArray)] from rfl) (dF.one (show Kd.M Kd.string _ _ _ (⟨#[111, 117, 116]⟩ : ByteArray) [.string (⟨#[111, 117, 116]⟩ : ByteArray)] from rfl) (dF.one (show Kd.M Kd.string _ _ _ (⟨#[98, 101, 103, 105, 110]⟩ : ByteArray) [.string (⟨#[98, 101, 103, 105, 110]⟩ : ByteArray)] from rfl) (dF.one (show Kd.M Kd.string _ _ _ (⟨#[101, 110, 100]⟩ : ByteArray) [.string (⟨#[101, 110, 100]⟩ : ByteArray)] from rfl) (dF.one (show Kd.M Kd.string _ _ _ (⟨#[105, 102]⟩ : ByteArray) [.string (⟨#[105, 102]⟩ : ByteArray)] from rfl) (dF.one (show Kd.M Kd.string _ _ _ (⟨#[101, 108, 115, 101]⟩ : ByteArray) [.string (⟨#[101, 108, 115, 101]⟩ : ByteArray)] from rfl) (dF.one (show Kd.M Kd.string _ _ _ (⟨#[102, 111, 114]⟩ : ByteArray) [.string (⟨#[102, 111, 114]⟩ : ByteArray)] from rfl) (dF.one (show Kd.M Kd.string _ _ _ (⟨#[114, 101, 108, 101, 97, 115, 101]⟩ : ByteArray) [.string (⟨#[114, 101, 108, 101, 97, 115, 101]⟩ : ByteArray)] from rfl) (dF.one (show Kd.M Kd.string _ _ _ (⟨#[115, 97, 114]⟩ : ByteArray) [.string (⟨#[115, 97, 114]⟩ : ByteArray)] from rfl) (dF.one (show Kd.M Kd.string _ _ _ (⟨#[115, 108, 116]⟩ : ByteArray) [.string (⟨#[115, 108, 116]⟩ : ByteArray)] from rfl) (dF.one (show Kd.M Kd.string _ _ _ (⟨#[115, 101, 108]⟩ : ByteArray) [.string (⟨#[115, 101, 108]⟩ : ByteArray)] from rfl) (dF.none _ _))))))))))))))))))); intro v133 w2 ho3 hb hg_ hnew_; clear hg_ hnew_; (first | rw [<- Ny132.out] at ho3 | (simp only [Int.reduceToNat] at ho3; rw [<- Ny132.out] at ho3)); have n0_ := I (Kd.fX ho3 (gD (by repeat (first | (with_reducible first | exact HB.out | apply aR | apply aO | apply aU) | exact HB.out)))); have n1_ := I (gI (by repeat (first | (with_reducible first | exact HB.out | apply aR | apply aO | apply aU) | exact HB.out)) hb); clear HB; have HO134 := n0_; have HB := n1_; clear n0_ n1_; clear hb ho3))
 go_loopg [4] k (fun kq v4 w' => ∃ (x4_1 : Int), v4 = .int .i64 x4_1 /\ Aside0 (cadenceref15_Reserved.l0 kq a0 y132 x4_1 = ac r) /\ Aside0 (kq <= k) /\ Aside0 (Kd.R Kd.string 9 w' w.heap.size (fun _ => True) v133 y132) /\ Aside0 (Below w.heap.size w w'))
 case atStart => exact ⟨(0), (by first | rfl | (simp; done) | (simp [*]; done)), H', ⟨ar _⟩, ⟨by (with_reducible repeat (first | apply Kd.R_alloc | apply Kd.R_drewN | apply Kd.R_drew)); exact HO134.out⟩, ⟨by repeat (first | (with_reducible first | exact HB.out | apply aR | apply aO | apply aU) | exact HB.out)⟩⟩
 case round =>
  clear H'
  try clear p2
  try clear c3
  obtain ⟨x4_1, rfl, HA, HK1, HO_3, HB⟩ := hrel
  cases gk with
  | zero => exact absurd HA.out (by simp [cadenceref15_Reserved.l0])
  | succ k1 =>
    have H := HA.out
    clear HA
    simp only [cadenceref15_Reserved.l0] at H
    by_cases c4 : x4_1 < (y132.length : Int)
    ·rw [if_pos c4] at H
     have c4b0 : decide (x4_1 < (y132.length : Int)) = af := decide_eq_true c4
     clear c4
     by_cases c5 : 0 <= x4_1
     ·rw [if_pos c5] at H
      have c5b0 : decide (0 <= x4_1) = af := decide_eq_true c5
      clear c5
      by_cases c6 : (rdOf fe y132 x4_1).toList = a0.toList
      ·rw [if_pos c6] at H
       have c6b0 : ((rdOf fe y132 x4_1).toList == a0.toList) = af := beq_iff_eq.mpr c6
       have c6b1 : ((rdOf fe y132 x4_1).toList != a0.toList) = J := bne_eq_false_iff_eq.mpr c6
       clear c6
       obtain rfl := ck H
       obtain ⟨Ao7, co7, eo7⟩ := Kd.cD HO_3.out
       subst eo7
       have p135 : 0 <= (x4_1 : Int) := of_decide_eq_true (by first | (with_reducible assumption) | assumption)
       have q135 : x4_1 < (y132.length : Int) := of_decide_eq_true (by first | (with_reducible assumption) | assumption)
       obtain ⟨ad135, e135, hx135_0⟩ := Kd.mV (Kd.oY HO_3.out).2.2 x4_1 p135 q135
       cases e135
       replace p135 := eq_true p135
       replace q135 := eq_true q135
       go_wp2
       go_ret
       exact ⟨by first | rfl | (simp [bV, bU] <;> rfl) | (simp [*, bV, bU] <;> rfl), by repeat (first | (with_reducible first | exact HB.out | apply aR | apply aO | apply aU) | exact HB.out)⟩
      ·rw [if_neg c6] at H
       have c6b0 : ((rdOf fe y132 x4_1).toList == a0.toList) = J := beq_eq_false_iff_ne.mpr c6
       have c6b1 : ((rdOf fe y132 x4_1).toList != a0.toList) = af := bne_iff_ne.mpr c6
       have H' := I H
       clear H
       obtain ⟨Ao8, co8, eo8⟩ := Kd.cD HO_3.out
       subst eo8
       have p135 : 0 <= (x4_1 : Int) := of_decide_eq_true (by first | (with_reducible assumption) | assumption)
       have q135 : x4_1 < (y132.length : Int) := of_decide_eq_true (by first | (with_reducible assumption) | assumption)
       obtain ⟨ad135, e135, hx135_0⟩ := Kd.mV (Kd.oY HO_3.out).2.2 x4_1 p135 q135
       cases e135
       replace p135 := eq_true p135
       replace q135 := eq_true q135
       go_wp2
       go_roundg k1
       case measure => have := HK1.out; omega
       case rel => exact ⟨(wrap64 (x4_1 + 1)), (by first | rfl | (simp; done) | (simp [*]; done)), H', ⟨by have := HK1.out; omega⟩, ⟨by (with_reducible repeat (first | apply Kd.R_alloc | apply Kd.R_drewN | apply Kd.R_drew)); exact HO_3.out⟩, ⟨by repeat (first | (with_reducible first | exact HB.out | apply aR | apply aO | apply aU) | exact HB.out)⟩⟩
     ·rw [if_neg c5] at H
      exact absurd H (by simp)
    ·rw [if_neg c4] at H
     have c4b0 : decide (x4_1 < (y132.length : Int)) = J := decide_eq_false c4
     clear c4
     obtain rfl := ck H
     obtain ⟨Ao9, co9, eo9⟩ := Kd.cD HO_3.out
     subst eo9
     go_wp2
     go_ret
     exact ⟨by first | rfl | (simp [bV, bU] <;> rfl) | (simp [*, bV, bU] <;> rfl), by repeat (first | (with_reducible first | exact HB.out | apply aR | apply aO | apply aU) | exact HB.out)⟩
def cadenceref01_Letter.f (a0 : Int) : Option (Bool) := if a0 ≥ 97 then (if a0 <= 122 then (ac af) else (if a0 ≥ 65 then (if a0 <= 90 then (ac af) else (ac (a0 == 95))) else (ac (a0 == 95)))) else (if a0 ≥ 65 then (if a0 <= 90 then (ac af) else (ac (a0 == 95))) else (ac (a0 == 95)))
set_option maxRecDepth 100000 in
theorem cadenceref01_Letter.calls (a0 : Int) (r : Bool) (w : World) (h : cadenceref01_Letter.f a0 = ac r) :
 Calls ak 242 #[.int .u8 a0] w fun e w' => e = .returned (.bool r) /\ Drawn0 w w' := by
 have H : (if a0 ≥ 97 then (if a0 <= 122 then (ac af) else (if a0 ≥ 65 then (if a0 <= 90 then (ac af) else (ac (a0 == 95))) else (ac (a0 == 95)))) else (if a0 ≥ 65 then (if a0 <= 90 then (ac af) else (ac (a0 == 95))) else (ac (a0 == 95)))) = ac r := h
 clear h
 by_cases c2 : a0 ≥ 97
 ·rw [if_pos c2] at H
  have c2b0 : decide (97 <= a0) = af := decide_eq_true c2
  clear c2
  by_cases c3 : a0 <= 122
  ·rw [if_pos c3] at H
   have c3b0 : decide (a0 <= 122) = af := decide_eq_true c3
   clear c3
   obtain rfl := ck H
   go_enter jx, Tryz.ntmps242
   go_wp2
   go_ret
   exact ⟨by first | rfl | (simp; done) | (simp [*]; done), by repeat (first | exact cz _ | apply da)⟩
  ·rw [if_neg c3] at H
   have c3b0 : decide (a0 <= 122) = J := decide_eq_false c3
   clear c3
   by_cases c4 : a0 ≥ 65
   ·rw [if_pos c4] at H
    have c4b0 : decide (65 <= a0) = af := decide_eq_true c4
    clear c4
    by_cases c5 : a0 <= 90
    ·rw [if_pos c5] at H
     have c5b0 : decide (a0 <= 90) = af := decide_eq_true c5
     clear c5
     obtain rfl := ck H
     go_enter jx, Tryz.ntmps242
     go_wp2
     go_ret
     exact ⟨by first | rfl | (simp; done) | (simp [*]; done), by repeat (first | exact cz _ | apply da)⟩
    ·rw [if_neg c5] at H
     have c5b0 : decide (a0 <= 90) = J := decide_eq_false c5
     clear c5
     obtain rfl := ck H
     go_enter jx, Tryz.ntmps242
     go_wp2
     go_ret
     exact ⟨by first | rfl | (simp; done) | (simp [*]; done), by repeat (first | exact cz _ | apply da)⟩
   ·rw [if_neg c4] at H
    have c4b0 : decide (65 <= a0) = J := decide_eq_false c4
    clear c4
    obtain rfl := ck H
    go_enter jx, Tryz.ntmps242
    go_wp2
    go_ret
    exact ⟨by first | rfl | (simp; done) | (simp [*]; done), by repeat (first | exact cz _ | apply da)⟩
 ·rw [if_neg c2] at H
  have c2b0 : decide (97 <= a0) = J := decide_eq_false c2
  clear c2
  by_cases c6 : a0 ≥ 65
  ·rw [if_pos c6] at H
   have c6b0 : decide (65 <= a0) = af := decide_eq_true c6
   clear c6
   by_cases c7 : a0 <= 90
   ·rw [if_pos c7] at H
    have c7b0 : decide (a0 <= 90) = af := decide_eq_true c7
    clear c7
    obtain rfl := ck H
    go_enter jx, Tryz.ntmps242
    go_wp2
    go_ret
    exact ⟨by first | rfl | (simp; done) | (simp [*]; done), by repeat (first | exact cz _ | apply da)⟩
   ·rw [if_neg c7] at H
    have c7b0 : decide (a0 <= 90) = J := decide_eq_false c7
    clear c7
    obtain rfl := ck H
    go_enter jx, Tryz.ntmps242
    go_wp2
    go_ret
    exact ⟨by first | rfl | (simp; done) | (simp [*]; done), by repeat (first | exact cz _ | apply da)⟩
  ·rw [if_neg c6] at H
   have c6b0 : decide (65 <= a0) = J := decide_eq_false c6
   clear c6
   obtain rfl := ck H
   go_enter jx, Tryz.ntmps242
   go_wp2
   go_ret
   exact ⟨by first | rfl | (simp; done) | (simp [*]; done), by repeat (first | exact cz _ | apply da)⟩
mutual
def cadenceref01_Name.j0 : Nat -> ByteArray -> Bool -> Option (Bool)
 | 0, _, _ => ag
 | k + 1, x0, x17 => if x17 = af then (ac J) else (cadenceref01_Name.l0 k x0 1)
def cadenceref01_Name.l0 : Nat -> ByteArray -> Int -> Option (Bool)
 | 0, _, _ => ag
 | k + 1, x0, x3 => if x3 < (x0.size : Int) then (if 0 <= x3 then ((cadenceref01_Letter.f (bt x0 x3)).bind fun t131 => (if t131 = af then (cadenceref01_Name.l0 k x0 (wrap64 (x3 + 1))) else (if (bt x0 x3) < 48 then (ac J) else (if (bt x0 x3) > 57 then (ac J) else (cadenceref01_Name.l0 k x0 (wrap64 (x3 + 1))))))) else (ag)) else (ac af)
end
def cadenceref01_Name.f (k : Nat) (a0 : ByteArray) : Option (Bool) := if (a0.size : Int) < 1 then (cadenceref01_Name.j0 k a0 af) else (if (a0.size : Int) > 24 then (cadenceref01_Name.j0 k a0 af) else (if 0 < (a0.size : Int) then ((cadenceref01_Letter.f (bt a0 0)).bind fun t130 => (cadenceref01_Name.j0 k a0 (!t130))) else (ag)))
set_option maxRecDepth 100000 in
theorem cadenceref01_Name.calls (k : Nat) (a0 : ByteArray) (r : Bool) (w : World) (h : cadenceref01_Name.f k a0 = ac r) :
 Calls ak 170 #[.string a0] w fun e w' => e = .returned (.bool r) /\ Drawn0 w w' := by
 have H : (if (a0.size : Int) < 1 then (cadenceref01_Name.j0 k a0 af) else (if (a0.size : Int) > 24 then (cadenceref01_Name.j0 k a0 af) else (if 0 < (a0.size : Int) then ((cadenceref01_Letter.f (bt a0 0)).bind fun t130 => (cadenceref01_Name.j0 k a0 (!t130))) else (ag)))) = ac r := h
 clear h
 have HC2 := I H
 clear H
 go_enter Tryz.func170, Tryz.ntmps170
 go_upto_region 1 with (fail)
 go_cut [17] (fun v17 wc => ∃ (kq : Nat) (x17_1 : Bool), v17 = .bool x17_1 /\ Aside0 (cadenceref01_Name.j0 kq a0 x17_1 = ac r) /\ Aside0 (kq <= k) /\ Drawn0 w wc)
 case first =>
  have H := HC2.out
  clear HC2
  by_cases c3 : (a0.size : Int) < 1
  ·rw [if_pos c3] at H
   have c3b0 : decide ((a0.size : Int) < 1) = af := decide_eq_true c3
   have c3b1 : decide (a0.size < 1) = af := decide_eq_true (by omega)
   clear c3
   (first | rw [c3b0] | (simp only [aN, aM]; rw [c3b0]) | skip)
   have H' := I H
   clear H
   go_wp2
   go_meet
   case rel => exact ⟨_, (af), (by first | rfl | (simp; done) | (simp [*]; done)), H', ⟨by first | omega | exact ar _⟩, by repeat (first | exact cz _ | apply da)⟩
  ·rw [if_neg c3] at H
   have c3b0 : decide ((a0.size : Int) < 1) = J := decide_eq_false c3
   have c3b1 : decide (a0.size < 1) = J := decide_eq_false (by omega)
   clear c3
   (first | rw [c3b0] | (simp only [aN, aM]; rw [c3b0]) | skip)
   by_cases c4 : (a0.size : Int) > 24
   ·rw [if_pos c4] at H
    have c4b0 : decide (24 < (a0.size : Int)) = af := decide_eq_true c4
    have c4b1 : decide (24 < a0.size) = af := decide_eq_true (by omega)
    clear c4
    have H' := I H
    clear H
    go_wp2
    go_meet
    case rel => exact ⟨_, (af), (by first | rfl | (simp; done) | (simp [*]; done)), H', ⟨by first | omega | exact ar _⟩, by repeat (first | exact cz _ | apply da)⟩
   ·rw [if_neg c4] at H
    have c4b0 : decide (24 < (a0.size : Int)) = J := decide_eq_false c4
    have c4b1 : decide (24 < a0.size) = J := decide_eq_false (by omega)
    clear c4
    by_cases c5 : 0 < (a0.size : Int)
    ·rw [if_pos c5] at H
     have c5b0 : decide (0 < (a0.size : Int)) = af := decide_eq_true c5
     have c5b1 : decide (0 < a0.size) = af := decide_eq_true (by omega)
     clear c5
     replace H := Option.bind_eq_some_iff.mp H
     obtain ⟨t130, A70, H⟩ := H
     replace H : (cadenceref01_Name.j0 k a0 (!t130)) = ac r := H
     have A7 := I A70
     clear A70
     have H' := I H
     clear H
     have p6 : 0 <= (0 : Int) := (by omega)
     have q6 : 0 < a0.size := (by have : (0 : Int) < (a0.size : Int) := of_decide_eq_true (by first | (with_reducible assumption) | assumption); omega)
     have hx6 : ∀ h : 0 < a0.size, ((a0[0]'h).toNat : Int) = bt a0 0 := bt_at a0 0
     clear p6
     have qi6 : (0 < (a0.size : Int)) = True := eq_true (of_decide_eq_true (by first | (with_reducible assumption) | assumption))
     replace q6 := eq_true q6
     go_wp2_with (first | (go_at_call 242; (with_reducible refine (cadenceref01_Letter.calls (bt a0 0) t130 _ A7.out).mono ?_); rintro e w' ⟨rfl, ⟨nd, rfl⟩⟩))
     go_meet
     case rel => exact ⟨_, (!t130), (by first | rfl | (simp; done) | (simp [*]; done)), H', ⟨by first | omega | exact ar _⟩, by repeat (first | exact cz _ | apply da)⟩
    ·rw [if_neg c5] at H
     exact absurd H (by simp)
 case rest =>
  clear HC2
  try clear p2
  try clear c3
  try clear c3b0
  try clear c3b1
  try clear c4
  try clear c4b0
  try clear c4b1
  try clear c5
  try clear c5b0
  try clear c5b1
  try clear p6
  try clear q6
  try clear hx6
  try clear qi6
  try clear p6
  try clear q6
  obtain ⟨kq, x17_1, rfl, HA, HJ1, ⟨mc1, rfl⟩⟩ := hcut
  cases kq with
  | zero => exact absurd HA.out (by simp [cadenceref01_Name.j0])
  | succ kj1 =>
    have H := HA.out
    clear HA
    simp only [cadenceref01_Name.j0] at H
    by_cases c8 : x17_1 = af
    ·subst c8
     have H1 : (ac J) = ac r := by rw [if_pos rfl] at H; exact H
     clear H
     have H := H1
     clear H1
     obtain rfl := ck H
     go_wp2
     go_ret
     exact ⟨by first | rfl | (simp; done) | (simp [*]; done), by repeat (first | exact cz _ | apply da)⟩
    ·replace c8 := Bool.eq_false_iff.mpr c8
     subst c8
     have H1 : (cadenceref01_Name.l0 kj1 a0 1) = ac r := by rw [if_neg (show ¬ (J = af) by decide)] at H; exact H
     clear H
     have H := H1
     clear H1
     have H' := I H
     clear H
     go_wp2
     go_loopg [3] kj1 (fun kq v3 w' => ∃ (x3_2 : Int), v3 = .int .i64 x3_2 /\ Aside0 (cadenceref01_Name.l0 kq a0 x3_2 = ac r) /\ Aside0 (kq <= kj1) /\ Drawn0 w w')
     case atStart => exact ⟨(1), (by first | rfl | (simp; done) | (simp [*]; done)), H', ⟨ar _⟩, by repeat (first | exact cz _ | apply da)⟩
     case round =>
      clear H'
      try clear c1
      try clear p2
      try clear c3
      try clear c3b0
      try clear c3b1
      try clear c4
      try clear c4b0
      try clear c4b1
      try clear c5
      try clear c5b0
      try clear c5b1
      try clear p6
      try clear q6
      try clear hx6
      try clear qi6
      try clear c8
      try clear p2
      try clear p6
      try clear q6
      obtain ⟨x3_2, rfl, HA, HK2, ⟨m2, rfl⟩⟩ := hrel
      cases gk with
      | zero => exact absurd HA.out (by simp [cadenceref01_Name.l0])
      | succ k2 =>
        have H := HA.out
        clear HA
        simp only [cadenceref01_Name.l0] at H
        by_cases c9 : x3_2 < (a0.size : Int)
        ·rw [if_pos c9] at H
         have c9b0 : decide (x3_2 < (a0.size : Int)) = af := decide_eq_true c9
         clear c9
         by_cases c10 : 0 <= x3_2
         ·rw [if_pos c10] at H
          have c10b0 : decide (0 <= x3_2) = af := decide_eq_true c10
          clear c10
          replace H := Option.bind_eq_some_iff.mp H
          obtain ⟨t131, A120, H⟩ := H
          replace H : (if t131 = af then (cadenceref01_Name.l0 k2 a0 (wrap64 (x3_2 + 1))) else (if (bt a0 x3_2) < 48 then (ac J) else (if (bt a0 x3_2) > 57 then (ac J) else (cadenceref01_Name.l0 k2 a0 (wrap64 (x3_2 + 1)))))) = ac r := H
          have A12 := I A120
          clear A120
          by_cases c13 : t131 = af
          ·subst c13
           have H1 : (cadenceref01_Name.l0 k2 a0 (wrap64 (x3_2 + 1))) = ac r := by rw [if_pos rfl] at H; exact H
           clear H
           have H := H1
           clear H1
           have H' := I H
           clear H
           have p11 : 0 <= (x3_2 : Int) := of_decide_eq_true (by first | (with_reducible assumption) | assumption)
           have q11 : x3_2 < (a0.size : Int) := of_decide_eq_true (by first | (with_reducible assumption) | assumption)
           have hx11 := bt_at a0 x3_2
           replace p11 := eq_true p11
           replace q11 := eq_true q11
           go_wp2_with (first | ((with_reducible refine eF (f := 242) rfl ?_); refine mD (ac 27) rfl rfl jx (by kernel_rfl) rfl #[.int .u8 (bt a0 x3_2)] rfl (by (try simp only [cb, cm, cw]); first | done | rfl | (simp only [dx, cn]; rfl)) ?_; (with_reducible refine (cadenceref01_Letter.calls (bt a0 x3_2) af _ A12.out).mono ?_); rintro e w' ⟨rfl, ⟨nd, rfl⟩⟩; refine ⟨_, rfl, ?_⟩))
           go_roundg k2
           case measure => have := HJ1.out; have := HK2.out; omega
           case rel => exact ⟨(wrap64 (x3_2 + 1)), (by first | rfl | (simp; done) | (simp [*]; done)), H', ⟨by have := HJ1.out; have := HK2.out; omega⟩, by repeat (first | exact cz _ | apply da)⟩
          ·replace c13 := Bool.eq_false_iff.mpr c13
           subst c13
           have H1 : (if (bt a0 x3_2) < 48 then (ac J) else (if (bt a0 x3_2) > 57 then (ac J) else (cadenceref01_Name.l0 k2 a0 (wrap64 (x3_2 + 1))))) = ac r := by rw [if_neg (show ¬ (J = af) by decide)] at H; exact H
           clear H
           have H := H1
           clear H1
           by_cases c15 : (bt a0 x3_2) < 48
           ·rw [if_pos c15] at H
            have c15b0 : decide ((bt a0 x3_2) < 48) = af := decide_eq_true c15
            clear c15
            obtain rfl := ck H
            have p11 : 0 <= (x3_2 : Int) := of_decide_eq_true (by first | (with_reducible assumption) | assumption)
            have q11 : x3_2 < (a0.size : Int) := of_decide_eq_true (by first | (with_reducible assumption) | assumption)
            have hx11 := bt_at a0 x3_2
            replace p11 := eq_true p11
            replace q11 := eq_true q11
            go_wp2_with (first | ((with_reducible refine eF (f := 242) rfl ?_); refine mD (ac 27) rfl rfl jx (by kernel_rfl) rfl #[.int .u8 (bt a0 x3_2)] rfl (by (try simp only [cb, cm, cw]); first | done | rfl | (simp only [dx, cn]; rfl)) ?_; (with_reducible refine (cadenceref01_Letter.calls (bt a0 x3_2) J _ A12.out).mono ?_); rintro e w' ⟨rfl, ⟨nd, rfl⟩⟩; refine ⟨_, rfl, ?_⟩; have p14 : 0 <= (x3_2 : Int) := of_decide_eq_true (by first | (with_reducible assumption) | assumption); have q14 : x3_2 < (a0.size : Int) := of_decide_eq_true (by first | (with_reducible assumption) | assumption); have hx14 := bt_at a0 x3_2; replace p14 := eq_true p14; replace q14 := eq_true q14))
            go_ret
            exact ⟨by first | rfl | (simp; done) | (simp [*]; done), by repeat (first | exact cz _ | apply da)⟩
           ·rw [if_neg c15] at H
            have c15b0 : decide ((bt a0 x3_2) < 48) = J := decide_eq_false c15
            clear c15
            by_cases c17 : (bt a0 x3_2) > 57
            ·rw [if_pos c17] at H
             have c17b0 : decide (57 < (bt a0 x3_2)) = af := decide_eq_true c17
             clear c17
             obtain rfl := ck H
             have p11 : 0 <= (x3_2 : Int) := of_decide_eq_true (by first | (with_reducible assumption) | assumption)
             have q11 : x3_2 < (a0.size : Int) := of_decide_eq_true (by first | (with_reducible assumption) | assumption)
             have hx11 := bt_at a0 x3_2
             replace p11 := eq_true p11
             replace q11 := eq_true q11
             go_wp2_with (first | ((with_reducible refine eF (f := 242) rfl ?_); refine mD (ac 27) rfl rfl jx (by kernel_rfl) rfl #[.int .u8 (bt a0 x3_2)] rfl (by (try simp only [cb, cm, cw]); first | done | rfl | (simp only [dx, cn]; rfl)) ?_; (with_reducible refine (cadenceref01_Letter.calls (bt a0 x3_2) J _ A12.out).mono ?_); rintro e w' ⟨rfl, ⟨nd, rfl⟩⟩; refine ⟨_, rfl, ?_⟩; have p14 : 0 <= (x3_2 : Int) := of_decide_eq_true (by first | (with_reducible assumption) | assumption); have q14 : x3_2 < (a0.size : Int) := of_decide_eq_true (by first | (with_reducible assumption) | assumption); have hx14 := bt_at a0 x3_2; replace p14 := eq_true p14; replace q14 := eq_true q14; have p16 : 0 <= (x3_2 : Int) := of_decide_eq_true (by first | (with_reducible assumption) | assumption); have q16 : x3_2 < (a0.size : Int) := of_decide_eq_true (by first | (with_reducible assumption) | assumption); have hx16 := bt_at a0 x3_2; replace p16 := eq_true p16; replace q16 := eq_true q16))
             go_ret
             exact ⟨by first | rfl | (simp; done) | (simp [*]; done), by repeat (first | exact cz _ | apply da)⟩
            ·rw [if_neg c17] at H
             have c17b0 : decide (57 < (bt a0 x3_2)) = J := decide_eq_false c17
             clear c17
             have H' := I H
             clear H
             have p11 : 0 <= (x3_2 : Int) := of_decide_eq_true (by first | (with_reducible assumption) | assumption)
             have q11 : x3_2 < (a0.size : Int) := of_decide_eq_true (by first | (with_reducible assumption) | assumption)
             have hx11 := bt_at a0 x3_2
             replace p11 := eq_true p11
             replace q11 := eq_true q11
             go_wp2_with (first | ((with_reducible refine eF (f := 242) rfl ?_); refine mD (ac 27) rfl rfl jx (by kernel_rfl) rfl #[.int .u8 (bt a0 x3_2)] rfl (by (try simp only [cb, cm, cw]); first | done | rfl | (simp only [dx, cn]; rfl)) ?_; (with_reducible refine (cadenceref01_Letter.calls (bt a0 x3_2) J _ A12.out).mono ?_); rintro e w' ⟨rfl, ⟨nd, rfl⟩⟩; refine ⟨_, rfl, ?_⟩; have p14 : 0 <= (x3_2 : Int) := of_decide_eq_true (by first | (with_reducible assumption) | assumption); have q14 : x3_2 < (a0.size : Int) := of_decide_eq_true (by first | (with_reducible assumption) | assumption); have hx14 := bt_at a0 x3_2; replace p14 := eq_true p14; replace q14 := eq_true q14; have p16 : 0 <= (x3_2 : Int) := of_decide_eq_true (by first | (with_reducible assumption) | assumption); have q16 : x3_2 < (a0.size : Int) := of_decide_eq_true (by first | (with_reducible assumption) | assumption); have hx16 := bt_at a0 x3_2; replace p16 := eq_true p16; replace q16 := eq_true q16))
             go_roundg k2
             case measure => have := HJ1.out; have := HK2.out; omega
             case rel => exact ⟨(wrap64 (x3_2 + 1)), (by first | rfl | (simp; done) | (simp [*]; done)), H', ⟨by have := HJ1.out; have := HK2.out; omega⟩, by repeat (first | exact cz _ | apply da)⟩
         ·rw [if_neg c10] at H
          exact absurd H (by simp)
        ·rw [if_neg c9] at H
         have c9b0 : decide (x3_2 < (a0.size : Int)) = J := decide_eq_false c9
         clear c9
         obtain rfl := ck H
         go_wp2
         go_ret
         exact ⟨by first | rfl | (simp; done) | (simp [*]; done), by repeat (first | exact cz _ | apply da)⟩
def cadenceref15_Name.f (k : Nat) (a0 : ByteArray) : Option (Bool) := (cadenceref01_Name.f k a0).bind fun t136 => (if t136 = af then ((cadenceref15_Reserved.f k a0).bind fun t137 => (ac (!t137))) else (ac J))
set_option maxRecDepth 100000 in
theorem cadenceref15_Name.calls (k : Nat) (a0 : ByteArray) (r : Bool) (w : World) (h : cadenceref15_Name.f k a0 = ac r) :
 Calls ak 124 #[.string a0] w fun e w' => e = .returned (.bool r) /\ Below w.heap.size w w' := by
 have HB := I (aq w.heap.size w)
 have H : ((cadenceref01_Name.f k a0).bind fun t136 => (if t136 = af then ((cadenceref15_Reserved.f k a0).bind fun t137 => (ac (!t137))) else (ac J))) = ac r := h
 clear h
 replace H := Option.bind_eq_some_iff.mp H
 obtain ⟨t136, A20, H⟩ := H
 replace H : (if t136 = af then ((cadenceref15_Reserved.f k a0).bind fun t137 => (ac (!t137))) else (ac J)) = ac r := H
 have A2 := I A20
 clear A20
 by_cases c3 : t136 = af
 ·subst c3
  have H1 : ((cadenceref15_Reserved.f k a0).bind fun t137 => (ac (!t137))) = ac r := by rw [if_pos rfl] at H; exact H
  clear H
  have H := H1
  clear H1
  replace H := Option.bind_eq_some_iff.mp H
  obtain ⟨t137, A40, H⟩ := H
  replace H : (ac (!t137)) = ac r := H
  have A4 := I A40
  clear A40
  obtain rfl := ck H
  go_enter Tryz.func124, Tryz.ntmps124
  go_wp2_with (first | ((with_reducible refine eF (f := 170) rfl ?_); refine mD (ac 4) rfl rfl Tryz.func170 (by kernel_rfl) rfl #[.string a0] rfl (by (try simp only [cb, cm, cw]); first | done | rfl | (simp only [dx, cn]; rfl)) ?_; (with_reducible refine (cadenceref01_Name.calls k a0 af _ A2.out).mono ?_); rintro e w' ⟨rfl, ⟨nd, rfl⟩⟩; refine ⟨_, rfl, ?_⟩) | (go_at_call 171; (with_reducible refine (cadenceref15_Reserved.calls k a0 t137 _ A4.out).mono ?_); rintro e w5 ⟨rfl, hb⟩; have n0_ := I (gI (by repeat (first | (with_reducible first | exact HB.out | apply aR | apply aO | apply aU) | exact HB.out)) hb); clear HB; have HB := n0_; clear n0_; (try clear hb); (try clear hb2); (try clear hk); (try clear hi)))
  go_ret
  exact ⟨by first | rfl | (simp [bV, bU] <;> rfl) | (simp [*, bV, bU] <;> rfl), by repeat (first | (with_reducible first | exact HB.out | apply aR | apply aO | apply aU) | exact HB.out)⟩
 ·replace c3 := Bool.eq_false_iff.mpr c3
  subst c3
  have H1 : (ac J) = ac r := by rw [if_neg (show ¬ (J = af) by decide)] at H; exact H
  clear H
  have H := H1
  clear H1
  obtain rfl := ck H
  go_enter Tryz.func124, Tryz.ntmps124
  go_wp2_with (first | ((with_reducible refine eF (f := 170) rfl ?_); refine mD (ac 4) rfl rfl Tryz.func170 (by kernel_rfl) rfl #[.string a0] rfl (by (try simp only [cb, cm, cw]); first | done | rfl | (simp only [dx, cn]; rfl)) ?_; (with_reducible refine (cadenceref01_Name.calls k a0 J _ A2.out).mono ?_); rintro e w' ⟨rfl, ⟨nd, rfl⟩⟩; refine ⟨_, rfl, ?_⟩))
  go_ret
  exact ⟨by first | rfl | (simp [bV, bU] <;> rfl) | (simp [*, bV, bU] <;> rfl), by repeat (first | (with_reducible first | exact HB.out | apply aR | apply aO | apply aU) | exact HB.out)⟩
def cadenceref15_none.f (a0_0 : Int) (a0_1 : Int) (a0_2 : ByteArray) (l0_3 : List (S116)) : Option (Bool) := if a0_0 = 0 then (if a0_1 = 0 then (if a0_2.toList = ([] : List UInt8) then (ac ((l0_3.length : Int) == 0)) else (ac J)) else (ac J)) else (ac J)
set_option maxRecDepth 100000 in
theorem cadenceref15_none.calls (a0_0 : Int) (a0_1 : Int) (a0_2 : ByteArray) (A0_3 : Option Addr) (c0_3 : Nat) (l0_3 : List (S116)) (r : Bool) (w : World) (hr0_3 : Kd.C cQ w A0_3 l0_3.length l0_3) (hc0_3 : l0_3.length <= c0_3) (h : cadenceref15_none.f a0_0 a0_1 a0_2 l0_3 = ac r) :
 Calls ak 244 #[.agg #[.int .i64 a0_0, .int .u64 a0_1, .string a0_2, .slice A0_3 l0_3.length c0_3]] w fun e w' => e = .returned (.bool r) /\ Below w.heap.size w w' := by
 have H := I h
 clear h hr0_3 hc0_3
 go_enter Tryz.func244, Tryz.ntmps244
 go_wp2
 all_goals (
  go_ret
  have h := H.out
  unfold cadenceref15_none.f at h
  refine ⟨?_, by first | exact (aq _ _).alloc (ar _) _ | exact aq _ _ | (repeat (first | exact cz _ | apply da))⟩
  simp_all)
end
end Go.Proofs.YtfigjpehecibeaaGreat.L
namespace Go.Proofs.YtfigjpehecibeaaGreat.Gr
open Go.RowKit
def G (w : World) := { W : World // Below w.heap.size w W }
instance (w : World) : Nonempty (G w) := ⟨⟨w, aq _ _⟩⟩
def G.W {w : World} (g : G w) : World := g.1
theorem G.below {w : World} (g : G w) : Below w.heap.size w g.W := g.2
theorem G.cell {w : World} (g : G w) {b o : Nat} (h : b < w.heap.size) : g.W.cell? ⟨b, o, ag⟩ = w.cell? ⟨b, o, ag⟩ := g.below.cell (p := ⟨b, o, ag⟩) h
theorem G.cellA {w : World} (g : G w) {a : Addr} (h : a.block < w.heap.size) : g.W.cell? a = w.cell? a := g.below.cell h
theorem G.held {w : World} (g : G w) {a : Addr} {v : Value} (h : w.cell? a = ac v) : g.W.cell? a = ac v := (g.cellA (aj w a h)).trans h
section
variable {P : Program}
theorem bF {id : Nat} {Q : Exit -> Act -> World -> Prop} {a : Act} {w : World} {l : List Oper} (hm : P.follows .mixedOrders = af) (hB : Region.lexB .any l.toArray = af)
 (h : wpQuiet P l.toArray (fun w' => ∃ g : G w, w' = g.W) (fun a' => ∀ w', (∃ g : G w, w' = g.W) -> Q .normal a' w') l a) : (Code.region id l.toArray af).wp P Q a w :=
 wp_region_quiet (C := fun w' => ∃ g : G w, w' = g.W) hm hB ⟨⟨_, (aq _ _).drew⟩, rfl⟩ (by simpa using h)
theorem aD {f : FuncId} {args : Array Value} {w : World} {g : G w} {v : Value} (h : Calls P f args g.W fun e w' => e = .returned v /\ Below g.W.heap.size g.W w') :
 Calls P f args g.W fun e w'' => e = .returned v /\ ∃ g' : G w, w'' = g'.W :=
 h.mono fun _ w' ⟨he, hb⟩ => ⟨he, ⟨⟨w', g.below.trans (hb.mono g.below.size)⟩, rfl⟩⟩
end
theorem gA (w : World) {o : Obj} (g : G (w.alloc o)) : Below w.heap.size w g.W := ((aq _ _).alloc (ar _) _).trans (g.below.mono (by simp))
theorem gB (w : World) {o o' : Obj} (g : G ((w.alloc o).alloc o')) : Below w.heap.size w g.W := (((aq _ _).alloc (ar _) _).alloc (by simp) _).trans (g.below.mono (by simp; omega))
theorem bA (w : World) (o : Obj) : Below w.heap.size w (w.alloc o) := (aq _ _).alloc (ar _) _
end Go.Proofs.YtfigjpehecibeaaGreat.Gr
namespace Go.Proofs.YtfigjpehecibeaaGreat.L
open Go.RowKit Go.Proofs.YtfigjpehecibeaaGreatW.PrintWords Go.Proofs.YtfigjpehecibeaaGreatW.PrintLast Go.Proofs.YtfigjpehecibeaaGreatW.PrintMore Go.Proofs.YtfigjpehecibeaaGreat.Gr
def fJ (k : Int) : Int := if k < 1 then -1 else if k > 26 then -1 else if k = 1 then 0 else if k = 2 then 0 else if k = 3 then 1 else if k = 4 then 1 else if k = 5 then 1 else if k = 26 then 3 else 2
set_option maxRecDepth 100000 in
theorem qP (k : Int) (w : World) : Calls ak 281 #[.int .i64 k] w fun e w' => e = .returned (.int .i64 (fJ k)) /\ Below w.heap.size w w' := by
 have hk : k < 1 \/ k > 26 \/ k = 1 \/ k = 2 \/ k = 3 \/ k = 4 \/ k = 5 \/ k = 6 \/ k = 7 \/ k = 8 \/ k = 9 \/ k = 10 \/ k = 11 \/ k = 12 \/ k = 13 \/ k = 14 \/ k = 15 \/ k = 16 \/ k = 17 \/ k = 18 \/ k = 19 \/ k = 20 \/ k = 21 \/ k = 22 \/ k = 23 \/ k = 24 \/ k = 25 \/ k = 26 := by omega
 rcases hk with h | h | rfl | rfl | rfl | rfl | rfl | rfl | rfl | rfl | rfl | rfl | rfl | rfl | rfl | rfl | rfl | rfl | rfl | rfl | rfl | rfl | rfl | rfl | rfl | rfl | rfl | rfl
 all_goals (
  go_enter Tryz.func281, Tryz.ntmps281
  go_wp2
  go_ret
  exact ⟨by unfold fJ; first | rfl | (simp [*]; done) | kernel_rfl, aq _ _⟩)
set_option maxRecDepth 100000 in
theorem lI (k : Int) (w : World) : Calls ak 282 #[.int .i64 k] w fun e w' => e = .returned (.int .i64 (fJ k)) /\ Below w.heap.size w w' := by
 have hk : k < 1 \/ k > 26 \/ k = 1 \/ k = 2 \/ k = 3 \/ k = 4 \/ k = 5 \/ k = 6 \/ k = 7 \/ k = 8 \/ k = 9 \/ k = 10 \/ k = 11 \/ k = 12 \/ k = 13 \/ k = 14 \/ k = 15 \/ k = 16 \/ k = 17 \/ k = 18 \/ k = 19 \/ k = 20 \/ k = 21 \/ k = 22 \/ k = 23 \/ k = 24 \/ k = 25 \/ k = 26 := by omega
 rcases hk with h | h | rfl | rfl | rfl | rfl | rfl | rfl | rfl | rfl | rfl | rfl | rfl | rfl | rfl | rfl | rfl | rfl | rfl | rfl | rfl | rfl | rfl | rfl | rfl | rfl | rfl | rfl
 all_goals (
  go_enter Tryz.func282, Tryz.ntmps282
  go_wp2
  go_ret
  exact ⟨by unfold fJ; first | rfl | (simp [*]; done) | kernel_rfl, aq _ _⟩)
def resB (s : ByteArray) : Bool := (lang_Reserved.f s).getD J
theorem rI (s : ByteArray) : lang_Reserved.f s = ac (resB s) := by
 have si : ∀ (c : Prop) [Decidable c] (b : Bool), (if c then ac af else ac b) = ac (if c then af else b) := fun c _ b => by split <;> rfl
 have h : ∃ b, lang_Reserved.f s = ac b := by
  unfold lang_Reserved.f
  simp only [si]
  exact ⟨_, rfl⟩
 obtain ⟨b, h⟩ := h
 unfold resB
 rw [h]; rfl
theorem found (s : ByteArray) (l : List ByteArray) (hl : l.length <= 100) : ∀ (d i k : Nat), i + d = l.length -> d < k ->
 cadenceref15_Reserved.l0 k s l (i : Int) = ac ((l.drop i).any fun x => decide (s.toList = x.toList)) := by
 intro d
 induction d with
 | zero =>
   intro i k h hk
   obtain ⟨k, rfl⟩ : ∃ a, k = a + 1 := ⟨k - 1, by omega⟩
   rw [cadenceref15_Reserved.l0, if_neg (by omega), jp (by omega)]; rfl
 | succ d ih =>
   intro i k h hk
   obtain ⟨k, rfl⟩ : ∃ a, k = a + 1 := ⟨k - 1, by omega⟩
   have hi : i < l.length := by omega
   have e : wrap64 ((i : Int) + 1) = ((i + 1 : Nat) : Int) := by unfold wrap64; omega
   have er : rdOf fe l (i : Int) = l[i] := by simp [rdOf, au, hi]
   rw [cadenceref15_Reserved.l0, if_pos (by omega), if_pos (by omega), e, ih (i + 1) k (by omega) (by omega), er, ig hi, jn]
   by_cases g : l[i].toList = s.toList
   ·rw [if_pos g, decide_eq_true g.symm]; rfl
   ·rw [if_neg g, decide_eq_false (fun h => g h.symm)]; rfl
theorem refReserved_eq (s : ByteArray) : cadenceref15_Reserved.f 30 s = ac (resB s) := by
 rw [<- rI]
 unfold lang_Reserved.f cadenceref15_Reserved.f
 rw [show (0 : Int) = ((0 : Nat) : Int) from rfl, found s _ (by decide) 17 0 30 rfl (by decide)]
 simp only [List.drop_zero, jn, List.any_nil]
 have lay : ∀ (l : List UInt8) (k : Bool), (decide (s.toList = (⟨l.toArray⟩ : ByteArray).toList) || k) = if s.toList = l then af else k := by
  intro l k
  rw [Lib.toList_data (⟨l.toArray⟩ : ByteArray)]
  by_cases h : s.toList = l
  ·rw [if_pos h, decide_eq_true h]; rfl
  ·rw [if_neg h, decide_eq_false h]; rfl
 simp only [lay]
 have si : ∀ (c : Prop) [Decidable c] (b : Bool), (if c then ac af else ac b) = ac (if c then af else b) := fun c _ b => by split <;> rfl
 simp only [si]
theorem Letter_eq (c : Int) : cadenceref01_Letter.f c = ac (letB c) := by
 have h95 : (c == 95) = decide (c = 95) := by by_cases h : c = 95 <;> simp [h]
 unfold cadenceref01_Letter.f letB
 rw [h95]
 repeat' split
 all_goals (congr 1; first | (symm; apply decide_eq_true; omega) | (rw [Bool.eq_iff_iff]; simp only [decide_eq_true_eq]; omega))
theorem tail_eq (s : ByteArray) (hs : s.size <= 24) : ∀ (d i k : Nat), i + d = s.size -> d < k -> 1 <= i -> cadenceref01_Name.l0 k s (i : Int) = ac (((br s.size).drop i).all (okB s)) := by
 intro d
 induction d with
 | zero =>
   intro i k h hk _
   obtain ⟨k, rfl⟩ : ∃ a, k = a + 1 := ⟨k - 1, by omega⟩
   rw [cadenceref01_Name.l0, if_neg (by omega), jp (by simp; omega)]; rfl
 | succ d ih =>
   intro i k h hk hi1
   obtain ⟨k, rfl⟩ : ∃ a, k = a + 1 := ⟨k - 1, by omega⟩
   have hw : wrap64 ((i : Int) + 1) = ((i + 1 : Nat) : Int) := by unfold wrap64; omega
   rw [cadenceref01_Name.l0, if_pos (by omega), if_pos (by omega), Letter_eq, jk, hw, ih (i + 1) k (by omega) (by omega) (by omega)]
   have hd : okB s i = (letB (bt s i) || digB (bt s i)) := by unfold okB; rw [decide_eq_true hi1]; rfl
   rw [ig (show i < (br s.size).length by simp; omega), List.all_cons, List.getElem_range]
   by_cases l : letB (bt s i) = af
   ·rw [if_pos l, hd, l]; rfl
   ·rw [if_neg l]
    have l' := Bool.eq_false_iff.2 l
    by_cases c1 : bt s i < 48
    ·rw [if_pos c1, show okB s i = J from by rw [hd, l']; unfold digB; simp; omega]; rfl
    rw [if_neg c1]
    by_cases c2 : bt s i > 57
    ·rw [if_pos c2, show okB s i = J from by rw [hd, l']; unfold digB; simp; omega]; rfl
    rw [if_neg c2, show okB s i = af from by rw [hd, l']; unfold digB; simp; omega]; rfl
theorem refNm_eq (s : ByteArray) : cadenceref01_Name.f 30 s = ac (nmB s) := by
 unfold cadenceref01_Name.f nmB
 by_cases h1 : (s.size : Int) < 1
 ·rw [if_pos h1, cadenceref01_Name.j0, if_pos rfl, decide_eq_false (show ¬ 1 <= s.size by omega)]; rfl
 rw [if_neg h1]
 by_cases h2 : (s.size : Int) > 24
 ·rw [if_pos h2, cadenceref01_Name.j0, if_pos rfl, decide_eq_false (show ¬ s.size <= 24 by omega)]; simp
 rw [if_neg h2, if_pos (by omega), Letter_eq, jk, decide_eq_true (show 1 <= s.size by omega), decide_eq_true (show s.size <= 24 by omega), cadenceref01_Name.j0]
 have h0 : okB s 0 = letB (bt s 0) := by unfold okB; simp
 by_cases l : letB (bt s 0) = af
 ·rw [l, if_neg (by decide), show (1 : Int) = ((1 : Nat) : Int) from rfl, tail_eq s (by omega) (s.size - 1) 1 29 (by omega) (by omega) (by omega)]
  have e : (br s.size).all (okB s) = ((br s.size).drop 0).all (okB s) := by rw [List.drop_zero]
  rw [e, ig (show 0 < (br s.size).length by simp; omega), List.all_cons, List.getElem_range, h0, l]
  rfl
 ·have l' := Bool.eq_false_iff.2 l
  rw [l', if_pos (by decide)]
  congr 1
  symm
  simp only [jy, List.all_eq_false]
  exact ⟨0, ja.2 (by omega), by rw [h0, l']; decide⟩
def cM (s : ByteArray) : Bool := nmB s && !resB s
theorem named_eq (s : ByteArray) : lang_named.f s = ac (cM s) := by
 unfold lang_named.f bits_Name.f cM
 rw [rI, jk, jk]
 by_cases h : nmB s = af
 ·rw [if_pos h, h]; rfl
 ·rw [if_neg h, Bool.eq_false_iff.2 h]; rfl
theorem refName_eq (s : ByteArray) : cadenceref15_Name.f 30 s = ac (cM s) := by
 unfold cadenceref15_Name.f cM
 rw [refNm_eq, refReserved_eq, jk, jk]
 by_cases h : nmB s = af
 ·rw [if_pos h, h]; rfl
 ·rw [if_neg h, Bool.eq_false_iff.2 h]; rfl
theorem lR (s : ByteArray) (w : World) : Calls ak 119 #[.string s] w fun e w' => e = .returned (.bool (cM s)) /\ Below w.heap.size w w' := lang_named.calls s _ w (named_eq s)
theorem kB (s : ByteArray) (w : World) : Calls ak 124 #[.string s] w fun e w' => e = .returned (.bool (cM s)) /\ Below w.heap.size w w' := cadenceref15_Name.calls 30 s _ w (refName_eq s)
def jG (x : S116) : Bool := x.f0 == 0 && x.f1 == 0 && x.f2.toList.isEmpty && (x.f3.length : Int) == 0
theorem none_eq (x : S116) : lang_none.f x.f0 x.f1 x.f2 x.f3 = ac (jG x) := by
 unfold lang_none.f jG
 by_cases h0 : x.f0 = 0
 ·by_cases h1 : x.f1 = 0
  ·by_cases h2 : x.f2.toList = []
   ·simp [h0, h1, h2]
   ·have : x.f2.toList.isEmpty = J := by simpa using h2
    rw [if_pos h0, if_pos h1, if_neg h2, this]; simp
  ·simp [h0, h1]
 ·simp [h0]
theorem none_calls (x : S116) (A : Option Addr) (c : Nat) (w : World) (hc : cQ.C w A x.f3.length x.f3) (hl : x.f3.length <= c) : Calls ak 241 #[.agg #[.int .i64 x.f0, .int .u64 x.f1, .string x.f2, .slice A x.f3.length c]] w fun e w' => e = .returned (.bool (jG x)) /\ Below w.heap.size w w' := lang_none.calls x.f0 x.f1 x.f2 A c x.f3 _ w hc hl (none_eq x)
theorem refNone_calls (x : S116) (A : Option Addr) (c : Nat) (w : World) (hc : cQ.C w A x.f3.length x.f3) (hl : x.f3.length <= c) : Calls ak 244 #[.agg #[.int .i64 x.f0, .int .u64 x.f1, .string x.f2, .slice A x.f3.length c]] w fun e w' => e = .returned (.bool (jG x)) /\ Below w.heap.size w w' := cadenceref15_none.calls x.f0 x.f1 x.f2 A c x.f3 _ w hc hl (none_eq x)
section
def hasB (k : Int) : Bool := k == 2 || k == 3
def exOwn (x : S116) : Bool := (fJ x.f0 == (x.f3.length : Int)) && (hasB x.f0 == !x.f2.toList.isEmpty) && (!hasB x.f0 || cM x.f2) && (x.f0 == 1 || x.f1 == 0)
mutual
def exB : S116 -> Bool
 | ⟨a, b, c, l⟩ => exOwn ⟨a, b, c, l⟩ && exL l
def exL : List S116 -> Bool
 | [] => af
 | x :: r => exB x && exL r
end
theorem exL_all (l : List S116) : exL l = l.all exB := by
 induction l with
 | nil => rfl
 | cons x r ih => rw [exL, ih, List.all_cons]
theorem exB_eq (x : S116) : exB x = (exOwn x && x.f3.all exB) := by
 obtain ⟨a, b, c, l⟩ := x
 rw [exB, exL_all]
theorem aC {a b : Bool} (h : a = b) : fw (.bool a) = .returned (.bool b) := by rw [h]
attribute [local go_sem] G.cell
theorem all_has_no {l : List S116} {y : S116} (h : y ∈ l) (hn : exB y = J) : J = l.all exB := by
 symm
 rw [List.all_eq_false]
 exact ⟨y, h, by rw [hn]; decide⟩
theorem all_have {l : List S116} (h : ∀ j, j < l.length -> exB (bO l (j : Int)) = af) : af = l.all exB := by
 symm
 rw [dz]
 intro y hy
 obtain ⟨j, hj, rfl⟩ := fz hy
 have := h j hj
 unfold bO at this
 rwa [av, au, az hj] at this
theorem aJ (b : Bool) : b = af \/ b = J := by cases b <;> simp
theorem ex_ways (b2 b3 b1 z p nm e : Bool) (h21 : b2 = af -> b1 = af) (h31 : b3 = af -> b1 = af) :
 (((p = af /\ b2 = af) \/ (p = af /\ b2 = J /\ b3 = af) \/ (p = af /\ b2 = J /\ b3 = J) \/
 (p = J /\ b2 = af /\ e = af) \/ (p = J /\ b2 = J /\ b3 = af /\ e = af) \/ (p = J /\ b2 = J /\ b3 = J /\ e = J) \/
 (p = J /\ b2 = af /\ e = J /\ nm = J) \/ (p = J /\ b2 = J /\ b3 = af /\ e = J /\ nm = J) \/
 (p = J /\ b2 = af /\ e = J /\ nm = af /\ b1 = af /\ z = af) \/ (p = J /\ b2 = J /\ b3 = af /\ e = J /\ nm = af /\ b1 = af /\ z = af) \/
 (p = J /\ b2 = J /\ b3 = J /\ e = af /\ b1 = af /\ z = af)) /\ (!p && ((b2 || b3) == !e) && (!(b2 || b3) || nm) && (!b1 || !z)) = J) \/
 (((p = J /\ b2 = af /\ e = J /\ nm = af /\ b1 = af /\ z = J) \/ (p = J /\ b2 = J /\ b3 = af /\ e = J /\ nm = af /\ b1 = af /\ z = J) \/
 (p = J /\ b2 = J /\ b3 = J /\ e = af /\ b1 = J) \/ (p = J /\ b2 = J /\ b3 = J /\ e = af /\ b1 = af /\ z = J)) /\ (!p && ((b2 || b3) == !e) && (!(b2 || b3) || nm) && (!b1 || !z)) = af) := by
 revert h21 h31
 cases b2 <;> cases b3 <;> cases b1 <;> cases z <;> cases p <;> cases nm <;> cases e <;> simp
theorem exOwn_eq (x : S116) : exOwn x = (!(fJ x.f0 != (x.f3.length : Int)) && (((x.f0 == 2) || (x.f0 == 3)) == !x.f2.toList.isEmpty) && (!((x.f0 == 2) || (x.f0 == 3)) || cM x.f2) && (!(x.f0 != 1) || !(x.f1 != 0))) := by
 unfold exOwn hasB
 simp [bne]
set_option maxRecDepth 100000 in
theorem exprForm_walk (x : S116) (A : Option Addr) (c : Nat) (w : World) (hc : cQ.C w A x.f3.length x.f3) (hl : x.f3.length <= c)
 (ih : ∀ y ∈ x.f3, ∀ (A' : Option Addr) (c' : Nat) (w' : World), cQ.C w' A' y.f3.length y.f3 -> y.f3.length <= c' -> Calls ak 240 #[.agg #[.int .i64 y.f0, .int .u64 y.f1, .string y.f2, .slice A' y.f3.length c']] w' fun e w'' => e = .returned (.bool (exB y)) /\ Below w'.heap.size w' w'') :
 Calls ak 240 #[.agg #[.int .i64 x.f0, .int .u64 x.f1, .string x.f2, .slice A x.f3.length c]] w fun e w' => e = .returned (.bool (exOwn x && x.f3.all exB)) /\ Below w.heap.size w w' := by
 have hw := ex_ways (x.f0 == 2) (x.f0 == 3) (x.f0 != 1) (x.f1 != 0) (fJ x.f0 != (x.f3.length : Int)) (cM x.f2) x.f2.toList.isEmpty (by simp; omega) (by simp; omega)
 rw [<- exOwn_eq] at hw
 have IH := I ih
 have HC := I hc
 clear ih hc
 obtain ⟨x0, x1, x2, x3⟩ := x
 simp only at *
 rcases hw with ⟨hw, ho⟩ | ⟨hw, ho⟩
 ·rw [ho, jb]
  clear ho HC IH
  generalize x3.length = n at *
  rcases hw with ⟨hp, h2⟩ | ⟨hp, h2, h3⟩ | ⟨hp, h2, h3⟩ | ⟨hp, h2, he⟩ | ⟨hp, h2, h3, he⟩ | ⟨hp, h2, h3, he⟩ | ⟨hp, h2, he, hn⟩ | ⟨hp, h2, h3, he, hn⟩ | ⟨hp, h2, he, hn, h1, hz⟩ | ⟨hp, h2, h3, he, hn, h1, hz⟩ | ⟨hp, h2, h3, he, h1, hz⟩
  all_goals
   try (have he2 : x2.toList = [] := gp.1 he)
   try (have he2 : ¬ x2.toList = [] := by intro h; rw [h] at he; exact absurd he (by decide))
   go_enter Tryz.func240, Tryz.ntmps240
   go_upto_region 2 with (fail)
   all_goals
    refine bF (by kernel_rfl) (by kernel_rfl) ?_
    repeat (go_big_quiet_step (first | (go_at_call 281; exact aD (qP _ _)) | (go_at_call 119; (first | rw [<- hn] | skip); exact aD (lR _ _))))
    refine wpQuiet_nil ?_
    rintro _ ⟨g, rfl⟩
    go_wp2
    go_ret
    exact ⟨rfl, ((aq _ _).alloc (ar _) _).trans (g.below.mono (by simp))⟩
 ·rw [ho, jy]
  clear ho
  have hlm := HC.out.2.1
  rcases hw with ⟨hp, h2, he, hn, h1, hz⟩ | ⟨hp, h2, h3, he, hn, h1, hz⟩ | ⟨hp, h2, h3, he, h1⟩ | ⟨hp, h2, h3, he, h1, hz⟩
  all_goals
   try (have he2 : x2.toList = [] := gp.1 he)
   try (have he2 : ¬ x2.toList = [] := by intro h; rw [h] at he; exact absurd he (by decide))
   go_enter Tryz.func240, Tryz.ntmps240
   go_upto_region 2 with (fail)
   all_goals
    refine bF (by kernel_rfl) (by kernel_rfl) ?_
    repeat (go_big_quiet_step (first | (go_at_call 281; exact aD (qP _ _)) | (go_at_call 119; (first | rw [<- hn] | skip); exact aD (lR _ _))))
    refine wpQuiet_nil ?_
    rintro _ ⟨g, rfl⟩
    have HG := I (((aq w.heap.size w).alloc (ar _) _).trans (g.below.mono (by simp)))
    clear hp h2 he h1 he2
    try clear hn
    try clear hz
    try clear h3
    go_wp2
    go_loopw [50] (fun i W => ∃ k : Nat, i = .int .i64 k /\ k <= x3.length /\ Aside0 (Below w.heap.size w W) /\ Aside0 (∀ j, j < k -> exB (bO x3 (j : Int)) = af)) (fun i _ => x3.length - (intOf i).toNat)
    case atStart => exact ⟨0, rfl, bi _, HG, ⟨fun j hj => absurd hj (cq _)⟩⟩
    case round =>
     clear HG
     obtain ⟨k, rfl, hk, HB, HK⟩ := hrel
     by_cases hlt : k < x3.length
     ·obtain ⟨ad, A3, c3, e1, q0, q1, q2, q3, l3, g3⟩ := fR HC.out (k : Int) (bc _) (by omega)
      cases e1
      rw [av] at q0 q1 q2 q3
      have b0 := aj w _ q0
      replace q0 := (HB.out.cell b0).trans q0
      replace q1 := (HB.out.cell (aj w _ q1)).trans q1
      replace q2 := (HB.out.cell (aj w _ q2)).trans q2
      replace q3 := (HB.out.cell (aj w _ q3)).trans q3
      have hi1 : (k : Int) < (x3.length : Int) := by omega
      have G3 := I g3
      have L3 := I l3
      clear g3 l3
      have MEM := I (show bO x3 (k : Int) ∈ x3 by unfold bO; rw [av, au, az hlt]; exact ef _)
      have HB2 := I (HB.out.alloc (HB.out.size) (.cells #[ba IntKind.i64 (bO x3 (k : Int)).f0, ba IntKind.u64 (bO x3 (k : Int)).f1, Value.string (bO x3 (k : Int)).f2, Value.slice A3 (bO x3 (k : Int)).f3.length c3] 116))
      have hy := aJ (exB (bO x3 (k : Int)))
      rcases hy with hy | hy
      all_goals
       have HY := I hy
       clear hy
       go_wp2_with fail
       refine (IH.out _ MEM.out A3 c3 _ (Kd.aF G3.out HB2.out) L3.out).mono ?_
       rw [HY.out]
       rintro e w' ⟨rfl, hb⟩
       have HB3 := I (HB2.out.trans (hb.mono (HB2.out.size)))
       clear hb
       go_wp2
      ·refine ⟨⟨k + 1, by go_num, by omega, HB3, ⟨fun j hj => ?_⟩⟩, by simp [intOf]; omega⟩
       by_cases hj2 : j = k
       ·rw [hj2]; exact HY.out
       ·exact HK.out j (by omega)
      ·go_ret
       exact ⟨aC (all_has_no MEM.out HY.out), HB3.out⟩
     ·go_wp2
      go_ret
      exact ⟨aC (all_have (fun j hj => HK.out j (by omega))), HB.out⟩
theorem exprForm_calls : ∀ (n : Nat) (x : S116), cd x <= n -> ∀ (A : Option Addr) (c : Nat) (w : World), cQ.C w A x.f3.length x.f3 -> x.f3.length <= c -> Calls ak 240 #[.agg #[.int .i64 x.f0, .int .u64 x.f1, .string x.f2, .slice A x.f3.length c]] w fun e w' => e = .returned (.bool (exB x)) /\ Below w.heap.size w w' := by
 intro n
 induction n with
 | zero => intro x h; obtain ⟨a, b, c, l⟩ := x; simp at h
 | succ n ih =>
   intro x h A c w hc hl
   rw [exB_eq]
   refine exprForm_walk x A c w hc hl fun y hy A' c' w' hc' hl' => ih y ?_ A' c' w' hc' hl'
   have := eu hy
   obtain ⟨a, b, c, l⟩ := x
   simp at h this
   omega
end
section
attribute [local go_sem] G.cell
abbrev gw {w : World} (_ : G w) : World := w
set_option maxRecDepth 100000 in
theorem oJ (x : S116) (A : Option Addr) (c : Nat) (w : World) (hc : cQ.C w A x.f3.length x.f3) (hl : x.f3.length <= c)
 (ih : ∀ y ∈ x.f3, ∀ (A' : Option Addr) (c' : Nat) (w' : World), cQ.C w' A' y.f3.length y.f3 -> y.f3.length <= c' -> Calls ak 243 #[.agg #[.int .i64 y.f0, .int .u64 y.f1, .string y.f2, .slice A' y.f3.length c']] w' fun e w'' => e = .returned (.bool (exB y)) /\ Below w'.heap.size w' w'') :
 Calls ak 243 #[.agg #[.int .i64 x.f0, .int .u64 x.f1, .string x.f2, .slice A x.f3.length c]] w fun e w' => e = .returned (.bool (exOwn x && x.f3.all exB)) /\ Below w.heap.size w w' := by
 have hw := ex_ways (x.f0 == 2) (x.f0 == 3) (x.f0 != 1) (x.f1 != 0) ((x.f3.length : Int) != fJ x.f0) (cM x.f2) x.f2.toList.isEmpty (by simp; omega) (by simp; omega)
 rw [show ((x.f3.length : Int) != fJ x.f0) = (fJ x.f0 != (x.f3.length : Int)) from bne_comm, <- exOwn_eq, show (fJ x.f0 != (x.f3.length : Int)) = ((x.f3.length : Int) != fJ x.f0) from bne_comm] at hw
 have IH := I ih
 have HC := I hc
 clear ih hc
 obtain ⟨x0, x1, x2, x3⟩ := x
 simp only at *
 rcases hw with ⟨hw, ho⟩ | ⟨hw, ho⟩
 ·rw [ho, jb]
  clear ho HC IH
  generalize x3.length = n at *
  rcases hw with ⟨hp, h2⟩ | ⟨hp, h2, h3⟩ | ⟨hp, h2, h3⟩ | ⟨hp, h2, he⟩ | ⟨hp, h2, h3, he⟩ | ⟨hp, h2, h3, he⟩ | ⟨hp, h2, he, hn⟩ | ⟨hp, h2, h3, he, hn⟩ | ⟨hp, h2, he, hn, h1, hz⟩ | ⟨hp, h2, h3, he, hn, h1, hz⟩ | ⟨hp, h2, h3, he, h1, hz⟩
  all_goals
   try (have he2 : x2.toList = [] := gp.1 he)
   try (have he2 : ¬ x2.toList = [] := by intro h; rw [h] at he; exact absurd he (by decide))
   go_enter Tryz.func243, Tryz.ntmps243
   go_upto_region 2 with (fail)
   all_goals
    refine bF (by kernel_rfl) (by kernel_rfl) ?_
    repeat (go_big_quiet_step (first | (go_at_call 282; exact aD (lI _ _)) | (go_at_call 124; (first | rw [<- hn] | skip); exact aD (kB _ _))))
    refine wpQuiet_nil ?_
    rintro _ ⟨g, rfl⟩
    go_wp2
    go_ret
    exact ⟨rfl, ((aq _ _).alloc (ar _) _).trans (g.below.mono (by simp))⟩
 ·rw [ho, jy]
  clear ho
  have hlm := HC.out.2.1
  rcases hw with ⟨hp, h2, he, hn, h1, hz⟩ | ⟨hp, h2, h3, he, hn, h1, hz⟩ | ⟨hp, h2, h3, he, h1⟩ | ⟨hp, h2, h3, he, h1, hz⟩
  all_goals
   try (have he2 : x2.toList = [] := gp.1 he)
   try (have he2 : ¬ x2.toList = [] := by intro h; rw [h] at he; exact absurd he (by decide))
   go_enter Tryz.func243, Tryz.ntmps243
   go_upto_region 2 with (fail)
   all_goals
    refine bF (by kernel_rfl) (by kernel_rfl) ?_
    repeat (go_big_quiet_step (first | (go_at_call 282; exact aD (lI _ _)) | (go_at_call 124; (first | rw [<- hn] | skip); exact aD (kB _ _))))
    refine wpQuiet_nil ?_
    rintro _ ⟨g, rfl⟩
    clear hp h2 he h1 he2
    try clear hn
    try clear hz
    try clear h3
    have gout := @gA w
    go_wp2
    go_loopw [4] (fun i W => ∃ (k : Nat) (g' : G (gw g)), i = .int .i64 k /\ W = g'.W /\ k <= x3.length /\ Aside0 (∀ j, j < k -> exB (bO x3 (j : Int)) = af)) (fun i _ => x3.length - (intOf i).toNat)
    case atStart => exact ⟨0, g, rfl, rfl, bi _, ⟨fun j hj => absurd hj (cq _)⟩⟩
    case round =>
     obtain ⟨k, g', rfl, rfl, hk, HK⟩ := hrel
     by_cases hlt : k < x3.length
     ·obtain ⟨ad, A3, c3, e1, q0, q1, q2, q3, l3, g3⟩ := fR HC.out (k : Int) (bc _) (by omega)
      cases e1
      rw [av] at q0 q1 q2 q3
      replace q0 := ((gout g').cell (aj w _ q0)).trans q0
      replace q1 := ((gout g').cell (aj w _ q1)).trans q1
      replace q2 := ((gout g').cell (aj w _ q2)).trans q2
      replace q3 := ((gout g').cell (aj w _ q3)).trans q3
      have hi1 : (k : Int) < (x3.length : Int) := by omega
      have G3 := I g3
      have L3 := I l3
      clear g3 l3
      have MEM := I (show bO x3 (k : Int) ∈ x3 by unfold bO; rw [av, au, az hlt]; exact ef _)
      have hy := aJ (exB (bO x3 (k : Int)))
      rcases hy with hy | hy
      all_goals
       have HY := I hy
       clear hy
       go_wp2_with fail
       refine (aD (IH.out _ MEM.out A3 c3 _ (Kd.aF G3.out (gout _)) L3.out)).mono ?_
       rw [HY.out]
       rintro _ _ ⟨rfl, gg, rfl⟩
       go_wp2
      ·refine ⟨⟨k + 1, gg, by go_num, rfl, by omega, ⟨fun j hj => ?_⟩⟩, by simp [intOf]; omega⟩
       by_cases hj2 : j = k
       ·rw [hj2]; exact HY.out
       ·exact HK.out j (by omega)
      ·go_ret
       exact ⟨aC (all_has_no MEM.out HY.out), gout _⟩
     ·go_wp2
      go_ret
      exact ⟨aC (all_have (fun j hj => HK.out j (by omega))), gout _⟩
theorem nH : ∀ (n : Nat) (x : S116), cd x <= n -> ∀ (A : Option Addr) (c : Nat) (w : World), cQ.C w A x.f3.length x.f3 -> x.f3.length <= c -> Calls ak 243 #[.agg #[.int .i64 x.f0, .int .u64 x.f1, .string x.f2, .slice A x.f3.length c]] w fun e w' => e = .returned (.bool (exB x)) /\ Below w.heap.size w w' := by
 intro n
 induction n with
 | zero => intro x h; obtain ⟨a, b, c, l⟩ := x; simp at h
 | succ n ih =>
   intro x h A c w hc hl
   rw [exB_eq]
   refine oJ x A c w hc hl fun y hy A' c' w' hc' hl' => ih y ?_ A' c' w' hc' hl'
   have := eu hy
   obtain ⟨a, b, c, l⟩ := x
   simp at h this
   omega
end
def aX (x : S119) : Bool := decide (1 <= x.f0) && decide (x.f0 <= 5) && (if x.f0 = 3 then x.f1.toList.isEmpty else cM x.f1) && (if x.f0 = 2 then exB x.f2 else jG x.f2) && (if x.f0 <= 3 then exB x.f3 else jG x.f3) && (if x.f0 = 4 then af else x.f4 == 0 && x.f5 == 0) && (if x.f0 = 3 \/ x.f0 = 4 then af else x.f6.isEmpty) && (if x.f0 = 3 then af else x.f7.isEmpty)
mutual
def stB : S119 -> Bool
 | ⟨a, b, c, d, e, f, g, h⟩ => aX ⟨a, b, c, d, e, f, g, h⟩ && bdB g && bdB h
def bdB : List S119 -> Bool
 | [] => af
 | x :: r => stB x && bdB r
end
theorem kQ (l : List S119) : bdB l = l.all stB := by
 induction l with
 | nil => rfl
 | cons x r ih => rw [bdB, ih, List.all_cons]
theorem nT (x : S119) : stB x = (aX x && bdB x.f6 && bdB x.f7) := by
 obtain ⟨a, b, c, d, e, f, g, h⟩ := x
 rw [stB]
theorem j6 {s : ByteArray} (h : s.toList = []) : cM s = J := by
 have h2 : s.size = 0 := by rw [Lib.toList_data, Array.toList_eq_nil_iff] at h; show s.data.size = 0; rw [h]; rfl
 unfold cM nmB
 rw [h2]; rfl
def jV (f : FuncId) (l : List S119) : Prop := ∀ (A : Option Addr) (c : Nat) (w' : World), dC.C w' A l.length l -> l.length <= c -> Calls ak f #[.slice A l.length c] w' fun e w'' => e = .returned (.bool (bdB l)) /\ Below w'.heap.size w' w''
theorem bE {P : Program} {c : Code} {Q : Exit -> Act -> World -> Prop} {a : Act} {w : World} (h : ∀ g : G w, c.wp P Q a g.W) : c.wp P Q a w := h ⟨w, aq _ _⟩
theorem fW {s : ByteArray} {v : Bool} (h : cM s = v) (w : World) : Calls ak 119 #[.string s] w fun e w' => e = .returned (.bool v) /\ Below w.heap.size w w' := h ▸ lR s w
theorem dM {s : ByteArray} {v : Bool} (h : cM s = v) (w : World) : Calls ak 124 #[.string s] w fun e w' => e = .returned (.bool v) /\ Below w.heap.size w w' := h ▸ kB s w
theorem kF {x : S116} {v : Bool} (h : jG x = v) (A : Option Addr) (c : Nat) (w : World) (hc : cQ.C w A x.f3.length x.f3) (hl : x.f3.length <= c) : Calls ak 241 #[.agg #[.int .i64 x.f0, .int .u64 x.f1, .string x.f2, .slice A x.f3.length c]] w fun e w' => e = .returned (.bool v) /\ Below w.heap.size w w' := h ▸ none_calls x A c w hc hl
theorem eJ {x : S116} {v : Bool} (h : jG x = v) (A : Option Addr) (c : Nat) (w : World) (hc : cQ.C w A x.f3.length x.f3) (hl : x.f3.length <= c) : Calls ak 244 #[.agg #[.int .i64 x.f0, .int .u64 x.f1, .string x.f2, .slice A x.f3.length c]] w fun e w' => e = .returned (.bool v) /\ Below w.heap.size w w' := h ▸ refNone_calls x A c w hc hl
theorem fI {x : S116} {v : Bool} (h : exB x = v) (A : Option Addr) (c : Nat) (w : World) (hc : cQ.C w A x.f3.length x.f3) (hl : x.f3.length <= c) : Calls ak 240 #[.agg #[.int .i64 x.f0, .int .u64 x.f1, .string x.f2, .slice A x.f3.length c]] w fun e w' => e = .returned (.bool v) /\ Below w.heap.size w w' := h ▸ exprForm_calls _ x (ar _) A c w hc hl
theorem dL {x : S116} {v : Bool} (h : exB x = v) (A : Option Addr) (c : Nat) (w : World) (hc : cQ.C w A x.f3.length x.f3) (hl : x.f3.length <= c) : Calls ak 243 #[.agg #[.int .i64 x.f0, .int .u64 x.f1, .string x.f2, .slice A x.f3.length c]] w fun e w' => e = .returned (.bool v) /\ Below w.heap.size w w' := h ▸ nH _ x (ar _) A c w hc hl
theorem cH {f : FuncId} {l : List S119} (hb : jV f l) {v : Bool} (h : bdB l = v) (A : Option Addr) (c : Nat) (w' : World) (hc : dC.C w' A l.length l) (hl : l.length <= c) : Calls ak f #[.slice A l.length c] w' fun e w'' => e = .returned (.bool v) /\ Below w'.heap.size w' w'' := h ▸ hb A c w' hc hl
section
attribute [local go_sem] G.cell
def StmtC (f : FuncId) (x : S119) : Prop := ∀ (A5 : Option Addr) (c5 : Nat) (A9 : Option Addr) (c9 : Nat) (A12 : Option Addr) (c12 : Nat) (A13 : Option Addr) (c13 : Nat) (w : World),
 x.f2.f3.length <= c5 -> cQ.C w A5 x.f2.f3.length x.f2.f3 -> x.f3.f3.length <= c9 -> cQ.C w A9 x.f3.f3.length x.f3.f3 -> x.f6.length <= c12 -> dC.C w A12 x.f6.length x.f6 -> x.f7.length <= c13 -> dC.C w A13 x.f7.length x.f7 ->
 Calls ak f #[.agg #[.int .i64 x.f0, .string x.f1, .int .i64 x.f2.f0, .int .u64 x.f2.f1, .string x.f2.f2, .slice A5 x.f2.f3.length c5, .int .i64 x.f3.f0, .int .u64 x.f3.f1, .string x.f3.f2, .slice A9 x.f3.f3.length c9, .int .u64 x.f4, .int .u64 x.f5, .slice A12 x.f6.length c12, .slice A13 x.f7.length c13]] w fun e w' => e = .returned (.bool (stB x)) /\ Below w.heap.size w w'
theorem mQ {l : List S119} {y : S119} (h : y ∈ l) (hn : stB y = J) : J = l.all stB := by
 symm
 rw [List.all_eq_false]
 exact ⟨y, h, by rw [hn]; decide⟩
theorem qM {l : List S119} (h : ∀ j, j < l.length -> stB (aQ l (j : Int)) = af) : af = l.all stB := by
 symm
 rw [dz]
 intro y hy
 obtain ⟨j, hj, rfl⟩ := fz hy
 have := h j hj
 unfold aQ at this
 rwa [av, au, az hj] at this
theorem mH {l : List S119} {k : Nat} (hlt : k < l.length) : aQ l (k : Int) ∈ l := by
 unfold aQ; rw [av, au, az hlt]; exact ef _
theorem G.ball {w : World} (g : G w) (o : Obj) : Below w.heap.size w (g.W.alloc o) := g.below.alloc g.below.size o
theorem cN {P : Program} {f : FuncId} {args : Array Value} {w : World} {g : G w} {o : Obj} {v : Value} (h : Calls P f args (g.W.alloc o) fun e w' => e = .returned v /\ Below (g.W.alloc o).heap.size (g.W.alloc o) w') :
 Calls P f args (g.W.alloc o) fun e w'' => e = .returned v /\ ∃ g' : G w, w'' = g'.W :=
 h.mono fun _ w' ⟨he, hb⟩ => ⟨he, ⟨⟨w', (G.ball g o).trans (hb.mono (G.ball g o).size)⟩, rfl⟩⟩
set_option maxRecDepth 100000 in
theorem mS (l : List S119) (A : Option Addr) (c : Nat) (w : World) (hc : dC.C w A l.length l) (hl : l.length <= c) (ih : ∀ x ∈ l, StmtC 168 x) :
 Calls ak 121 #[.slice A l.length c] w fun e w' => e = .returned (.bool (l.all stB)) /\ Below w.heap.size w w' := by
 have IH := I ih
 have HC := I hc
 have hlm := hc.2.1
 clear ih hc
 go_enter Tryz.func121, Tryz.ntmps121
 go_wp2
 go_loopw [7] (fun i W => ∃ (k : Nat) (g : G w), i = .int .i64 k /\ W = g.W /\ k <= l.length /\ Aside0 (∀ j, j < k -> stB (aQ l (j : Int)) = af)) (fun i _ => l.length - (intOf i).toNat)
 case atStart => exact ⟨0, ⟨w, aq _ _⟩, rfl, rfl, bi _, ⟨fun j hj => absurd hj (cq _)⟩⟩
 case round =>
  obtain ⟨k, g, rfl, rfl, hk, HK⟩ := hrel
  by_cases hlt : k < l.length
  ·obtain ⟨ad, A5, c5, A9, c9, A12, c12, A13, c13, e1, q0, q1, q2, q3, q4, q5, q6, q7, q8, q9, q10, q11, q12, q13, l5, g5, l9, g9, l12, g12, l13, g13⟩ := gV HC.out (k : Int) (bc _) (by omega)
   cases e1
   rw [av] at q0 q1 q2 q3 q4 q5 q6 q7 q8 q9 q10 q11 q12 q13
   replace q0 := (g.below.cell (aj w _ q0)).trans q0
   replace q1 := (g.below.cell (aj w _ q1)).trans q1
   replace q2 := (g.below.cell (aj w _ q2)).trans q2
   replace q3 := (g.below.cell (aj w _ q3)).trans q3
   replace q4 := (g.below.cell (aj w _ q4)).trans q4
   replace q5 := (g.below.cell (aj w _ q5)).trans q5
   replace q6 := (g.below.cell (aj w _ q6)).trans q6
   replace q7 := (g.below.cell (aj w _ q7)).trans q7
   replace q8 := (g.below.cell (aj w _ q8)).trans q8
   replace q9 := (g.below.cell (aj w _ q9)).trans q9
   replace q10 := (g.below.cell (aj w _ q10)).trans q10
   replace q11 := (g.below.cell (aj w _ q11)).trans q11
   replace q12 := (g.below.cell (aj w _ q12)).trans q12
   replace q13 := (g.below.cell (aj w _ q13)).trans q13
   have hi1 : (k : Int) < (l.length : Int) := by omega
   have K := I (ae l5 (ae g5 (ae l9 (ae g9 (ae l12 (ae g12 (ae l13 g13)))))))
   clear l5 g5 l9 g9 l12 g12 l13 g13
   have MEM := I (mH hlt)
   rcases aJ (stB (aQ l (k : Int))) with hy | hy
   all_goals
    have HY := I hy
    clear hy
    go_wp2_with fail
    refine (cN (IH.out _ MEM.out A5 c5 A9 c9 A12 c12 A13 c13 _ K.out.1 (Kd.aF K.out.2.1 (G.ball g _)) K.out.2.2.1 (Kd.aF K.out.2.2.2.1 (G.ball g _)) K.out.2.2.2.2.1 (Kd.aF K.out.2.2.2.2.2.1 (G.ball g _)) K.out.2.2.2.2.2.2.1 (Kd.aF K.out.2.2.2.2.2.2.2 (G.ball g _)))).mono ?_
    rw [HY.out]
    rintro _ _ ⟨rfl, gg, rfl⟩
    go_wp2
   ·refine ⟨⟨k + 1, gg, by go_num, rfl, by omega, ⟨fun j hj => ?_⟩⟩, by simp [intOf]; omega⟩
    by_cases hj2 : j = k
    ·rw [hj2]; exact HY.out
    ·exact HK.out j (by omega)
   ·go_ret
    exact ⟨aC (mQ MEM.out HY.out), gg.below⟩
  ·go_wp2
   go_ret
   exact ⟨aC (qM (fun j hj => HK.out j (by omega))), g.below⟩
set_option maxRecDepth 100000 in
theorem lH (l : List S119) (A : Option Addr) (c : Nat) (w : World) (hc : dC.C w A l.length l) (hl : l.length <= c) (ih : ∀ x ∈ l, StmtC 172 x) :
 Calls ak 126 #[.slice A l.length c] w fun e w' => e = .returned (.bool (l.all stB)) /\ Below w.heap.size w w' := by
 have IH := I ih
 have HC := I hc
 have hlm := hc.2.1
 clear ih hc
 go_enter Tryz.func126, Tryz.ntmps126
 go_wp2
 go_loopw [3] (fun i W => ∃ (k : Nat) (g : G w), i = .int .i64 k /\ W = g.W /\ k <= l.length /\ Aside0 (∀ j, j < k -> stB (aQ l (j : Int)) = af)) (fun i _ => l.length - (intOf i).toNat)
 case atStart => exact ⟨0, ⟨w, aq _ _⟩, rfl, rfl, bi _, ⟨fun j hj => absurd hj (cq _)⟩⟩
 case round =>
  obtain ⟨k, g, rfl, rfl, hk, HK⟩ := hrel
  by_cases hlt : k < l.length
  ·obtain ⟨ad, A5, c5, A9, c9, A12, c12, A13, c13, e1, q0, q1, q2, q3, q4, q5, q6, q7, q8, q9, q10, q11, q12, q13, l5, g5, l9, g9, l12, g12, l13, g13⟩ := gV HC.out (k : Int) (bc _) (by omega)
   cases e1
   rw [av] at q0 q1 q2 q3 q4 q5 q6 q7 q8 q9 q10 q11 q12 q13
   replace q0 := (g.below.cell (aj w _ q0)).trans q0
   replace q1 := (g.below.cell (aj w _ q1)).trans q1
   replace q2 := (g.below.cell (aj w _ q2)).trans q2
   replace q3 := (g.below.cell (aj w _ q3)).trans q3
   replace q4 := (g.below.cell (aj w _ q4)).trans q4
   replace q5 := (g.below.cell (aj w _ q5)).trans q5
   replace q6 := (g.below.cell (aj w _ q6)).trans q6
   replace q7 := (g.below.cell (aj w _ q7)).trans q7
   replace q8 := (g.below.cell (aj w _ q8)).trans q8
   replace q9 := (g.below.cell (aj w _ q9)).trans q9
   replace q10 := (g.below.cell (aj w _ q10)).trans q10
   replace q11 := (g.below.cell (aj w _ q11)).trans q11
   replace q12 := (g.below.cell (aj w _ q12)).trans q12
   replace q13 := (g.below.cell (aj w _ q13)).trans q13
   have hi1 : (k : Int) < (l.length : Int) := by omega
   have K := I (ae l5 (ae g5 (ae l9 (ae g9 (ae l12 (ae g12 (ae l13 g13)))))))
   clear l5 g5 l9 g9 l12 g12 l13 g13
   have MEM := I (mH hlt)
   rcases aJ (stB (aQ l (k : Int))) with hy | hy
   all_goals
    have HY := I hy
    clear hy
    go_wp2_with fail
    refine (aD (IH.out _ MEM.out A5 c5 A9 c9 A12 c12 A13 c13 _ K.out.1 (Kd.aF K.out.2.1 g.below) K.out.2.2.1 (Kd.aF K.out.2.2.2.1 g.below) K.out.2.2.2.2.1 (Kd.aF K.out.2.2.2.2.2.1 g.below) K.out.2.2.2.2.2.2.1 (Kd.aF K.out.2.2.2.2.2.2.2 g.below))).mono ?_
    rw [HY.out]
    rintro _ _ ⟨rfl, gg, rfl⟩
    go_wp2
   ·refine ⟨⟨k + 1, gg, by go_num, rfl, by omega, ⟨fun j hj => ?_⟩⟩, by simp [intOf]; omega⟩
    by_cases hj2 : j = k
    ·rw [hj2]; exact HY.out
    ·exact HK.out j (by omega)
   ·go_ret
    exact ⟨aC (mQ MEM.out HY.out), gg.below⟩
  ·go_wp2
   go_ret
   exact ⟨aC (qM (fun j hj => HK.out j (by omega))), g.below⟩
end
section
attribute [local go_sem] G.cell
set_option maxRecDepth 100000 in
theorem stmtForm_klt (a : Int) (h1 : a < 1) (b : ByteArray) (cc d : S116) (e f : Int) (g hh : List S119) {A5 : Option Addr} {c5 : Nat} {A9 : Option Addr} {c9 : Nat} {A12 : Option Addr} {c12 : Nat} {A13 : Option Addr} {c13 : Nat} (w : World)
 (L : Aside0 (cc.f3.length <= c5 /\ d.f3.length <= c9 /\ g.length <= c12 /\ hh.length <= c13)) (H : Aside0 (cQ.C w A5 cc.f3.length cc.f3 /\ cQ.C w A9 d.f3.length d.f3 /\ dC.C w A12 g.length g /\ dC.C w A13 hh.length hh))
 (IH : Aside0 (∀ l, l = g \/ l = hh -> jV 121 l)) :
 Calls ak 168 #[.agg #[.int .i64 a, .string b, .int .i64 cc.f0, .int .u64 cc.f1, .string cc.f2, .slice A5 cc.f3.length c5, .int .i64 d.f0, .int .u64 d.f1, .string d.f2, .slice A9 d.f3.length c9, .int .u64 e, .int .u64 f, .slice A12 g.length c12, .slice A13 hh.length c13]] w fun e' w' => e' = .returned (.bool (aX ⟨a, b, cc, d, e, f, g, hh⟩ && bdB g && bdB hh)) /\ Below w.heap.size w w' := by
 have gout := @gA w
 have h0 : aX ⟨a, b, cc, d, e, f, g, hh⟩ = J := by simp [aX]; omega
 rw [h0]
 have e2 : (a == 2) = J := by simp; omega
 have e3 : (a == 3) = J := by simp; omega
 have e4 : (a == 4) = J := by simp; omega
 clear h0
 go_enter Tryz.func168, Tryz.ntmps168
 go_upto_region 1 with (fail)
 refine bF (by kernel_rfl) (by kernel_rfl) ?_
 repeat go_big_quiet_step (fail)
 refine wpQuiet_nil ?_
 rintro _ ⟨gg, rfl⟩
 go_wp2_with fail
 go_ret
 exact ⟨aC (by simp), gout _⟩
end
section
attribute [local go_sem] G.cell
set_option maxRecDepth 100000 in
theorem stmtForm_kgt (a : Int) (h1 : ¬ a < 1) (h2 : a > 5) (b : ByteArray) (cc d : S116) (e f : Int) (g hh : List S119) {A5 : Option Addr} {c5 : Nat} {A9 : Option Addr} {c9 : Nat} {A12 : Option Addr} {c12 : Nat} {A13 : Option Addr} {c13 : Nat} (w : World)
 (L : Aside0 (cc.f3.length <= c5 /\ d.f3.length <= c9 /\ g.length <= c12 /\ hh.length <= c13)) (H : Aside0 (cQ.C w A5 cc.f3.length cc.f3 /\ cQ.C w A9 d.f3.length d.f3 /\ dC.C w A12 g.length g /\ dC.C w A13 hh.length hh))
 (IH : Aside0 (∀ l, l = g \/ l = hh -> jV 121 l)) :
 Calls ak 168 #[.agg #[.int .i64 a, .string b, .int .i64 cc.f0, .int .u64 cc.f1, .string cc.f2, .slice A5 cc.f3.length c5, .int .i64 d.f0, .int .u64 d.f1, .string d.f2, .slice A9 d.f3.length c9, .int .u64 e, .int .u64 f, .slice A12 g.length c12, .slice A13 hh.length c13]] w fun e' w' => e' = .returned (.bool (aX ⟨a, b, cc, d, e, f, g, hh⟩ && bdB g && bdB hh)) /\ Below w.heap.size w w' := by
 have gout := @gA w
 have h0 : aX ⟨a, b, cc, d, e, f, g, hh⟩ = J := by simp [aX]; omega
 rw [h0]
 have e2 : (a == 2) = J := by simp; omega
 have e3 : (a == 3) = J := by simp; omega
 have e4 : (a == 4) = J := by simp; omega
 clear h0
 go_enter Tryz.func168, Tryz.ntmps168
 go_upto_region 1 with (fail)
 refine bF (by kernel_rfl) (by kernel_rfl) ?_
 repeat go_big_quiet_step (fail)
 refine wpQuiet_nil ?_
 rintro _ ⟨gg, rfl⟩
 go_wp2_with fail
 go_ret
 exact ⟨aC (by simp), gout _⟩
end
section
attribute [local go_sem] G.cell
set_option maxRecDepth 100000 in
theorem stmtForm_k1 (b : ByteArray) (cc d : S116) (e f : Int) (g hh : List S119) {A5 : Option Addr} {c5 : Nat} {A9 : Option Addr} {c9 : Nat} {A12 : Option Addr} {c12 : Nat} {A13 : Option Addr} {c13 : Nat} (w : World)
 (L : Aside0 (cc.f3.length <= c5 /\ d.f3.length <= c9 /\ g.length <= c12 /\ hh.length <= c13)) (H : Aside0 (cQ.C w A5 cc.f3.length cc.f3 /\ cQ.C w A9 d.f3.length d.f3 /\ dC.C w A12 g.length g /\ dC.C w A13 hh.length hh))
 (IH : Aside0 (∀ l, l = g \/ l = hh -> jV 121 l)) :
 Calls ak 168 #[.agg #[.int .i64 1, .string b, .int .i64 cc.f0, .int .u64 cc.f1, .string cc.f2, .slice A5 cc.f3.length c5, .int .i64 d.f0, .int .u64 d.f1, .string d.f2, .slice A9 d.f3.length c9, .int .u64 e, .int .u64 f, .slice A12 g.length c12, .slice A13 hh.length c13]] w fun e' w' => e' = .returned (.bool (aX ⟨1, b, cc, d, e, f, g, hh⟩ && bdB g && bdB hh)) /\ Below w.heap.size w w' := by
 have gout := @gA w
 go_enter Tryz.func168, Tryz.ntmps168
 go_upto_region 1 with (fail)
 refine bF (by kernel_rfl) (by kernel_rfl) ?_
 repeat go_big_quiet_step (fail)
 refine wpQuiet_nil ?_
 rintro _ ⟨gg, rfl⟩
 go_wp2_with fail
 rcases aJ (cM b) with hh8 | hh8
 ·refine (aD (g := gg) (fW hh8 gg.W)).mono ?_
  rintro _ _ ⟨rfl, gg, rfl⟩
  go_wp2_with fail
  rcases aJ (jG cc) with hh7 | hh7
  ·refine (aD (g := gg) (kF hh7 _ _ gg.W (Kd.aF H.out.1 (gout gg)) L.out.1)).mono ?_
   rintro _ _ ⟨rfl, gg, rfl⟩
   go_wp2_with fail
   rcases aJ (exB d) with hh6 | hh6
   ·refine (aD (g := gg) (fI hh6 _ _ gg.W (Kd.aF H.out.2.1 (gout gg)) L.out.2.1)).mono ?_
    rintro _ _ ⟨rfl, gg, rfl⟩
    rcases aJ (e != 0) with hh5 | hh5
    ·have he5 : ¬ e = 0 := by simpa using hh5
     go_wp2_with fail
     go_ret
     exact ⟨aC (by simp [aX, hh8, hh7, hh6, he5]), gout _⟩
    ·have he5 : e = 0 := by simpa using hh5
     rcases aJ (f != 0) with hh4 | hh4
     ·have he4 : ¬ f = 0 := by simpa using hh4
      go_wp2_with fail
      go_ret
      exact ⟨aC (by simp [aX, hh8, hh7, hh6, he5, he4]), gout _⟩
     ·have he4 : f = 0 := by simpa using hh4
      rcases cf g.length with hh3 | hh3
      ·have he3 : g.isEmpty = af := by rw [cg hh3]; rfl
       have hn3 : ¬ 0 < g.length := by omega
       have hm3 : decide (0 < g.length) = J := decide_eq_false hn3
       clear hh3
       rcases cf hh.length with hh2 | hh2
       ·have he2 : hh.isEmpty = af := by rw [cg hh2]; rfl
        have hn2 : ¬ 0 < hh.length := by omega
        have hm2 : decide (0 < hh.length) = J := decide_eq_false hn2
        clear hh2
        go_wp2_with fail
        rcases aJ (bdB g) with hh1 | hh1
        ·refine (aD (g := gg) (cH (IH.out _ (bg rfl)) hh1 _ _ gg.W (Kd.aF H.out.2.2.1 (gout gg)) L.out.2.2.1)).mono ?_
         rintro _ _ ⟨rfl, gg, rfl⟩
         go_wp2_with fail
         rcases aJ (bdB hh) with hh0 | hh0
         ·refine (aD (g := gg) (cH (IH.out _ (Or.inr rfl)) hh0 _ _ gg.W (Kd.aF H.out.2.2.2 (gout gg)) L.out.2.2.2)).mono ?_
          rintro _ _ ⟨rfl, gg, rfl⟩
          go_wp2_with fail
          go_ret
          exact ⟨aC (by simp [aX, hh8, hh7, hh6, he5, he4, he3, he2, hh1, hh0]), gout _⟩
         ·refine (aD (g := gg) (cH (IH.out _ (Or.inr rfl)) hh0 _ _ gg.W (Kd.aF H.out.2.2.2 (gout gg)) L.out.2.2.2)).mono ?_
          rintro _ _ ⟨rfl, gg, rfl⟩
          go_wp2_with fail
          go_ret
          exact ⟨aC (by simp [aX, hh8, hh7, hh6, he5, he4, he3, he2, hh1, hh0]), gout _⟩
        ·refine (aD (g := gg) (cH (IH.out _ (bg rfl)) hh1 _ _ gg.W (Kd.aF H.out.2.2.1 (gout gg)) L.out.2.2.1)).mono ?_
         rintro _ _ ⟨rfl, gg, rfl⟩
         go_wp2_with fail
         go_ret
         exact ⟨aC (by simp [aX, hh8, hh7, hh6, he5, he4, he3, he2, hh1]), gout _⟩
       ·have he2 : hh.isEmpty = J := by rw [db]; rintro rfl; exact absurd hh2 (by simp)
        go_wp2_with fail
        go_ret
        exact ⟨aC (by simp [aX, hh8, hh7, hh6, he5, he4, he3, he2]), gout _⟩
      ·have he3 : g.isEmpty = J := by rw [db]; rintro rfl; exact absurd hh3 (by simp)
       go_wp2_with fail
       go_ret
       exact ⟨aC (by simp [aX, hh8, hh7, hh6, he5, he4, he3]), gout _⟩
   ·refine (aD (g := gg) (fI hh6 _ _ gg.W (Kd.aF H.out.2.1 (gout gg)) L.out.2.1)).mono ?_
    rintro _ _ ⟨rfl, gg, rfl⟩
    go_wp2_with fail
    go_ret
    exact ⟨aC (by simp [aX, hh8, hh7, hh6]), gout _⟩
  ·refine (aD (g := gg) (kF hh7 _ _ gg.W (Kd.aF H.out.1 (gout gg)) L.out.1)).mono ?_
   rintro _ _ ⟨rfl, gg, rfl⟩
   go_wp2_with fail
   go_ret
   exact ⟨aC (by simp [aX, hh8, hh7]), gout _⟩
 ·refine (aD (g := gg) (fW hh8 gg.W)).mono ?_
  rintro _ _ ⟨rfl, gg, rfl⟩
  go_wp2_with fail
  go_ret
  exact ⟨aC (by simp [aX, hh8]), gout _⟩
end
section
attribute [local go_sem] G.cell
set_option maxRecDepth 100000 in
theorem stmtForm_k2 (b : ByteArray) (cc d : S116) (e f : Int) (g hh : List S119) {A5 : Option Addr} {c5 : Nat} {A9 : Option Addr} {c9 : Nat} {A12 : Option Addr} {c12 : Nat} {A13 : Option Addr} {c13 : Nat} (w : World)
 (L : Aside0 (cc.f3.length <= c5 /\ d.f3.length <= c9 /\ g.length <= c12 /\ hh.length <= c13)) (H : Aside0 (cQ.C w A5 cc.f3.length cc.f3 /\ cQ.C w A9 d.f3.length d.f3 /\ dC.C w A12 g.length g /\ dC.C w A13 hh.length hh))
 (IH : Aside0 (∀ l, l = g \/ l = hh -> jV 121 l)) :
 Calls ak 168 #[.agg #[.int .i64 2, .string b, .int .i64 cc.f0, .int .u64 cc.f1, .string cc.f2, .slice A5 cc.f3.length c5, .int .i64 d.f0, .int .u64 d.f1, .string d.f2, .slice A9 d.f3.length c9, .int .u64 e, .int .u64 f, .slice A12 g.length c12, .slice A13 hh.length c13]] w fun e' w' => e' = .returned (.bool (aX ⟨2, b, cc, d, e, f, g, hh⟩ && bdB g && bdB hh)) /\ Below w.heap.size w w' := by
 have gout := @gA w
 go_enter Tryz.func168, Tryz.ntmps168
 go_upto_region 1 with (fail)
 refine bF (by kernel_rfl) (by kernel_rfl) ?_
 repeat go_big_quiet_step (fail)
 refine wpQuiet_nil ?_
 rintro _ ⟨gg, rfl⟩
 go_wp2_with fail
 rcases aJ (cM b) with hh8 | hh8
 ·refine (aD (g := gg) (fW hh8 gg.W)).mono ?_
  rintro _ _ ⟨rfl, gg, rfl⟩
  go_wp2_with fail
  rcases aJ (exB cc) with hh7 | hh7
  ·refine (aD (g := gg) (fI hh7 _ _ gg.W (Kd.aF H.out.1 (gout gg)) L.out.1)).mono ?_
   rintro _ _ ⟨rfl, gg, rfl⟩
   go_wp2_with fail
   rcases aJ (exB d) with hh6 | hh6
   ·refine (aD (g := gg) (fI hh6 _ _ gg.W (Kd.aF H.out.2.1 (gout gg)) L.out.2.1)).mono ?_
    rintro _ _ ⟨rfl, gg, rfl⟩
    rcases aJ (e != 0) with hh5 | hh5
    ·have he5 : ¬ e = 0 := by simpa using hh5
     go_wp2_with fail
     go_ret
     exact ⟨aC (by simp [aX, hh8, hh7, hh6, he5]), gout _⟩
    ·have he5 : e = 0 := by simpa using hh5
     rcases aJ (f != 0) with hh4 | hh4
     ·have he4 : ¬ f = 0 := by simpa using hh4
      go_wp2_with fail
      go_ret
      exact ⟨aC (by simp [aX, hh8, hh7, hh6, he5, he4]), gout _⟩
     ·have he4 : f = 0 := by simpa using hh4
      rcases cf g.length with hh3 | hh3
      ·have he3 : g.isEmpty = af := by rw [cg hh3]; rfl
       have hn3 : ¬ 0 < g.length := by omega
       have hm3 : decide (0 < g.length) = J := decide_eq_false hn3
       clear hh3
       rcases cf hh.length with hh2 | hh2
       ·have he2 : hh.isEmpty = af := by rw [cg hh2]; rfl
        have hn2 : ¬ 0 < hh.length := by omega
        have hm2 : decide (0 < hh.length) = J := decide_eq_false hn2
        clear hh2
        go_wp2_with fail
        rcases aJ (bdB g) with hh1 | hh1
        ·refine (aD (g := gg) (cH (IH.out _ (bg rfl)) hh1 _ _ gg.W (Kd.aF H.out.2.2.1 (gout gg)) L.out.2.2.1)).mono ?_
         rintro _ _ ⟨rfl, gg, rfl⟩
         go_wp2_with fail
         rcases aJ (bdB hh) with hh0 | hh0
         ·refine (aD (g := gg) (cH (IH.out _ (Or.inr rfl)) hh0 _ _ gg.W (Kd.aF H.out.2.2.2 (gout gg)) L.out.2.2.2)).mono ?_
          rintro _ _ ⟨rfl, gg, rfl⟩
          go_wp2_with fail
          go_ret
          exact ⟨aC (by simp [aX, hh8, hh7, hh6, he5, he4, he3, he2, hh1, hh0]), gout _⟩
         ·refine (aD (g := gg) (cH (IH.out _ (Or.inr rfl)) hh0 _ _ gg.W (Kd.aF H.out.2.2.2 (gout gg)) L.out.2.2.2)).mono ?_
          rintro _ _ ⟨rfl, gg, rfl⟩
          go_wp2_with fail
          go_ret
          exact ⟨aC (by simp [aX, hh8, hh7, hh6, he5, he4, he3, he2, hh1, hh0]), gout _⟩
        ·refine (aD (g := gg) (cH (IH.out _ (bg rfl)) hh1 _ _ gg.W (Kd.aF H.out.2.2.1 (gout gg)) L.out.2.2.1)).mono ?_
         rintro _ _ ⟨rfl, gg, rfl⟩
         go_wp2_with fail
         go_ret
         exact ⟨aC (by simp [aX, hh8, hh7, hh6, he5, he4, he3, he2, hh1]), gout _⟩
       ·have he2 : hh.isEmpty = J := by rw [db]; rintro rfl; exact absurd hh2 (by simp)
        go_wp2_with fail
        go_ret
        exact ⟨aC (by simp [aX, hh8, hh7, hh6, he5, he4, he3, he2]), gout _⟩
      ·have he3 : g.isEmpty = J := by rw [db]; rintro rfl; exact absurd hh3 (by simp)
       go_wp2_with fail
       go_ret
       exact ⟨aC (by simp [aX, hh8, hh7, hh6, he5, he4, he3]), gout _⟩
   ·refine (aD (g := gg) (fI hh6 _ _ gg.W (Kd.aF H.out.2.1 (gout gg)) L.out.2.1)).mono ?_
    rintro _ _ ⟨rfl, gg, rfl⟩
    go_wp2_with fail
    go_ret
    exact ⟨aC (by simp [aX, hh8, hh7, hh6]), gout _⟩
  ·refine (aD (g := gg) (fI hh7 _ _ gg.W (Kd.aF H.out.1 (gout gg)) L.out.1)).mono ?_
   rintro _ _ ⟨rfl, gg, rfl⟩
   go_wp2_with fail
   go_ret
   exact ⟨aC (by simp [aX, hh8, hh7]), gout _⟩
 ·refine (aD (g := gg) (fW hh8 gg.W)).mono ?_
  rintro _ _ ⟨rfl, gg, rfl⟩
  go_wp2_with fail
  go_ret
  exact ⟨aC (by simp [aX, hh8]), gout _⟩
end
section
attribute [local go_sem] G.cell
set_option maxRecDepth 100000 in
theorem stmtForm_k3 (b : ByteArray) (cc d : S116) (e f : Int) (g hh : List S119) {A5 : Option Addr} {c5 : Nat} {A9 : Option Addr} {c9 : Nat} {A12 : Option Addr} {c12 : Nat} {A13 : Option Addr} {c13 : Nat} (w : World)
 (L : Aside0 (cc.f3.length <= c5 /\ d.f3.length <= c9 /\ g.length <= c12 /\ hh.length <= c13)) (H : Aside0 (cQ.C w A5 cc.f3.length cc.f3 /\ cQ.C w A9 d.f3.length d.f3 /\ dC.C w A12 g.length g /\ dC.C w A13 hh.length hh))
 (IH : Aside0 (∀ l, l = g \/ l = hh -> jV 121 l)) :
 Calls ak 168 #[.agg #[.int .i64 3, .string b, .int .i64 cc.f0, .int .u64 cc.f1, .string cc.f2, .slice A5 cc.f3.length c5, .int .i64 d.f0, .int .u64 d.f1, .string d.f2, .slice A9 d.f3.length c9, .int .u64 e, .int .u64 f, .slice A12 g.length c12, .slice A13 hh.length c13]] w fun e' w' => e' = .returned (.bool (aX ⟨3, b, cc, d, e, f, g, hh⟩ && bdB g && bdB hh)) /\ Below w.heap.size w w' := by
 have gout := @gA w
 go_enter Tryz.func168, Tryz.ntmps168
 go_upto_region 1 with (fail)
 refine bF (by kernel_rfl) (by kernel_rfl) ?_
 repeat go_big_quiet_step (fail)
 refine wpQuiet_nil ?_
 rintro _ ⟨gg, rfl⟩
 rcases aJ b.toList.isEmpty with hh6 | hh6
 ·have he6 : b.toList = [] := by exact gp.1 hh6
  go_wp2_with fail
  rcases aJ (jG cc) with hh5 | hh5
  ·refine (aD (g := gg) (kF hh5 _ _ gg.W (Kd.aF H.out.1 (gout gg)) L.out.1)).mono ?_
   rintro _ _ ⟨rfl, gg, rfl⟩
   go_wp2_with fail
   rcases aJ (exB d) with hh4 | hh4
   ·refine (aD (g := gg) (fI hh4 _ _ gg.W (Kd.aF H.out.2.1 (gout gg)) L.out.2.1)).mono ?_
    rintro _ _ ⟨rfl, gg, rfl⟩
    rcases aJ (e != 0) with hh3 | hh3
    ·have he3 : ¬ e = 0 := by simpa using hh3
     go_wp2_with fail
     go_ret
     exact ⟨aC (by simp [aX, hh6, hh5, hh4, he3]), gout _⟩
    ·have he3 : e = 0 := by simpa using hh3
     rcases aJ (f != 0) with hh2 | hh2
     ·have he2 : ¬ f = 0 := by simpa using hh2
      go_wp2_with fail
      go_ret
      exact ⟨aC (by simp [aX, hh6, hh5, hh4, he3, he2]), gout _⟩
     ·have he2 : f = 0 := by simpa using hh2
      go_wp2_with fail
      rcases aJ (bdB g) with hh1 | hh1
      ·refine (aD (g := gg) (cH (IH.out _ (bg rfl)) hh1 _ _ gg.W (Kd.aF H.out.2.2.1 (gout gg)) L.out.2.2.1)).mono ?_
       rintro _ _ ⟨rfl, gg, rfl⟩
       go_wp2_with fail
       rcases aJ (bdB hh) with hh0 | hh0
       ·refine (aD (g := gg) (cH (IH.out _ (Or.inr rfl)) hh0 _ _ gg.W (Kd.aF H.out.2.2.2 (gout gg)) L.out.2.2.2)).mono ?_
        rintro _ _ ⟨rfl, gg, rfl⟩
        go_wp2_with fail
        go_ret
        exact ⟨aC (by simp [aX, hh6, hh5, hh4, he3, he2, hh1, hh0]), gout _⟩
       ·refine (aD (g := gg) (cH (IH.out _ (Or.inr rfl)) hh0 _ _ gg.W (Kd.aF H.out.2.2.2 (gout gg)) L.out.2.2.2)).mono ?_
        rintro _ _ ⟨rfl, gg, rfl⟩
        go_wp2_with fail
        go_ret
        exact ⟨aC (by simp [aX, hh6, hh5, hh4, he3, he2, hh1, hh0]), gout _⟩
      ·refine (aD (g := gg) (cH (IH.out _ (bg rfl)) hh1 _ _ gg.W (Kd.aF H.out.2.2.1 (gout gg)) L.out.2.2.1)).mono ?_
       rintro _ _ ⟨rfl, gg, rfl⟩
       go_wp2_with fail
       go_ret
       exact ⟨aC (by simp [aX, hh6, hh5, hh4, he3, he2, hh1]), gout _⟩
   ·refine (aD (g := gg) (fI hh4 _ _ gg.W (Kd.aF H.out.2.1 (gout gg)) L.out.2.1)).mono ?_
    rintro _ _ ⟨rfl, gg, rfl⟩
    go_wp2_with fail
    go_ret
    exact ⟨aC (by simp [aX, hh6, hh5, hh4]), gout _⟩
  ·refine (aD (g := gg) (kF hh5 _ _ gg.W (Kd.aF H.out.1 (gout gg)) L.out.1)).mono ?_
   rintro _ _ ⟨rfl, gg, rfl⟩
   go_wp2_with fail
   go_ret
   exact ⟨aC (by simp [aX, hh6, hh5]), gout _⟩
 ·have he6 : ¬ b.toList = [] := by intro h; rw [h] at hh6; exact absurd hh6 (by decide)
  go_wp2_with fail
  go_ret
  exact ⟨aC (by simp [aX, hh6]), gout _⟩
end
section
attribute [local go_sem] G.cell
set_option maxRecDepth 100000 in
theorem stmtForm_k4 (b : ByteArray) (cc d : S116) (e f : Int) (g hh : List S119) {A5 : Option Addr} {c5 : Nat} {A9 : Option Addr} {c9 : Nat} {A12 : Option Addr} {c12 : Nat} {A13 : Option Addr} {c13 : Nat} (w : World)
 (L : Aside0 (cc.f3.length <= c5 /\ d.f3.length <= c9 /\ g.length <= c12 /\ hh.length <= c13)) (H : Aside0 (cQ.C w A5 cc.f3.length cc.f3 /\ cQ.C w A9 d.f3.length d.f3 /\ dC.C w A12 g.length g /\ dC.C w A13 hh.length hh))
 (IH : Aside0 (∀ l, l = g \/ l = hh -> jV 121 l)) :
 Calls ak 168 #[.agg #[.int .i64 4, .string b, .int .i64 cc.f0, .int .u64 cc.f1, .string cc.f2, .slice A5 cc.f3.length c5, .int .i64 d.f0, .int .u64 d.f1, .string d.f2, .slice A9 d.f3.length c9, .int .u64 e, .int .u64 f, .slice A12 g.length c12, .slice A13 hh.length c13]] w fun e' w' => e' = .returned (.bool (aX ⟨4, b, cc, d, e, f, g, hh⟩ && bdB g && bdB hh)) /\ Below w.heap.size w w' := by
 have gout := @gA w
 go_enter Tryz.func168, Tryz.ntmps168
 go_upto_region 1 with (fail)
 refine bF (by kernel_rfl) (by kernel_rfl) ?_
 repeat go_big_quiet_step (fail)
 refine wpQuiet_nil ?_
 rintro _ ⟨gg, rfl⟩
 go_wp2_with fail
 rcases aJ (cM b) with hh5 | hh5
 ·refine (aD (g := gg) (fW hh5 gg.W)).mono ?_
  rintro _ _ ⟨rfl, gg, rfl⟩
  go_wp2_with fail
  rcases aJ (jG cc) with hh4 | hh4
  ·refine (aD (g := gg) (kF hh4 _ _ gg.W (Kd.aF H.out.1 (gout gg)) L.out.1)).mono ?_
   rintro _ _ ⟨rfl, gg, rfl⟩
   go_wp2_with fail
   rcases aJ (jG d) with hh3 | hh3
   ·refine (aD (g := gg) (kF hh3 _ _ gg.W (Kd.aF H.out.2.1 (gout gg)) L.out.2.1)).mono ?_
    rintro _ _ ⟨rfl, gg, rfl⟩
    rcases cf hh.length with hh2 | hh2
    ·have he2 : hh.isEmpty = af := by rw [cg hh2]; rfl
     have hn2 : ¬ 0 < hh.length := by omega
     have hm2 : decide (0 < hh.length) = J := decide_eq_false hn2
     clear hh2
     go_wp2_with fail
     rcases aJ (bdB g) with hh1 | hh1
     ·refine (aD (g := gg) (cH (IH.out _ (bg rfl)) hh1 _ _ gg.W (Kd.aF H.out.2.2.1 (gout gg)) L.out.2.2.1)).mono ?_
      rintro _ _ ⟨rfl, gg, rfl⟩
      go_wp2_with fail
      rcases aJ (bdB hh) with hh0 | hh0
      ·refine (aD (g := gg) (cH (IH.out _ (Or.inr rfl)) hh0 _ _ gg.W (Kd.aF H.out.2.2.2 (gout gg)) L.out.2.2.2)).mono ?_
       rintro _ _ ⟨rfl, gg, rfl⟩
       go_wp2_with fail
       go_ret
       exact ⟨aC (by simp [aX, hh5, hh4, hh3, he2, hh1, hh0]), gout _⟩
      ·refine (aD (g := gg) (cH (IH.out _ (Or.inr rfl)) hh0 _ _ gg.W (Kd.aF H.out.2.2.2 (gout gg)) L.out.2.2.2)).mono ?_
       rintro _ _ ⟨rfl, gg, rfl⟩
       go_wp2_with fail
       go_ret
       exact ⟨aC (by simp [aX, hh5, hh4, hh3, he2, hh1, hh0]), gout _⟩
     ·refine (aD (g := gg) (cH (IH.out _ (bg rfl)) hh1 _ _ gg.W (Kd.aF H.out.2.2.1 (gout gg)) L.out.2.2.1)).mono ?_
      rintro _ _ ⟨rfl, gg, rfl⟩
      go_wp2_with fail
      go_ret
      exact ⟨aC (by simp [aX, hh5, hh4, hh3, he2, hh1]), gout _⟩
    ·have he2 : hh.isEmpty = J := by rw [db]; rintro rfl; exact absurd hh2 (by simp)
     go_wp2_with fail
     go_ret
     exact ⟨aC (by simp [aX, hh5, hh4, hh3, he2]), gout _⟩
   ·refine (aD (g := gg) (kF hh3 _ _ gg.W (Kd.aF H.out.2.1 (gout gg)) L.out.2.1)).mono ?_
    rintro _ _ ⟨rfl, gg, rfl⟩
    go_wp2_with fail
    go_ret
    exact ⟨aC (by simp [aX, hh5, hh4, hh3]), gout _⟩
  ·refine (aD (g := gg) (kF hh4 _ _ gg.W (Kd.aF H.out.1 (gout gg)) L.out.1)).mono ?_
   rintro _ _ ⟨rfl, gg, rfl⟩
   go_wp2_with fail
   go_ret
   exact ⟨aC (by simp [aX, hh5, hh4]), gout _⟩
 ·refine (aD (g := gg) (fW hh5 gg.W)).mono ?_
  rintro _ _ ⟨rfl, gg, rfl⟩
  go_wp2_with fail
  go_ret
  exact ⟨aC (by simp [aX, hh5]), gout _⟩
end
section
attribute [local go_sem] G.cell
set_option maxRecDepth 100000 in
theorem stmtForm_k5 (b : ByteArray) (cc d : S116) (e f : Int) (g hh : List S119) {A5 : Option Addr} {c5 : Nat} {A9 : Option Addr} {c9 : Nat} {A12 : Option Addr} {c12 : Nat} {A13 : Option Addr} {c13 : Nat} (w : World)
 (L : Aside0 (cc.f3.length <= c5 /\ d.f3.length <= c9 /\ g.length <= c12 /\ hh.length <= c13)) (H : Aside0 (cQ.C w A5 cc.f3.length cc.f3 /\ cQ.C w A9 d.f3.length d.f3 /\ dC.C w A12 g.length g /\ dC.C w A13 hh.length hh))
 (IH : Aside0 (∀ l, l = g \/ l = hh -> jV 121 l)) :
 Calls ak 168 #[.agg #[.int .i64 5, .string b, .int .i64 cc.f0, .int .u64 cc.f1, .string cc.f2, .slice A5 cc.f3.length c5, .int .i64 d.f0, .int .u64 d.f1, .string d.f2, .slice A9 d.f3.length c9, .int .u64 e, .int .u64 f, .slice A12 g.length c12, .slice A13 hh.length c13]] w fun e' w' => e' = .returned (.bool (aX ⟨5, b, cc, d, e, f, g, hh⟩ && bdB g && bdB hh)) /\ Below w.heap.size w w' := by
 have gout := @gA w
 go_enter Tryz.func168, Tryz.ntmps168
 go_upto_region 1 with (fail)
 refine bF (by kernel_rfl) (by kernel_rfl) ?_
 repeat go_big_quiet_step (fail)
 refine wpQuiet_nil ?_
 rintro _ ⟨gg, rfl⟩
 go_wp2_with fail
 rcases aJ (cM b) with hh8 | hh8
 ·refine (aD (g := gg) (fW hh8 gg.W)).mono ?_
  rintro _ _ ⟨rfl, gg, rfl⟩
  go_wp2_with fail
  rcases aJ (jG cc) with hh7 | hh7
  ·refine (aD (g := gg) (kF hh7 _ _ gg.W (Kd.aF H.out.1 (gout gg)) L.out.1)).mono ?_
   rintro _ _ ⟨rfl, gg, rfl⟩
   go_wp2_with fail
   rcases aJ (jG d) with hh6 | hh6
   ·refine (aD (g := gg) (kF hh6 _ _ gg.W (Kd.aF H.out.2.1 (gout gg)) L.out.2.1)).mono ?_
    rintro _ _ ⟨rfl, gg, rfl⟩
    rcases aJ (e != 0) with hh5 | hh5
    ·have he5 : ¬ e = 0 := by simpa using hh5
     go_wp2_with fail
     go_ret
     exact ⟨aC (by simp [aX, hh8, hh7, hh6, he5]), gout _⟩
    ·have he5 : e = 0 := by simpa using hh5
     rcases aJ (f != 0) with hh4 | hh4
     ·have he4 : ¬ f = 0 := by simpa using hh4
      go_wp2_with fail
      go_ret
      exact ⟨aC (by simp [aX, hh8, hh7, hh6, he5, he4]), gout _⟩
     ·have he4 : f = 0 := by simpa using hh4
      rcases cf g.length with hh3 | hh3
      ·have he3 : g.isEmpty = af := by rw [cg hh3]; rfl
       have hn3 : ¬ 0 < g.length := by omega
       have hm3 : decide (0 < g.length) = J := decide_eq_false hn3
       clear hh3
       rcases cf hh.length with hh2 | hh2
       ·have he2 : hh.isEmpty = af := by rw [cg hh2]; rfl
        have hn2 : ¬ 0 < hh.length := by omega
        have hm2 : decide (0 < hh.length) = J := decide_eq_false hn2
        clear hh2
        go_wp2_with fail
        rcases aJ (bdB g) with hh1 | hh1
        ·refine (aD (g := gg) (cH (IH.out _ (bg rfl)) hh1 _ _ gg.W (Kd.aF H.out.2.2.1 (gout gg)) L.out.2.2.1)).mono ?_
         rintro _ _ ⟨rfl, gg, rfl⟩
         go_wp2_with fail
         rcases aJ (bdB hh) with hh0 | hh0
         ·refine (aD (g := gg) (cH (IH.out _ (Or.inr rfl)) hh0 _ _ gg.W (Kd.aF H.out.2.2.2 (gout gg)) L.out.2.2.2)).mono ?_
          rintro _ _ ⟨rfl, gg, rfl⟩
          go_wp2_with fail
          go_ret
          exact ⟨aC (by simp [aX, hh8, hh7, hh6, he5, he4, he3, he2, hh1, hh0]), gout _⟩
         ·refine (aD (g := gg) (cH (IH.out _ (Or.inr rfl)) hh0 _ _ gg.W (Kd.aF H.out.2.2.2 (gout gg)) L.out.2.2.2)).mono ?_
          rintro _ _ ⟨rfl, gg, rfl⟩
          go_wp2_with fail
          go_ret
          exact ⟨aC (by simp [aX, hh8, hh7, hh6, he5, he4, he3, he2, hh1, hh0]), gout _⟩
        ·refine (aD (g := gg) (cH (IH.out _ (bg rfl)) hh1 _ _ gg.W (Kd.aF H.out.2.2.1 (gout gg)) L.out.2.2.1)).mono ?_
         rintro _ _ ⟨rfl, gg, rfl⟩
         go_wp2_with fail
         go_ret
         exact ⟨aC (by simp [aX, hh8, hh7, hh6, he5, he4, he3, he2, hh1]), gout _⟩
       ·have he2 : hh.isEmpty = J := by rw [db]; rintro rfl; exact absurd hh2 (by simp)
        go_wp2_with fail
        go_ret
        exact ⟨aC (by simp [aX, hh8, hh7, hh6, he5, he4, he3, he2]), gout _⟩
      ·have he3 : g.isEmpty = J := by rw [db]; rintro rfl; exact absurd hh3 (by simp)
       go_wp2_with fail
       go_ret
       exact ⟨aC (by simp [aX, hh8, hh7, hh6, he5, he4, he3]), gout _⟩
   ·refine (aD (g := gg) (kF hh6 _ _ gg.W (Kd.aF H.out.2.1 (gout gg)) L.out.2.1)).mono ?_
    rintro _ _ ⟨rfl, gg, rfl⟩
    go_wp2_with fail
    go_ret
    exact ⟨aC (by simp [aX, hh8, hh7, hh6]), gout _⟩
  ·refine (aD (g := gg) (kF hh7 _ _ gg.W (Kd.aF H.out.1 (gout gg)) L.out.1)).mono ?_
   rintro _ _ ⟨rfl, gg, rfl⟩
   go_wp2_with fail
   go_ret
   exact ⟨aC (by simp [aX, hh8, hh7]), gout _⟩
 ·refine (aD (g := gg) (fW hh8 gg.W)).mono ?_
  rintro _ _ ⟨rfl, gg, rfl⟩
  go_wp2_with fail
  go_ret
  exact ⟨aC (by simp [aX, hh8]), gout _⟩
end
section
attribute [local go_sem] G.cell
set_option maxRecDepth 100000 in
theorem qH (a : Int) (h1 : a < 1) (b : ByteArray) (cc d : S116) (e f : Int) (g hh : List S119) {A5 : Option Addr} {c5 : Nat} {A9 : Option Addr} {c9 : Nat} {A12 : Option Addr} {c12 : Nat} {A13 : Option Addr} {c13 : Nat} (w : World)
 (L : Aside0 (cc.f3.length <= c5 /\ d.f3.length <= c9 /\ g.length <= c12 /\ hh.length <= c13)) (H : Aside0 (cQ.C w A5 cc.f3.length cc.f3 /\ cQ.C w A9 d.f3.length d.f3 /\ dC.C w A12 g.length g /\ dC.C w A13 hh.length hh))
 (IH : Aside0 (∀ l, l = g \/ l = hh -> jV 126 l)) :
 Calls ak 172 #[.agg #[.int .i64 a, .string b, .int .i64 cc.f0, .int .u64 cc.f1, .string cc.f2, .slice A5 cc.f3.length c5, .int .i64 d.f0, .int .u64 d.f1, .string d.f2, .slice A9 d.f3.length c9, .int .u64 e, .int .u64 f, .slice A12 g.length c12, .slice A13 hh.length c13]] w fun e' w' => e' = .returned (.bool (aX ⟨a, b, cc, d, e, f, g, hh⟩ && bdB g && bdB hh)) /\ Below w.heap.size w w' := by
 have gout := @gA w
 have h0 : aX ⟨a, b, cc, d, e, f, g, hh⟩ = J := by simp [aX]; omega
 rw [h0]
 have e2 : (a == 2) = J := by simp; omega
 have e3 : (a == 3) = J := by simp; omega
 have e4 : (a == 4) = J := by simp; omega
 clear h0
 go_enter Tryz.func172, Tryz.ntmps172
 go_upto_region 1 with (fail)
 refine bE ?_
 intro gg
 go_wp2_with fail
 go_ret
 exact ⟨aC (by simp), gout _⟩
end
section
attribute [local go_sem] G.cell
set_option maxRecDepth 100000 in
theorem rB (a : Int) (h1 : ¬ a < 1) (h2 : a > 5) (b : ByteArray) (cc d : S116) (e f : Int) (g hh : List S119) {A5 : Option Addr} {c5 : Nat} {A9 : Option Addr} {c9 : Nat} {A12 : Option Addr} {c12 : Nat} {A13 : Option Addr} {c13 : Nat} (w : World)
 (L : Aside0 (cc.f3.length <= c5 /\ d.f3.length <= c9 /\ g.length <= c12 /\ hh.length <= c13)) (H : Aside0 (cQ.C w A5 cc.f3.length cc.f3 /\ cQ.C w A9 d.f3.length d.f3 /\ dC.C w A12 g.length g /\ dC.C w A13 hh.length hh))
 (IH : Aside0 (∀ l, l = g \/ l = hh -> jV 126 l)) :
 Calls ak 172 #[.agg #[.int .i64 a, .string b, .int .i64 cc.f0, .int .u64 cc.f1, .string cc.f2, .slice A5 cc.f3.length c5, .int .i64 d.f0, .int .u64 d.f1, .string d.f2, .slice A9 d.f3.length c9, .int .u64 e, .int .u64 f, .slice A12 g.length c12, .slice A13 hh.length c13]] w fun e' w' => e' = .returned (.bool (aX ⟨a, b, cc, d, e, f, g, hh⟩ && bdB g && bdB hh)) /\ Below w.heap.size w w' := by
 have gout := @gA w
 have h0 : aX ⟨a, b, cc, d, e, f, g, hh⟩ = J := by simp [aX]; omega
 rw [h0]
 have e2 : (a == 2) = J := by simp; omega
 have e3 : (a == 3) = J := by simp; omega
 have e4 : (a == 4) = J := by simp; omega
 clear h0
 go_enter Tryz.func172, Tryz.ntmps172
 go_upto_region 1 with (fail)
 refine bE ?_
 intro gg
 go_wp2_with fail
 go_ret
 exact ⟨aC (by simp), gout _⟩
end
section
attribute [local go_sem] G.cell
set_option maxRecDepth 100000 in
theorem refStmtForm_k1 (b : ByteArray) (cc d : S116) (e f : Int) (g hh : List S119) {A5 : Option Addr} {c5 : Nat} {A9 : Option Addr} {c9 : Nat} {A12 : Option Addr} {c12 : Nat} {A13 : Option Addr} {c13 : Nat} (w : World)
 (L : Aside0 (cc.f3.length <= c5 /\ d.f3.length <= c9 /\ g.length <= c12 /\ hh.length <= c13)) (H : Aside0 (cQ.C w A5 cc.f3.length cc.f3 /\ cQ.C w A9 d.f3.length d.f3 /\ dC.C w A12 g.length g /\ dC.C w A13 hh.length hh))
 (IH : Aside0 (∀ l, l = g \/ l = hh -> jV 126 l)) :
 Calls ak 172 #[.agg #[.int .i64 1, .string b, .int .i64 cc.f0, .int .u64 cc.f1, .string cc.f2, .slice A5 cc.f3.length c5, .int .i64 d.f0, .int .u64 d.f1, .string d.f2, .slice A9 d.f3.length c9, .int .u64 e, .int .u64 f, .slice A12 g.length c12, .slice A13 hh.length c13]] w fun e' w' => e' = .returned (.bool (aX ⟨1, b, cc, d, e, f, g, hh⟩ && bdB g && bdB hh)) /\ Below w.heap.size w w' := by
 have gout := @gA w
 go_enter Tryz.func172, Tryz.ntmps172
 go_upto_region 1 with (fail)
 refine bE ?_
 intro gg
 rcases aJ b.toList.isEmpty with hh9 | hh9
 ·have he9 : b.toList = [] := by exact gp.1 hh9
  have hf9 := j6 he9
  go_wp2_with fail
  go_ret
  exact ⟨aC (by simp [aX, hf9]), gout _⟩
 ·have he9 : ¬ b.toList = [] := by intro h; rw [h] at hh9; exact absurd hh9 (by decide)
  go_wp2_with fail
  rcases aJ (cM b) with hh8 | hh8
  ·refine (aD (g := gg) (dM hh8 gg.W)).mono ?_
   rintro _ _ ⟨rfl, gg, rfl⟩
   go_wp2_with fail
   rcases aJ (jG cc) with hh7 | hh7
   ·refine (aD (g := gg) (eJ hh7 _ _ gg.W (Kd.aF H.out.1 (gout gg)) L.out.1)).mono ?_
    rintro _ _ ⟨rfl, gg, rfl⟩
    go_wp2_with fail
    rcases aJ (exB d) with hh6 | hh6
    ·refine (aD (g := gg) (dL hh6 _ _ gg.W (Kd.aF H.out.2.1 (gout gg)) L.out.2.1)).mono ?_
     rintro _ _ ⟨rfl, gg, rfl⟩
     rcases aJ (e != 0) with hh5 | hh5
     ·have he5 : ¬ e = 0 := by simpa using hh5
      go_wp2_with fail
      go_ret
      exact ⟨aC (by simp [aX, hh9, hh8, hh7, hh6, he5]), gout _⟩
     ·have he5 : e = 0 := by simpa using hh5
      rcases aJ (f != 0) with hh4 | hh4
      ·have he4 : ¬ f = 0 := by simpa using hh4
       go_wp2_with fail
       go_ret
       exact ⟨aC (by simp [aX, hh9, hh8, hh7, hh6, he5, he4]), gout _⟩
      ·have he4 : f = 0 := by simpa using hh4
       rcases cf hh.length with hh3 | hh3
       ·have he3 : hh.isEmpty = af := by rw [cg hh3]; rfl
        have hn3 : ¬ 0 < hh.length := by omega
        have hm3 : decide (0 < hh.length) = J := decide_eq_false hn3
        clear hh3
        rcases cf g.length with hh2 | hh2
        ·have he2 : g.isEmpty = af := by rw [cg hh2]; rfl
         have hn2 : ¬ 0 < g.length := by omega
         have hm2 : decide (0 < g.length) = J := decide_eq_false hn2
         clear hh2
         go_wp2_with fail
         rcases aJ (bdB g) with hh1 | hh1
         ·refine (aD (g := gg) (cH (IH.out _ (bg rfl)) hh1 _ _ gg.W (Kd.aF H.out.2.2.1 (gout gg)) L.out.2.2.1)).mono ?_
          rintro _ _ ⟨rfl, gg, rfl⟩
          go_wp2_with fail
          rcases aJ (bdB hh) with hh0 | hh0
          ·refine (aD (g := gg) (cH (IH.out _ (Or.inr rfl)) hh0 _ _ gg.W (Kd.aF H.out.2.2.2 (gout gg)) L.out.2.2.2)).mono ?_
           rintro _ _ ⟨rfl, gg, rfl⟩
           go_wp2_with fail
           go_ret
           exact ⟨aC (by simp [aX, hh9, hh8, hh7, hh6, he5, he4, he3, he2, hh1, hh0]), gout _⟩
          ·refine (aD (g := gg) (cH (IH.out _ (Or.inr rfl)) hh0 _ _ gg.W (Kd.aF H.out.2.2.2 (gout gg)) L.out.2.2.2)).mono ?_
           rintro _ _ ⟨rfl, gg, rfl⟩
           go_wp2_with fail
           go_ret
           exact ⟨aC (by simp [aX, hh9, hh8, hh7, hh6, he5, he4, he3, he2, hh1, hh0]), gout _⟩
         ·refine (aD (g := gg) (cH (IH.out _ (bg rfl)) hh1 _ _ gg.W (Kd.aF H.out.2.2.1 (gout gg)) L.out.2.2.1)).mono ?_
          rintro _ _ ⟨rfl, gg, rfl⟩
          go_wp2_with fail
          go_ret
          exact ⟨aC (by simp [aX, hh9, hh8, hh7, hh6, he5, he4, he3, he2, hh1]), gout _⟩
        ·have he2 : g.isEmpty = J := by rw [db]; rintro rfl; exact absurd hh2 (by simp)
         go_wp2_with fail
         go_ret
         exact ⟨aC (by simp [aX, hh9, hh8, hh7, hh6, he5, he4, he3, he2]), gout _⟩
       ·have he3 : hh.isEmpty = J := by rw [db]; rintro rfl; exact absurd hh3 (by simp)
        go_wp2_with fail
        go_ret
        exact ⟨aC (by simp [aX, hh9, hh8, hh7, hh6, he5, he4, he3]), gout _⟩
    ·refine (aD (g := gg) (dL hh6 _ _ gg.W (Kd.aF H.out.2.1 (gout gg)) L.out.2.1)).mono ?_
     rintro _ _ ⟨rfl, gg, rfl⟩
     go_wp2_with fail
     go_ret
     exact ⟨aC (by simp [aX, hh9, hh8, hh7, hh6]), gout _⟩
   ·refine (aD (g := gg) (eJ hh7 _ _ gg.W (Kd.aF H.out.1 (gout gg)) L.out.1)).mono ?_
    rintro _ _ ⟨rfl, gg, rfl⟩
    go_wp2_with fail
    go_ret
    exact ⟨aC (by simp [aX, hh9, hh8, hh7]), gout _⟩
  ·refine (aD (g := gg) (dM hh8 gg.W)).mono ?_
   rintro _ _ ⟨rfl, gg, rfl⟩
   go_wp2_with fail
   go_ret
   exact ⟨aC (by simp [aX, hh9, hh8]), gout _⟩
end
section
attribute [local go_sem] G.cell
set_option maxRecDepth 100000 in
theorem refStmtForm_k2 (b : ByteArray) (cc d : S116) (e f : Int) (g hh : List S119) {A5 : Option Addr} {c5 : Nat} {A9 : Option Addr} {c9 : Nat} {A12 : Option Addr} {c12 : Nat} {A13 : Option Addr} {c13 : Nat} (w : World)
 (L : Aside0 (cc.f3.length <= c5 /\ d.f3.length <= c9 /\ g.length <= c12 /\ hh.length <= c13)) (H : Aside0 (cQ.C w A5 cc.f3.length cc.f3 /\ cQ.C w A9 d.f3.length d.f3 /\ dC.C w A12 g.length g /\ dC.C w A13 hh.length hh))
 (IH : Aside0 (∀ l, l = g \/ l = hh -> jV 126 l)) :
 Calls ak 172 #[.agg #[.int .i64 2, .string b, .int .i64 cc.f0, .int .u64 cc.f1, .string cc.f2, .slice A5 cc.f3.length c5, .int .i64 d.f0, .int .u64 d.f1, .string d.f2, .slice A9 d.f3.length c9, .int .u64 e, .int .u64 f, .slice A12 g.length c12, .slice A13 hh.length c13]] w fun e' w' => e' = .returned (.bool (aX ⟨2, b, cc, d, e, f, g, hh⟩ && bdB g && bdB hh)) /\ Below w.heap.size w w' := by
 have gout := @gA w
 go_enter Tryz.func172, Tryz.ntmps172
 go_upto_region 1 with (fail)
 refine bE ?_
 intro gg
 rcases aJ b.toList.isEmpty with hh9 | hh9
 ·have he9 : b.toList = [] := by exact gp.1 hh9
  have hf9 := j6 he9
  go_wp2_with fail
  go_ret
  exact ⟨aC (by simp [aX, hf9]), gout _⟩
 ·have he9 : ¬ b.toList = [] := by intro h; rw [h] at hh9; exact absurd hh9 (by decide)
  go_wp2_with fail
  rcases aJ (cM b) with hh8 | hh8
  ·refine (aD (g := gg) (dM hh8 gg.W)).mono ?_
   rintro _ _ ⟨rfl, gg, rfl⟩
   go_wp2_with fail
   rcases aJ (exB cc) with hh7 | hh7
   ·refine (aD (g := gg) (dL hh7 _ _ gg.W (Kd.aF H.out.1 (gout gg)) L.out.1)).mono ?_
    rintro _ _ ⟨rfl, gg, rfl⟩
    go_wp2_with fail
    rcases aJ (exB d) with hh6 | hh6
    ·refine (aD (g := gg) (dL hh6 _ _ gg.W (Kd.aF H.out.2.1 (gout gg)) L.out.2.1)).mono ?_
     rintro _ _ ⟨rfl, gg, rfl⟩
     rcases aJ (e != 0) with hh5 | hh5
     ·have he5 : ¬ e = 0 := by simpa using hh5
      go_wp2_with fail
      go_ret
      exact ⟨aC (by simp [aX, hh9, hh8, hh7, hh6, he5]), gout _⟩
     ·have he5 : e = 0 := by simpa using hh5
      rcases aJ (f != 0) with hh4 | hh4
      ·have he4 : ¬ f = 0 := by simpa using hh4
       go_wp2_with fail
       go_ret
       exact ⟨aC (by simp [aX, hh9, hh8, hh7, hh6, he5, he4]), gout _⟩
      ·have he4 : f = 0 := by simpa using hh4
       rcases cf hh.length with hh3 | hh3
       ·have he3 : hh.isEmpty = af := by rw [cg hh3]; rfl
        have hn3 : ¬ 0 < hh.length := by omega
        have hm3 : decide (0 < hh.length) = J := decide_eq_false hn3
        clear hh3
        rcases cf g.length with hh2 | hh2
        ·have he2 : g.isEmpty = af := by rw [cg hh2]; rfl
         have hn2 : ¬ 0 < g.length := by omega
         have hm2 : decide (0 < g.length) = J := decide_eq_false hn2
         clear hh2
         go_wp2_with fail
         rcases aJ (bdB g) with hh1 | hh1
         ·refine (aD (g := gg) (cH (IH.out _ (bg rfl)) hh1 _ _ gg.W (Kd.aF H.out.2.2.1 (gout gg)) L.out.2.2.1)).mono ?_
          rintro _ _ ⟨rfl, gg, rfl⟩
          go_wp2_with fail
          rcases aJ (bdB hh) with hh0 | hh0
          ·refine (aD (g := gg) (cH (IH.out _ (Or.inr rfl)) hh0 _ _ gg.W (Kd.aF H.out.2.2.2 (gout gg)) L.out.2.2.2)).mono ?_
           rintro _ _ ⟨rfl, gg, rfl⟩
           go_wp2_with fail
           go_ret
           exact ⟨aC (by simp [aX, hh9, hh8, hh7, hh6, he5, he4, he3, he2, hh1, hh0]), gout _⟩
          ·refine (aD (g := gg) (cH (IH.out _ (Or.inr rfl)) hh0 _ _ gg.W (Kd.aF H.out.2.2.2 (gout gg)) L.out.2.2.2)).mono ?_
           rintro _ _ ⟨rfl, gg, rfl⟩
           go_wp2_with fail
           go_ret
           exact ⟨aC (by simp [aX, hh9, hh8, hh7, hh6, he5, he4, he3, he2, hh1, hh0]), gout _⟩
         ·refine (aD (g := gg) (cH (IH.out _ (bg rfl)) hh1 _ _ gg.W (Kd.aF H.out.2.2.1 (gout gg)) L.out.2.2.1)).mono ?_
          rintro _ _ ⟨rfl, gg, rfl⟩
          go_wp2_with fail
          go_ret
          exact ⟨aC (by simp [aX, hh9, hh8, hh7, hh6, he5, he4, he3, he2, hh1]), gout _⟩
        ·have he2 : g.isEmpty = J := by rw [db]; rintro rfl; exact absurd hh2 (by simp)
         go_wp2_with fail
         go_ret
         exact ⟨aC (by simp [aX, hh9, hh8, hh7, hh6, he5, he4, he3, he2]), gout _⟩
       ·have he3 : hh.isEmpty = J := by rw [db]; rintro rfl; exact absurd hh3 (by simp)
        go_wp2_with fail
        go_ret
        exact ⟨aC (by simp [aX, hh9, hh8, hh7, hh6, he5, he4, he3]), gout _⟩
    ·refine (aD (g := gg) (dL hh6 _ _ gg.W (Kd.aF H.out.2.1 (gout gg)) L.out.2.1)).mono ?_
     rintro _ _ ⟨rfl, gg, rfl⟩
     go_wp2_with fail
     go_ret
     exact ⟨aC (by simp [aX, hh9, hh8, hh7, hh6]), gout _⟩
   ·refine (aD (g := gg) (dL hh7 _ _ gg.W (Kd.aF H.out.1 (gout gg)) L.out.1)).mono ?_
    rintro _ _ ⟨rfl, gg, rfl⟩
    go_wp2_with fail
    go_ret
    exact ⟨aC (by simp [aX, hh9, hh8, hh7]), gout _⟩
  ·refine (aD (g := gg) (dM hh8 gg.W)).mono ?_
   rintro _ _ ⟨rfl, gg, rfl⟩
   go_wp2_with fail
   go_ret
   exact ⟨aC (by simp [aX, hh9, hh8]), gout _⟩
end
section
attribute [local go_sem] G.cell
set_option maxRecDepth 100000 in
theorem refStmtForm_k3 (b : ByteArray) (cc d : S116) (e f : Int) (g hh : List S119) {A5 : Option Addr} {c5 : Nat} {A9 : Option Addr} {c9 : Nat} {A12 : Option Addr} {c12 : Nat} {A13 : Option Addr} {c13 : Nat} (w : World)
 (L : Aside0 (cc.f3.length <= c5 /\ d.f3.length <= c9 /\ g.length <= c12 /\ hh.length <= c13)) (H : Aside0 (cQ.C w A5 cc.f3.length cc.f3 /\ cQ.C w A9 d.f3.length d.f3 /\ dC.C w A12 g.length g /\ dC.C w A13 hh.length hh))
 (IH : Aside0 (∀ l, l = g \/ l = hh -> jV 126 l)) :
 Calls ak 172 #[.agg #[.int .i64 3, .string b, .int .i64 cc.f0, .int .u64 cc.f1, .string cc.f2, .slice A5 cc.f3.length c5, .int .i64 d.f0, .int .u64 d.f1, .string d.f2, .slice A9 d.f3.length c9, .int .u64 e, .int .u64 f, .slice A12 g.length c12, .slice A13 hh.length c13]] w fun e' w' => e' = .returned (.bool (aX ⟨3, b, cc, d, e, f, g, hh⟩ && bdB g && bdB hh)) /\ Below w.heap.size w w' := by
 have gout := @gA w
 go_enter Tryz.func172, Tryz.ntmps172
 go_upto_region 1 with (fail)
 refine bE ?_
 intro gg
 rcases aJ b.toList.isEmpty with hh6 | hh6
 ·have he6 : b.toList = [] := by exact gp.1 hh6
  go_wp2_with fail
  rcases aJ (jG cc) with hh5 | hh5
  ·refine (aD (g := gg) (eJ hh5 _ _ gg.W (Kd.aF H.out.1 (gout gg)) L.out.1)).mono ?_
   rintro _ _ ⟨rfl, gg, rfl⟩
   go_wp2_with fail
   rcases aJ (exB d) with hh4 | hh4
   ·refine (aD (g := gg) (dL hh4 _ _ gg.W (Kd.aF H.out.2.1 (gout gg)) L.out.2.1)).mono ?_
    rintro _ _ ⟨rfl, gg, rfl⟩
    rcases aJ (e != 0) with hh3 | hh3
    ·have he3 : ¬ e = 0 := by simpa using hh3
     go_wp2_with fail
     go_ret
     exact ⟨aC (by simp [aX, hh6, hh5, hh4, he3]), gout _⟩
    ·have he3 : e = 0 := by simpa using hh3
     rcases aJ (f != 0) with hh2 | hh2
     ·have he2 : ¬ f = 0 := by simpa using hh2
      go_wp2_with fail
      go_ret
      exact ⟨aC (by simp [aX, hh6, hh5, hh4, he3, he2]), gout _⟩
     ·have he2 : f = 0 := by simpa using hh2
      go_wp2_with fail
      rcases aJ (bdB g) with hh1 | hh1
      ·refine (aD (g := gg) (cH (IH.out _ (bg rfl)) hh1 _ _ gg.W (Kd.aF H.out.2.2.1 (gout gg)) L.out.2.2.1)).mono ?_
       rintro _ _ ⟨rfl, gg, rfl⟩
       go_wp2_with fail
       rcases aJ (bdB hh) with hh0 | hh0
       ·refine (aD (g := gg) (cH (IH.out _ (Or.inr rfl)) hh0 _ _ gg.W (Kd.aF H.out.2.2.2 (gout gg)) L.out.2.2.2)).mono ?_
        rintro _ _ ⟨rfl, gg, rfl⟩
        go_wp2_with fail
        go_ret
        exact ⟨aC (by simp [aX, hh6, hh5, hh4, he3, he2, hh1, hh0]), gout _⟩
       ·refine (aD (g := gg) (cH (IH.out _ (Or.inr rfl)) hh0 _ _ gg.W (Kd.aF H.out.2.2.2 (gout gg)) L.out.2.2.2)).mono ?_
        rintro _ _ ⟨rfl, gg, rfl⟩
        go_wp2_with fail
        go_ret
        exact ⟨aC (by simp [aX, hh6, hh5, hh4, he3, he2, hh1, hh0]), gout _⟩
      ·refine (aD (g := gg) (cH (IH.out _ (bg rfl)) hh1 _ _ gg.W (Kd.aF H.out.2.2.1 (gout gg)) L.out.2.2.1)).mono ?_
       rintro _ _ ⟨rfl, gg, rfl⟩
       go_wp2_with fail
       go_ret
       exact ⟨aC (by simp [aX, hh6, hh5, hh4, he3, he2, hh1]), gout _⟩
   ·refine (aD (g := gg) (dL hh4 _ _ gg.W (Kd.aF H.out.2.1 (gout gg)) L.out.2.1)).mono ?_
    rintro _ _ ⟨rfl, gg, rfl⟩
    go_wp2_with fail
    go_ret
    exact ⟨aC (by simp [aX, hh6, hh5, hh4]), gout _⟩
  ·refine (aD (g := gg) (eJ hh5 _ _ gg.W (Kd.aF H.out.1 (gout gg)) L.out.1)).mono ?_
   rintro _ _ ⟨rfl, gg, rfl⟩
   go_wp2_with fail
   go_ret
   exact ⟨aC (by simp [aX, hh6, hh5]), gout _⟩
 ·have he6 : ¬ b.toList = [] := by intro h; rw [h] at hh6; exact absurd hh6 (by decide)
  go_wp2_with fail
  go_ret
  exact ⟨aC (by simp [aX, hh6]), gout _⟩
end
section
attribute [local go_sem] G.cell
set_option maxRecDepth 100000 in
theorem refStmtForm_k4 (b : ByteArray) (cc d : S116) (e f : Int) (g hh : List S119) {A5 : Option Addr} {c5 : Nat} {A9 : Option Addr} {c9 : Nat} {A12 : Option Addr} {c12 : Nat} {A13 : Option Addr} {c13 : Nat} (w : World)
 (L : Aside0 (cc.f3.length <= c5 /\ d.f3.length <= c9 /\ g.length <= c12 /\ hh.length <= c13)) (H : Aside0 (cQ.C w A5 cc.f3.length cc.f3 /\ cQ.C w A9 d.f3.length d.f3 /\ dC.C w A12 g.length g /\ dC.C w A13 hh.length hh))
 (IH : Aside0 (∀ l, l = g \/ l = hh -> jV 126 l)) :
 Calls ak 172 #[.agg #[.int .i64 4, .string b, .int .i64 cc.f0, .int .u64 cc.f1, .string cc.f2, .slice A5 cc.f3.length c5, .int .i64 d.f0, .int .u64 d.f1, .string d.f2, .slice A9 d.f3.length c9, .int .u64 e, .int .u64 f, .slice A12 g.length c12, .slice A13 hh.length c13]] w fun e' w' => e' = .returned (.bool (aX ⟨4, b, cc, d, e, f, g, hh⟩ && bdB g && bdB hh)) /\ Below w.heap.size w w' := by
 have gout := @gA w
 go_enter Tryz.func172, Tryz.ntmps172
 go_upto_region 1 with (fail)
 refine bE ?_
 intro gg
 rcases aJ b.toList.isEmpty with hh6 | hh6
 ·have he6 : b.toList = [] := by exact gp.1 hh6
  have hf6 := j6 he6
  go_wp2_with fail
  go_ret
  exact ⟨aC (by simp [aX, hf6]), gout _⟩
 ·have he6 : ¬ b.toList = [] := by intro h; rw [h] at hh6; exact absurd hh6 (by decide)
  go_wp2_with fail
  rcases aJ (cM b) with hh5 | hh5
  ·refine (aD (g := gg) (dM hh5 gg.W)).mono ?_
   rintro _ _ ⟨rfl, gg, rfl⟩
   go_wp2_with fail
   rcases aJ (jG cc) with hh4 | hh4
   ·refine (aD (g := gg) (eJ hh4 _ _ gg.W (Kd.aF H.out.1 (gout gg)) L.out.1)).mono ?_
    rintro _ _ ⟨rfl, gg, rfl⟩
    go_wp2_with fail
    rcases aJ (jG d) with hh3 | hh3
    ·refine (aD (g := gg) (eJ hh3 _ _ gg.W (Kd.aF H.out.2.1 (gout gg)) L.out.2.1)).mono ?_
     rintro _ _ ⟨rfl, gg, rfl⟩
     rcases cf hh.length with hh2 | hh2
     ·have he2 : hh.isEmpty = af := by rw [cg hh2]; rfl
      have hn2 : ¬ 0 < hh.length := by omega
      have hm2 : decide (0 < hh.length) = J := decide_eq_false hn2
      clear hh2
      go_wp2_with fail
      rcases aJ (bdB g) with hh1 | hh1
      ·refine (aD (g := gg) (cH (IH.out _ (bg rfl)) hh1 _ _ gg.W (Kd.aF H.out.2.2.1 (gout gg)) L.out.2.2.1)).mono ?_
       rintro _ _ ⟨rfl, gg, rfl⟩
       go_wp2_with fail
       rcases aJ (bdB hh) with hh0 | hh0
       ·refine (aD (g := gg) (cH (IH.out _ (Or.inr rfl)) hh0 _ _ gg.W (Kd.aF H.out.2.2.2 (gout gg)) L.out.2.2.2)).mono ?_
        rintro _ _ ⟨rfl, gg, rfl⟩
        go_wp2_with fail
        go_ret
        exact ⟨aC (by simp [aX, hh6, hh5, hh4, hh3, he2, hh1, hh0]), gout _⟩
       ·refine (aD (g := gg) (cH (IH.out _ (Or.inr rfl)) hh0 _ _ gg.W (Kd.aF H.out.2.2.2 (gout gg)) L.out.2.2.2)).mono ?_
        rintro _ _ ⟨rfl, gg, rfl⟩
        go_wp2_with fail
        go_ret
        exact ⟨aC (by simp [aX, hh6, hh5, hh4, hh3, he2, hh1, hh0]), gout _⟩
      ·refine (aD (g := gg) (cH (IH.out _ (bg rfl)) hh1 _ _ gg.W (Kd.aF H.out.2.2.1 (gout gg)) L.out.2.2.1)).mono ?_
       rintro _ _ ⟨rfl, gg, rfl⟩
       go_wp2_with fail
       go_ret
       exact ⟨aC (by simp [aX, hh6, hh5, hh4, hh3, he2, hh1]), gout _⟩
     ·have he2 : hh.isEmpty = J := by rw [db]; rintro rfl; exact absurd hh2 (by simp)
      go_wp2_with fail
      go_ret
      exact ⟨aC (by simp [aX, hh6, hh5, hh4, hh3, he2]), gout _⟩
    ·refine (aD (g := gg) (eJ hh3 _ _ gg.W (Kd.aF H.out.2.1 (gout gg)) L.out.2.1)).mono ?_
     rintro _ _ ⟨rfl, gg, rfl⟩
     go_wp2_with fail
     go_ret
     exact ⟨aC (by simp [aX, hh6, hh5, hh4, hh3]), gout _⟩
   ·refine (aD (g := gg) (eJ hh4 _ _ gg.W (Kd.aF H.out.1 (gout gg)) L.out.1)).mono ?_
    rintro _ _ ⟨rfl, gg, rfl⟩
    go_wp2_with fail
    go_ret
    exact ⟨aC (by simp [aX, hh6, hh5, hh4]), gout _⟩
  ·refine (aD (g := gg) (dM hh5 gg.W)).mono ?_
   rintro _ _ ⟨rfl, gg, rfl⟩
   go_wp2_with fail
   go_ret
   exact ⟨aC (by simp [aX, hh6, hh5]), gout _⟩
end
section
attribute [local go_sem] G.cell
set_option maxRecDepth 100000 in
theorem refStmtForm_k5 (b : ByteArray) (cc d : S116) (e f : Int) (g hh : List S119) {A5 : Option Addr} {c5 : Nat} {A9 : Option Addr} {c9 : Nat} {A12 : Option Addr} {c12 : Nat} {A13 : Option Addr} {c13 : Nat} (w : World)
 (L : Aside0 (cc.f3.length <= c5 /\ d.f3.length <= c9 /\ g.length <= c12 /\ hh.length <= c13)) (H : Aside0 (cQ.C w A5 cc.f3.length cc.f3 /\ cQ.C w A9 d.f3.length d.f3 /\ dC.C w A12 g.length g /\ dC.C w A13 hh.length hh))
 (IH : Aside0 (∀ l, l = g \/ l = hh -> jV 126 l)) :
 Calls ak 172 #[.agg #[.int .i64 5, .string b, .int .i64 cc.f0, .int .u64 cc.f1, .string cc.f2, .slice A5 cc.f3.length c5, .int .i64 d.f0, .int .u64 d.f1, .string d.f2, .slice A9 d.f3.length c9, .int .u64 e, .int .u64 f, .slice A12 g.length c12, .slice A13 hh.length c13]] w fun e' w' => e' = .returned (.bool (aX ⟨5, b, cc, d, e, f, g, hh⟩ && bdB g && bdB hh)) /\ Below w.heap.size w w' := by
 have gout := @gA w
 go_enter Tryz.func172, Tryz.ntmps172
 go_upto_region 1 with (fail)
 refine bE ?_
 intro gg
 rcases aJ b.toList.isEmpty with hh9 | hh9
 ·have he9 : b.toList = [] := by exact gp.1 hh9
  have hf9 := j6 he9
  go_wp2_with fail
  go_ret
  exact ⟨aC (by simp [aX, hf9]), gout _⟩
 ·have he9 : ¬ b.toList = [] := by intro h; rw [h] at hh9; exact absurd hh9 (by decide)
  go_wp2_with fail
  rcases aJ (cM b) with hh8 | hh8
  ·refine (aD (g := gg) (dM hh8 gg.W)).mono ?_
   rintro _ _ ⟨rfl, gg, rfl⟩
   go_wp2_with fail
   rcases aJ (jG cc) with hh7 | hh7
   ·refine (aD (g := gg) (eJ hh7 _ _ gg.W (Kd.aF H.out.1 (gout gg)) L.out.1)).mono ?_
    rintro _ _ ⟨rfl, gg, rfl⟩
    go_wp2_with fail
    rcases aJ (jG d) with hh6 | hh6
    ·refine (aD (g := gg) (eJ hh6 _ _ gg.W (Kd.aF H.out.2.1 (gout gg)) L.out.2.1)).mono ?_
     rintro _ _ ⟨rfl, gg, rfl⟩
     rcases aJ (e != 0) with hh5 | hh5
     ·have he5 : ¬ e = 0 := by simpa using hh5
      go_wp2_with fail
      go_ret
      exact ⟨aC (by simp [aX, hh9, hh8, hh7, hh6, he5]), gout _⟩
     ·have he5 : e = 0 := by simpa using hh5
      rcases aJ (f != 0) with hh4 | hh4
      ·have he4 : ¬ f = 0 := by simpa using hh4
       go_wp2_with fail
       go_ret
       exact ⟨aC (by simp [aX, hh9, hh8, hh7, hh6, he5, he4]), gout _⟩
      ·have he4 : f = 0 := by simpa using hh4
       rcases cf hh.length with hh3 | hh3
       ·have he3 : hh.isEmpty = af := by rw [cg hh3]; rfl
        have hn3 : ¬ 0 < hh.length := by omega
        have hm3 : decide (0 < hh.length) = J := decide_eq_false hn3
        clear hh3
        rcases cf g.length with hh2 | hh2
        ·have he2 : g.isEmpty = af := by rw [cg hh2]; rfl
         have hn2 : ¬ 0 < g.length := by omega
         have hm2 : decide (0 < g.length) = J := decide_eq_false hn2
         clear hh2
         go_wp2_with fail
         rcases aJ (bdB g) with hh1 | hh1
         ·refine (aD (g := gg) (cH (IH.out _ (bg rfl)) hh1 _ _ gg.W (Kd.aF H.out.2.2.1 (gout gg)) L.out.2.2.1)).mono ?_
          rintro _ _ ⟨rfl, gg, rfl⟩
          go_wp2_with fail
          rcases aJ (bdB hh) with hh0 | hh0
          ·refine (aD (g := gg) (cH (IH.out _ (Or.inr rfl)) hh0 _ _ gg.W (Kd.aF H.out.2.2.2 (gout gg)) L.out.2.2.2)).mono ?_
           rintro _ _ ⟨rfl, gg, rfl⟩
           go_wp2_with fail
           go_ret
           exact ⟨aC (by simp [aX, hh9, hh8, hh7, hh6, he5, he4, he3, he2, hh1, hh0]), gout _⟩
          ·refine (aD (g := gg) (cH (IH.out _ (Or.inr rfl)) hh0 _ _ gg.W (Kd.aF H.out.2.2.2 (gout gg)) L.out.2.2.2)).mono ?_
           rintro _ _ ⟨rfl, gg, rfl⟩
           go_wp2_with fail
           go_ret
           exact ⟨aC (by simp [aX, hh9, hh8, hh7, hh6, he5, he4, he3, he2, hh1, hh0]), gout _⟩
         ·refine (aD (g := gg) (cH (IH.out _ (bg rfl)) hh1 _ _ gg.W (Kd.aF H.out.2.2.1 (gout gg)) L.out.2.2.1)).mono ?_
          rintro _ _ ⟨rfl, gg, rfl⟩
          go_wp2_with fail
          go_ret
          exact ⟨aC (by simp [aX, hh9, hh8, hh7, hh6, he5, he4, he3, he2, hh1]), gout _⟩
        ·have he2 : g.isEmpty = J := by rw [db]; rintro rfl; exact absurd hh2 (by simp)
         go_wp2_with fail
         go_ret
         exact ⟨aC (by simp [aX, hh9, hh8, hh7, hh6, he5, he4, he3, he2]), gout _⟩
       ·have he3 : hh.isEmpty = J := by rw [db]; rintro rfl; exact absurd hh3 (by simp)
        go_wp2_with fail
        go_ret
        exact ⟨aC (by simp [aX, hh9, hh8, hh7, hh6, he5, he4, he3]), gout _⟩
    ·refine (aD (g := gg) (eJ hh6 _ _ gg.W (Kd.aF H.out.2.1 (gout gg)) L.out.2.1)).mono ?_
     rintro _ _ ⟨rfl, gg, rfl⟩
     go_wp2_with fail
     go_ret
     exact ⟨aC (by simp [aX, hh9, hh8, hh7, hh6]), gout _⟩
   ·refine (aD (g := gg) (eJ hh7 _ _ gg.W (Kd.aF H.out.1 (gout gg)) L.out.1)).mono ?_
    rintro _ _ ⟨rfl, gg, rfl⟩
    go_wp2_with fail
    go_ret
    exact ⟨aC (by simp [aX, hh9, hh8, hh7]), gout _⟩
  ·refine (aD (g := gg) (dM hh8 gg.W)).mono ?_
   rintro _ _ ⟨rfl, gg, rfl⟩
   go_wp2_with fail
   go_ret
   exact ⟨aC (by simp [aX, hh9, hh8]), gout _⟩
end
theorem kinds (a : Int) : a < 1 \/ (¬ a < 1 /\ a > 5) \/ a = 1 \/ a = 2 \/ a = 3 \/ a = 4 \/ a = 5 := by omega
theorem stmtForm_walk (x : S119) (ih : ∀ l, l = x.f6 \/ l = x.f7 -> jV 121 l) : StmtC 168 x := by
 intro A5 c5 A9 c9 A12 c12 A13 c13 w l5 g5 l9 g9 l12 g12 l13 g13
 have L := I (ae l5 (ae l9 (ae l12 l13)))
 have H := I (ae g5 (ae g9 (ae g12 g13)))
 have IH := I ih
 rw [nT]
 obtain ⟨a, b, cc, d, e, f, g, hh⟩ := x
 simp only at *
 rcases kinds a with h | ⟨h, h'⟩ | rfl | rfl | rfl | rfl | rfl
 ·exact stmtForm_klt a h b cc d e f g hh w L H IH
 ·exact stmtForm_kgt a h h' b cc d e f g hh w L H IH
 ·exact stmtForm_k1 b cc d e f g hh w L H IH
 ·exact stmtForm_k2 b cc d e f g hh w L H IH
 ·exact stmtForm_k3 b cc d e f g hh w L H IH
 ·exact stmtForm_k4 b cc d e f g hh w L H IH
 ·exact stmtForm_k5 b cc d e f g hh w L H IH
theorem oK (x : S119) (ih : ∀ l, l = x.f6 \/ l = x.f7 -> jV 126 l) : StmtC 172 x := by
 intro A5 c5 A9 c9 A12 c12 A13 c13 w l5 g5 l9 g9 l12 g12 l13 g13
 have L := I (ae l5 (ae l9 (ae l12 l13)))
 have H := I (ae g5 (ae g9 (ae g12 g13)))
 have IH := I ih
 rw [nT]
 obtain ⟨a, b, cc, d, e, f, g, hh⟩ := x
 simp only at *
 rcases kinds a with h | ⟨h, h'⟩ | rfl | rfl | rfl | rfl | rfl
 ·exact qH a h b cc d e f g hh w L H IH
 ·exact rB a h h' b cc d e f g hh w L H IH
 ·exact refStmtForm_k1 b cc d e f g hh w L H IH
 ·exact refStmtForm_k2 b cc d e f g hh w L H IH
 ·exact refStmtForm_k3 b cc d e f g hh w L H IH
 ·exact refStmtForm_k4 b cc d e f g hh w L H IH
 ·exact refStmtForm_k5 b cc d e f g hh w L H IH
theorem st_size {x y : S119} {l : List S119} {n : Nat} (hl : l = x.f6 \/ l = x.f7) (hy : y ∈ l) (h : cd x <= n + 1) : cd y <= n := by
 have := eu hy
 obtain ⟨a, b, cc, d, e, f, g, hh⟩ := x
 simp at h
 simp only at hl
 rcases hl with rfl | rfl <;> omega
theorem stmtForm_all : ∀ (n : Nat) (x : S119), cd x <= n -> StmtC 168 x := by
 intro n
 induction n with
 | zero => intro x h; obtain ⟨a, b, c, l⟩ := x; simp at h
 | succ n ih =>
   intro x h
   refine stmtForm_walk x fun l hl A c w' hc hlc => ?_
   rw [kQ]
   exact mS l A c w' hc hlc fun y hy => ih y (st_size hl hy h)
theorem rM : ∀ (n : Nat) (x : S119), cd x <= n -> StmtC 172 x := by
 intro n
 induction n with
 | zero => intro x h; obtain ⟨a, b, c, l⟩ := x; simp at h
 | succ n ih =>
   intro x h
   refine oK x fun l hl A c w' hc hlc => ?_
   rw [kQ]
   exact lH l A c w' hc hlc fun y hy => ih y (st_size hl hy h)
theorem bodyForm_calls (l : List S119) : jV 121 l := fun A c w' hc hl => by
 rw [kQ]; exact mS l A c w' hc hl fun y _ => stmtForm_all _ y (ar _)
theorem pH (l : List S119) : jV 126 l := fun A c w' hc hl => by
 rw [kQ]; exact lH l A c w' hc hl fun y _ => rM _ y (ar _)
section
attribute [local go_sem] G.cell
def dcB (x : S70) : Bool := decide (1 <= x.f0) && decide (x.f0 <= 5) && cM x.f1 && decide (0 <= x.f2) && (if x.f0 = 3 then decide (0 < x.f3.length) && decide (0 < x.f2) else x.f3.isEmpty)
theorem kinds5 (a : Int) : a < 1 \/ (¬ a < 1 /\ a > 5) \/ a = 1 \/ a = 2 \/ a = 3 \/ a = 4 \/ a = 5 := by omega
set_option maxRecDepth 100000 in
theorem declForm_klt (a : Int) (h1 : a < 1) (b : ByteArray) (s : Int) (l : List Int) {A : Option Addr} {c : Nat} (w : World) :
 Calls ak 120 #[.agg #[.int .i64 a, .string b, .int .i64 s, .slice A l.length c]] w fun e' w' => e' = .returned (.bool (dcB ⟨a, b, s, l⟩)) /\ Below w.heap.size w w' := by
 have gout := @gA w
 have h0 : dcB ⟨a, b, s, l⟩ = J := by simp [dcB]; omega
 rw [h0]
 clear h0
 go_enter Tryz.func120, Tryz.ntmps120
 go_upto_region 1 with (fail)
 refine bE ?_
 intro gg
 go_wp2_with fail
 go_ret
 exact ⟨aC (by simp), gout _⟩
set_option maxRecDepth 100000 in
theorem declForm_kgt (a : Int) (h1 : ¬ a < 1) (h2 : a > 5) (b : ByteArray) (s : Int) (l : List Int) {A : Option Addr} {c : Nat} (w : World) :
 Calls ak 120 #[.agg #[.int .i64 a, .string b, .int .i64 s, .slice A l.length c]] w fun e' w' => e' = .returned (.bool (dcB ⟨a, b, s, l⟩)) /\ Below w.heap.size w w' := by
 have gout := @gA w
 have h0 : dcB ⟨a, b, s, l⟩ = J := by simp [dcB]; omega
 rw [h0]
 clear h0
 go_enter Tryz.func120, Tryz.ntmps120
 go_upto_region 1 with (fail)
 refine bE ?_
 intro gg
 go_wp2_with fail
 go_ret
 exact ⟨aC (by simp), gout _⟩
set_option maxRecDepth 100000 in
theorem declForm_k1 (b : ByteArray) (s : Int) (l : List Int) {A : Option Addr} {c : Nat} (w : World) :
 Calls ak 120 #[.agg #[.int .i64 1, .string b, .int .i64 s, .slice A l.length c]] w fun e' w' => e' = .returned (.bool (dcB ⟨1, b, s, l⟩)) /\ Below w.heap.size w w' := by
 have gout := @gA w
 go_enter Tryz.func120, Tryz.ntmps120
 go_upto_region 1 with (fail)
 refine bE ?_
 intro gg
 go_wp2_with fail
 rcases aJ (cM b) with h1 | h1
 all_goals
  refine (aD (g := gg) (fW h1 gg.W)).mono ?_
  rintro _ _ ⟨rfl, gg, rfl⟩
 ·rcases cu s 0 with h2 | h2
  ·have h3 : ¬ 0 <= s := by omega
   go_wp2_with fail
   go_ret
   exact ⟨aC (by simp [dcB, h1, h3] <;> (intros; omega)), gout _⟩
  ·have h3 : ¬ s < 0 := by omega
   rcases l with _ | ⟨y, r⟩
   all_goals
    (try have h6 : ((r.length : Int) + 1 == 0) = J := by simp; omega)
    go_wp2_with fail
    go_ret
    exact ⟨aC (by simp [dcB, h1, h2]; try omega), gout _⟩
 ·go_wp2_with fail
  go_ret
  exact ⟨aC (by simp [dcB, h1]), gout _⟩
set_option maxRecDepth 100000 in
theorem declForm_k2 (b : ByteArray) (s : Int) (l : List Int) {A : Option Addr} {c : Nat} (w : World) :
 Calls ak 120 #[.agg #[.int .i64 2, .string b, .int .i64 s, .slice A l.length c]] w fun e' w' => e' = .returned (.bool (dcB ⟨2, b, s, l⟩)) /\ Below w.heap.size w w' := by
 have gout := @gA w
 go_enter Tryz.func120, Tryz.ntmps120
 go_upto_region 1 with (fail)
 refine bE ?_
 intro gg
 go_wp2_with fail
 rcases aJ (cM b) with h1 | h1
 all_goals
  refine (aD (g := gg) (fW h1 gg.W)).mono ?_
  rintro _ _ ⟨rfl, gg, rfl⟩
 ·rcases cu s 0 with h2 | h2
  ·have h3 : ¬ 0 <= s := by omega
   go_wp2_with fail
   go_ret
   exact ⟨aC (by simp [dcB, h1, h3] <;> (intros; omega)), gout _⟩
  ·have h3 : ¬ s < 0 := by omega
   rcases l with _ | ⟨y, r⟩
   all_goals
    (try have h6 : ((r.length : Int) + 1 == 0) = J := by simp; omega)
    go_wp2_with fail
    go_ret
    exact ⟨aC (by simp [dcB, h1, h2]; try omega), gout _⟩
 ·go_wp2_with fail
  go_ret
  exact ⟨aC (by simp [dcB, h1]), gout _⟩
set_option maxRecDepth 100000 in
theorem declForm_k3 (b : ByteArray) (s : Int) (l : List Int) {A : Option Addr} {c : Nat} (w : World) :
 Calls ak 120 #[.agg #[.int .i64 3, .string b, .int .i64 s, .slice A l.length c]] w fun e' w' => e' = .returned (.bool (dcB ⟨3, b, s, l⟩)) /\ Below w.heap.size w w' := by
 have gout := @gA w
 go_enter Tryz.func120, Tryz.ntmps120
 go_upto_region 1 with (fail)
 refine bE ?_
 intro gg
 go_wp2_with fail
 rcases aJ (cM b) with h1 | h1
 all_goals
  refine (aD (g := gg) (fW h1 gg.W)).mono ?_
  rintro _ _ ⟨rfl, gg, rfl⟩
 ·rcases cu s 0 with h2 | h2
  ·have h3 : ¬ 0 <= s := by omega
   go_wp2_with fail
   go_ret
   exact ⟨aC (by simp [dcB, h1, h3] <;> (intros; omega)), gout _⟩
  ·have h3 : ¬ s < 0 := by omega
   rcases cu 0 s with h4 | h4
   ·rcases l with _ | ⟨y, r⟩
    all_goals
     go_wp2_with fail
     go_ret
     exact ⟨aC (by simp [dcB, h1, h2, h4]), gout _⟩
   ·have h5 : ¬ 0 < s := by omega
    rcases l with _ | ⟨y, r⟩
    all_goals
     go_wp2_with fail
     go_ret
     exact ⟨aC (by simp [dcB, h1, h2, h5]), gout _⟩
 ·go_wp2_with fail
  go_ret
  exact ⟨aC (by simp [dcB, h1]), gout _⟩
set_option maxRecDepth 100000 in
theorem declForm_k4 (b : ByteArray) (s : Int) (l : List Int) {A : Option Addr} {c : Nat} (w : World) :
 Calls ak 120 #[.agg #[.int .i64 4, .string b, .int .i64 s, .slice A l.length c]] w fun e' w' => e' = .returned (.bool (dcB ⟨4, b, s, l⟩)) /\ Below w.heap.size w w' := by
 have gout := @gA w
 go_enter Tryz.func120, Tryz.ntmps120
 go_upto_region 1 with (fail)
 refine bE ?_
 intro gg
 go_wp2_with fail
 rcases aJ (cM b) with h1 | h1
 all_goals
  refine (aD (g := gg) (fW h1 gg.W)).mono ?_
  rintro _ _ ⟨rfl, gg, rfl⟩
 ·rcases cu s 0 with h2 | h2
  ·have h3 : ¬ 0 <= s := by omega
   go_wp2_with fail
   go_ret
   exact ⟨aC (by simp [dcB, h1, h3] <;> (intros; omega)), gout _⟩
  ·have h3 : ¬ s < 0 := by omega
   rcases l with _ | ⟨y, r⟩
   all_goals
    (try have h6 : ((r.length : Int) + 1 == 0) = J := by simp; omega)
    go_wp2_with fail
    go_ret
    exact ⟨aC (by simp [dcB, h1, h2]; try omega), gout _⟩
 ·go_wp2_with fail
  go_ret
  exact ⟨aC (by simp [dcB, h1]), gout _⟩
set_option maxRecDepth 100000 in
theorem declForm_k5 (b : ByteArray) (s : Int) (l : List Int) {A : Option Addr} {c : Nat} (w : World) :
 Calls ak 120 #[.agg #[.int .i64 5, .string b, .int .i64 s, .slice A l.length c]] w fun e' w' => e' = .returned (.bool (dcB ⟨5, b, s, l⟩)) /\ Below w.heap.size w w' := by
 have gout := @gA w
 go_enter Tryz.func120, Tryz.ntmps120
 go_upto_region 1 with (fail)
 refine bE ?_
 intro gg
 go_wp2_with fail
 rcases aJ (cM b) with h1 | h1
 all_goals
  refine (aD (g := gg) (fW h1 gg.W)).mono ?_
  rintro _ _ ⟨rfl, gg, rfl⟩
 ·rcases cu s 0 with h2 | h2
  ·have h3 : ¬ 0 <= s := by omega
   go_wp2_with fail
   go_ret
   exact ⟨aC (by simp [dcB, h1, h3] <;> (intros; omega)), gout _⟩
  ·have h3 : ¬ s < 0 := by omega
   rcases l with _ | ⟨y, r⟩
   all_goals
    (try have h6 : ((r.length : Int) + 1 == 0) = J := by simp; omega)
    go_wp2_with fail
    go_ret
    exact ⟨aC (by simp [dcB, h1, h2]; try omega), gout _⟩
 ·go_wp2_with fail
  go_ret
  exact ⟨aC (by simp [dcB, h1]), gout _⟩
theorem declForm_calls (x : S70) (A : Option Addr) (c : Nat) (w : World) : Calls ak 120 #[.agg #[.int .i64 x.f0, .string x.f1, .int .i64 x.f2, .slice A x.f3.length c]] w fun e' w' => e' = .returned (.bool (dcB x)) /\ Below w.heap.size w w' := by
 obtain ⟨a, b, s, l⟩ := x
 rcases kinds5 a with h | ⟨h, h'⟩ | rfl | rfl | rfl | rfl | rfl
 ·exact declForm_klt a h b s l w
 ·exact declForm_kgt a h h' b s l w
 ·exact declForm_k1 b s l w
 ·exact declForm_k2 b s l w
 ·exact declForm_k3 b s l w
 ·exact declForm_k4 b s l w
 ·exact declForm_k5 b s l w
set_option maxRecDepth 100000 in
theorem qN (a : Int) (h1 : a < 1) (b : ByteArray) (s : Int) (l : List Int) {A : Option Addr} {c : Nat} (w : World) :
 Calls ak 125 #[.agg #[.int .i64 a, .string b, .int .i64 s, .slice A l.length c]] w fun e' w' => e' = .returned (.bool (dcB ⟨a, b, s, l⟩)) /\ Below w.heap.size w w' := by
 have gout := @gA w
 have h0 : dcB ⟨a, b, s, l⟩ = J := by simp [dcB]; omega
 rw [h0]
 clear h0
 go_enter Tryz.func125, Tryz.ntmps125
 go_upto_region 1 with (fail)
 refine bE ?_
 intro gg
 go_wp2_with fail
 go_ret
 exact ⟨aC (by simp), gout _⟩
set_option maxRecDepth 100000 in
theorem pU (a : Int) (h1 : ¬ a < 1) (h2 : a > 5) (b : ByteArray) (s : Int) (l : List Int) {A : Option Addr} {c : Nat} (w : World) :
 Calls ak 125 #[.agg #[.int .i64 a, .string b, .int .i64 s, .slice A l.length c]] w fun e' w' => e' = .returned (.bool (dcB ⟨a, b, s, l⟩)) /\ Below w.heap.size w w' := by
 have gout := @gA w
 have h0 : dcB ⟨a, b, s, l⟩ = J := by simp [dcB]; omega
 rw [h0]
 clear h0
 go_enter Tryz.func125, Tryz.ntmps125
 go_upto_region 1 with (fail)
 refine bE ?_
 intro gg
 go_wp2_with fail
 go_ret
 exact ⟨aC (by simp), gout _⟩
set_option maxRecDepth 100000 in
theorem refDeclForm_k1 (b : ByteArray) (s : Int) (l : List Int) {A : Option Addr} {c : Nat} (w : World) :
 Calls ak 125 #[.agg #[.int .i64 1, .string b, .int .i64 s, .slice A l.length c]] w fun e' w' => e' = .returned (.bool (dcB ⟨1, b, s, l⟩)) /\ Below w.heap.size w w' := by
 have gout := @gA w
 go_enter Tryz.func125, Tryz.ntmps125
 go_upto_region 1 with (fail)
 refine bE ?_
 intro gg
 go_wp2_with fail
 rcases aJ (cM b) with h1 | h1
 all_goals
  refine (aD (g := gg) (dM h1 gg.W)).mono ?_
  rintro _ _ ⟨rfl, gg, rfl⟩
 ·rcases cu s 0 with h2 | h2
  ·have h3 : ¬ 0 <= s := by omega
   go_wp2_with fail
   go_ret
   exact ⟨aC (by simp [dcB, h1, h3] <;> (intros; omega)), gout _⟩
  ·have h3 : ¬ s < 0 := by omega
   rcases l with _ | ⟨y, r⟩
   all_goals
    (try have h6 : ((r.length : Int) + 1 == 0) = J := by simp; omega)
    go_wp2_with fail
    go_ret
    exact ⟨aC (by simp [dcB, h1, h2]; try omega), gout _⟩
 ·go_wp2_with fail
  go_ret
  exact ⟨aC (by simp [dcB, h1]), gout _⟩
set_option maxRecDepth 100000 in
theorem refDeclForm_k2 (b : ByteArray) (s : Int) (l : List Int) {A : Option Addr} {c : Nat} (w : World) :
 Calls ak 125 #[.agg #[.int .i64 2, .string b, .int .i64 s, .slice A l.length c]] w fun e' w' => e' = .returned (.bool (dcB ⟨2, b, s, l⟩)) /\ Below w.heap.size w w' := by
 have gout := @gA w
 go_enter Tryz.func125, Tryz.ntmps125
 go_upto_region 1 with (fail)
 refine bE ?_
 intro gg
 go_wp2_with fail
 rcases aJ (cM b) with h1 | h1
 all_goals
  refine (aD (g := gg) (dM h1 gg.W)).mono ?_
  rintro _ _ ⟨rfl, gg, rfl⟩
 ·rcases cu s 0 with h2 | h2
  ·have h3 : ¬ 0 <= s := by omega
   go_wp2_with fail
   go_ret
   exact ⟨aC (by simp [dcB, h1, h3] <;> (intros; omega)), gout _⟩
  ·have h3 : ¬ s < 0 := by omega
   rcases l with _ | ⟨y, r⟩
   all_goals
    (try have h6 : ((r.length : Int) + 1 == 0) = J := by simp; omega)
    go_wp2_with fail
    go_ret
    exact ⟨aC (by simp [dcB, h1, h2]; try omega), gout _⟩
 ·go_wp2_with fail
  go_ret
  exact ⟨aC (by simp [dcB, h1]), gout _⟩
set_option maxRecDepth 100000 in
theorem refDeclForm_k3 (b : ByteArray) (s : Int) (l : List Int) {A : Option Addr} {c : Nat} (w : World) :
 Calls ak 125 #[.agg #[.int .i64 3, .string b, .int .i64 s, .slice A l.length c]] w fun e' w' => e' = .returned (.bool (dcB ⟨3, b, s, l⟩)) /\ Below w.heap.size w w' := by
 have gout := @gA w
 go_enter Tryz.func125, Tryz.ntmps125
 go_upto_region 1 with (fail)
 refine bE ?_
 intro gg
 go_wp2_with fail
 rcases aJ (cM b) with h1 | h1
 all_goals
  refine (aD (g := gg) (dM h1 gg.W)).mono ?_
  rintro _ _ ⟨rfl, gg, rfl⟩
 ·rcases cu s 0 with h2 | h2
  ·have h3 : ¬ 0 <= s := by omega
   go_wp2_with fail
   go_ret
   exact ⟨aC (by simp [dcB, h1, h3] <;> (intros; omega)), gout _⟩
  ·have h3 : ¬ s < 0 := by omega
   rcases cu 0 s with h4 | h4
   ·rcases l with _ | ⟨y, r⟩
    all_goals
     go_wp2_with fail
     go_ret
     exact ⟨aC (by simp [dcB, h1, h2, h4]), gout _⟩
   ·have h5 : ¬ 0 < s := by omega
    rcases l with _ | ⟨y, r⟩
    all_goals
     go_wp2_with fail
     go_ret
     exact ⟨aC (by simp [dcB, h1, h2, h5]), gout _⟩
 ·go_wp2_with fail
  go_ret
  exact ⟨aC (by simp [dcB, h1]), gout _⟩
set_option maxRecDepth 100000 in
theorem refDeclForm_k4 (b : ByteArray) (s : Int) (l : List Int) {A : Option Addr} {c : Nat} (w : World) :
 Calls ak 125 #[.agg #[.int .i64 4, .string b, .int .i64 s, .slice A l.length c]] w fun e' w' => e' = .returned (.bool (dcB ⟨4, b, s, l⟩)) /\ Below w.heap.size w w' := by
 have gout := @gA w
 go_enter Tryz.func125, Tryz.ntmps125
 go_upto_region 1 with (fail)
 refine bE ?_
 intro gg
 go_wp2_with fail
 rcases aJ (cM b) with h1 | h1
 all_goals
  refine (aD (g := gg) (dM h1 gg.W)).mono ?_
  rintro _ _ ⟨rfl, gg, rfl⟩
 ·rcases cu s 0 with h2 | h2
  ·have h3 : ¬ 0 <= s := by omega
   go_wp2_with fail
   go_ret
   exact ⟨aC (by simp [dcB, h1, h3] <;> (intros; omega)), gout _⟩
  ·have h3 : ¬ s < 0 := by omega
   rcases l with _ | ⟨y, r⟩
   all_goals
    (try have h6 : ((r.length : Int) + 1 == 0) = J := by simp; omega)
    go_wp2_with fail
    go_ret
    exact ⟨aC (by simp [dcB, h1, h2]; try omega), gout _⟩
 ·go_wp2_with fail
  go_ret
  exact ⟨aC (by simp [dcB, h1]), gout _⟩
set_option maxRecDepth 100000 in
theorem refDeclForm_k5 (b : ByteArray) (s : Int) (l : List Int) {A : Option Addr} {c : Nat} (w : World) :
 Calls ak 125 #[.agg #[.int .i64 5, .string b, .int .i64 s, .slice A l.length c]] w fun e' w' => e' = .returned (.bool (dcB ⟨5, b, s, l⟩)) /\ Below w.heap.size w w' := by
 have gout := @gA w
 go_enter Tryz.func125, Tryz.ntmps125
 go_upto_region 1 with (fail)
 refine bE ?_
 intro gg
 go_wp2_with fail
 rcases aJ (cM b) with h1 | h1
 all_goals
  refine (aD (g := gg) (dM h1 gg.W)).mono ?_
  rintro _ _ ⟨rfl, gg, rfl⟩
 ·rcases cu s 0 with h2 | h2
  ·have h3 : ¬ 0 <= s := by omega
   go_wp2_with fail
   go_ret
   exact ⟨aC (by simp [dcB, h1, h3] <;> (intros; omega)), gout _⟩
  ·have h3 : ¬ s < 0 := by omega
   rcases l with _ | ⟨y, r⟩
   all_goals
    (try have h6 : ((r.length : Int) + 1 == 0) = J := by simp; omega)
    go_wp2_with fail
    go_ret
    exact ⟨aC (by simp [dcB, h1, h2]; try omega), gout _⟩
 ·go_wp2_with fail
  go_ret
  exact ⟨aC (by simp [dcB, h1]), gout _⟩
theorem nL (x : S70) (A : Option Addr) (c : Nat) (w : World) : Calls ak 125 #[.agg #[.int .i64 x.f0, .string x.f1, .int .i64 x.f2, .slice A x.f3.length c]] w fun e' w' => e' = .returned (.bool (dcB x)) /\ Below w.heap.size w w' := by
 obtain ⟨a, b, s, l⟩ := x
 rcases kinds5 a with h | ⟨h, h'⟩ | rfl | rfl | rfl | rfl | rfl
 ·exact qN a h b s l w
 ·exact pU a h h' b s l w
 ·exact refDeclForm_k1 b s l w
 ·exact refDeclForm_k2 b s l w
 ·exact refDeclForm_k3 b s l w
 ·exact refDeclForm_k4 b s l w
 ·exact refDeclForm_k5 b s l w
end
section
variable (nm : ByteArray) (wd ln : Int) (ds : List S70) (bd : List S119) (A3 : Option Addr) (c3 : Nat) (A4 : Option Addr) (c4 : Nat)
section
attribute [local go_sem] G.cell
def dG (nm : ByteArray) (wd ln : Int) (ds : List S70) (bd : List S119) : Bool := cM nm && decide (0 <= wd) && decide (0 <= ln) && (ds.all dcB && bdB bd)
section
variable {nm : ByteArray} {wd ln : Int} {ds : List S70} {bd : List S119}
theorem form_no1 (h : cM nm = J) : dG nm wd ln ds bd = J := by unfold dG; rw [h]; rfl
theorem form_no2 (h : wd < 0) : dG nm wd ln ds bd = J := by unfold dG; rw [decide_eq_false (show ¬ 0 <= wd by omega)]; simp
theorem form_no3 (h : ln < 0) : dG nm wd ln ds bd = J := by unfold dG; rw [decide_eq_false (show ¬ 0 <= ln by omega)]; simp
theorem form_yes (h1 : cM nm = af) (h2 : 0 <= wd) (h3 : 0 <= ln) : dG nm wd ln ds bd = (ds.all dcB && bdB bd) := by unfold dG; rw [h1, decide_eq_true h2, decide_eq_true h3]; simp
end
theorem mO {l : List S70} {y : S70} (h : y ∈ l) (hn : dcB y = J) : l.all dcB = J := by
 rw [List.all_eq_false]
 exact ⟨y, h, by rw [hn]; decide⟩
theorem dO {l : List S70} {k : Nat} (hlt : k < l.length) : aG l (k : Int) ∈ l := by
 unfold aG; rw [av, au, az hlt]; exact ef _
theorem rF {l : List S70} (h : ∀ j, j < l.length -> dcB (aG l (j : Int)) = af) : l.all dcB = af := by
 rw [dz]
 intro y hy
 obtain ⟨j, hj, rfl⟩ := fz hy
 have := h j hj
 unfold aG at this
 rwa [av, au, az hj] at this
set_option maxRecDepth 100000 in
theorem Form_walk (w : World) (hd : k70.C w A3 ds.length ds) (hld : ds.length <= c3) (hb : dC.C w A4 bd.length bd) (hlb : bd.length <= c4) :
 Calls ak 75 #[.agg #[.string nm, .int .i64 wd, .int .i64 ln, .slice A3 ds.length c3, .slice A4 bd.length c4]] w fun e w' => e = .returned (.bool (dG nm wd ln ds bd)) /\ Below w.heap.size w w' := by
 have gout := @gA w
 have goutA : ∀ {o : Obj} (g : G (w.alloc o)) (o' : Obj), Below w.heap.size w (g.W.alloc o') := fun g o' => (gout g).alloc (gout g).size o'
 have hlm := hd.2.1
 have HD := I hd
 have HB := I hb
 have HLB := I hlb
 clear hd hb hlb
 go_enter Tryz.func75, Tryz.ntmps75
 go_upto_region 1 with (fail)
 refine bE ?_
 intro gg
 go_wp2_with fail
 rcases aJ (cM nm) with h1 | h1
 all_goals
  refine (aD (g := gg) (fW h1 gg.W)).mono ?_
  rintro _ _ ⟨rfl, gg, rfl⟩
 ·rcases cu wd 0 with h2 | h2
  ·go_wp2_with fail
   go_ret
   exact ⟨aC (form_no2 h2).symm, gout _⟩
  rcases cu ln 0 with h3 | h3
  ·have h2' : ¬ wd < 0 := by omega
   go_wp2_with fail
   go_ret
   exact ⟨aC (form_no3 h3).symm, gout _⟩
  ·have h2' : ¬ wd < 0 := by omega
   have h3' : ¬ ln < 0 := by omega
   have FY := I (form_yes (ds := ds) (bd := bd) h1 h2 h3)
   clear h2 h3
   go_wp2
   clear h1 h2' h3'
   go_loopw [22] (fun i W => ∃ (k : Nat) (g : G (gw gg)), i = .int .i64 k /\ W = g.W /\ k <= ds.length /\ Aside0 (∀ j, j < k -> dcB (aG ds (j : Int)) = af)) (fun i _ => ds.length - (intOf i).toNat)
   case atStart => exact ⟨0, gg, rfl, rfl, bi _, ⟨fun j hj => absurd hj (cq _)⟩⟩
   case round =>
    obtain ⟨k, g, rfl, rfl, hk, HK⟩ := hrel
    by_cases hlt : k < ds.length
    ·obtain ⟨ad, A3', c3', e1, q0, q1, q2, q3, l3, g3⟩ := dN HD.out (k : Int) (bc _) (by omega)
     cases e1
     rw [av] at q0 q1 q2 q3
     replace q0 := ((gout g).cell (aj w _ q0)).trans q0
     replace q1 := ((gout g).cell (aj w _ q1)).trans q1
     replace q2 := ((gout g).cell (aj w _ q2)).trans q2
     replace q3 := ((gout g).cell (aj w _ q3)).trans q3
     have hi1 : (k : Int) < (ds.length : Int) := by omega
     have MEM := I (dO hlt)
     rcases aJ (dcB (aG ds (k : Int))) with hy | hy
     all_goals
      have HY := I hy
      clear hy
      go_wp2_with fail
      refine (cN (g := g) (declForm_calls (aG ds (k : Int)) A3' c3' _)).mono ?_
      rw [HY.out]
      rintro _ _ ⟨rfl, gg, rfl⟩
      go_wp2
     ·refine ⟨⟨k + 1, gg, by go_num, rfl, by omega, ⟨fun j hj => ?_⟩⟩, by simp [intOf]; omega⟩
      by_cases hj2 : j = k
      ·rw [hj2]; exact HY.out
      ·exact HK.out j (by omega)
     ·go_ret
      exact ⟨aC (by rw [FY.out, mO MEM.out HY.out]; rfl), gout _⟩
    ·have hall := I (rF (fun j hj => HK.out j (by omega)))
     clear HK
     go_wp2_with fail
     refine (aD (g := g) (bodyForm_calls bd A4 c4 _ (Kd.aF HB.out (gout g)) HLB.out)).mono ?_
     rintro _ _ ⟨rfl, gg, rfl⟩
     go_wp2
     go_ret
     exact ⟨aC (by rw [FY.out, hall.out]; rfl), gout _⟩
 ·go_wp2_with fail
  go_ret
  exact ⟨aC (form_no1 h1).symm, gout _⟩
set_option maxRecDepth 100000 in
theorem refForm_walk (w : World) (hd : k70.C w A3 ds.length ds) (hld : ds.length <= c3) (hb : dC.C w A4 bd.length bd) (hlb : bd.length <= c4) :
 Calls ak 78 #[.agg #[.string nm, .int .i64 wd, .int .i64 ln, .slice A3 ds.length c3, .slice A4 bd.length c4]] w fun e w' => e = .returned (.bool (dG nm wd ln ds bd)) /\ Below w.heap.size w w' := by
 have gout := @gA w
 have goutA : ∀ {o : Obj} (g : G (w.alloc o)) (o' : Obj), Below w.heap.size w (g.W.alloc o') := fun g o' => (gout g).alloc (gout g).size o'
 have hlm := hd.2.1
 have HD := I hd
 have HB := I hb
 have HLB := I hlb
 clear hd hb hlb
 go_enter Tryz.func78, Tryz.ntmps78
 go_upto_region 1 with (fail)
 refine bE ?_
 intro gg
 go_wp2_with fail
 rcases aJ (cM nm) with h1 | h1
 all_goals
  refine (aD (g := gg) (dM h1 gg.W)).mono ?_
  rintro _ _ ⟨rfl, gg, rfl⟩
 ·rcases cu wd 0 with h2 | h2
  ·go_wp2_with fail
   go_ret
   exact ⟨aC (form_no2 h2).symm, gout _⟩
  rcases cu ln 0 with h3 | h3
  ·have h2' : ¬ wd < 0 := by omega
   go_wp2_with fail
   go_ret
   exact ⟨aC (form_no3 h3).symm, gout _⟩
  ·have h2' : ¬ wd < 0 := by omega
   have h3' : ¬ ln < 0 := by omega
   have FY := I (form_yes (ds := ds) (bd := bd) h1 h2 h3)
   clear h2 h3
   go_wp2
   clear h1 h2' h3'
   go_loopw [3] (fun i W => ∃ (k : Nat) (g : G (gw gg)), i = .int .i64 k /\ W = g.W /\ k <= ds.length /\ Aside0 (∀ j, j < k -> dcB (aG ds (j : Int)) = af)) (fun i _ => ds.length - (intOf i).toNat)
   case atStart => exact ⟨0, gg, rfl, rfl, bi _, ⟨fun j hj => absurd hj (cq _)⟩⟩
   case round =>
    obtain ⟨k, g, rfl, rfl, hk, HK⟩ := hrel
    by_cases hlt : k < ds.length
    ·obtain ⟨ad, A3', c3', e1, q0, q1, q2, q3, l3, g3⟩ := dN HD.out (k : Int) (bc _) (by omega)
     cases e1
     rw [av] at q0 q1 q2 q3
     replace q0 := ((gout g).cell (aj w _ q0)).trans q0
     replace q1 := ((gout g).cell (aj w _ q1)).trans q1
     replace q2 := ((gout g).cell (aj w _ q2)).trans q2
     replace q3 := ((gout g).cell (aj w _ q3)).trans q3
     have hi1 : (k : Int) < (ds.length : Int) := by omega
     have MEM := I (dO hlt)
     rcases aJ (dcB (aG ds (k : Int))) with hy | hy
     all_goals
      have HY := I hy
      clear hy
      go_wp2_with fail
      refine (aD (g := g) (nL (aG ds (k : Int)) A3' c3' _)).mono ?_
      rw [HY.out]
      rintro _ _ ⟨rfl, gg, rfl⟩
      go_wp2
     ·refine ⟨⟨k + 1, gg, by go_num, rfl, by omega, ⟨fun j hj => ?_⟩⟩, by simp [intOf]; omega⟩
      by_cases hj2 : j = k
      ·rw [hj2]; exact HY.out
      ·exact HK.out j (by omega)
     ·go_ret
      exact ⟨aC (by rw [FY.out, mO MEM.out HY.out]; rfl), gout _⟩
    ·have hall := I (rF (fun j hj => HK.out j (by omega)))
     clear HK
     go_wp2_with fail
     refine (aD (g := g) (pH bd A4 c4 _ (Kd.aF HB.out (gout g)) HLB.out)).mono ?_
     rintro _ _ ⟨rfl, gg, rfl⟩
     go_wp2
     go_ret
     exact ⟨aC (by rw [FY.out, hall.out]; rfl), gout _⟩
 ·go_wp2_with fail
  go_ret
  exact ⟨aC (form_no1 h1).symm, gout _⟩
end
end
section
attribute [local go_sem] G.cell
mutual
def fY : S116 -> Nat
 | ⟨_, _, _, l⟩ => iQ l + 1
def iQ : List S116 -> Nat
 | [] => 0
 | x :: r => max (fY x) (iQ r)
end
theorem oN (x : S116) : fY x = iQ x.f3 + 1 := by
 obtain ⟨a, b, s, l⟩ := x
 rw [fY]
theorem pM (l : List S116) (x : S116) : iQ (l ++ [x]) = max (iQ l) (fY x) := by
 induction l with
 | nil => simp [iQ]
 | cons y r ih => rw [gq, iQ, ih, iQ]; omega
theorem deepL_mem {l : List S116} {x : S116} (h : x ∈ l) : fY x <= iQ l := by
 induction l with
 | nil => cases h
 | cons y r ih =>
   rw [iQ]
   rcases gi.1 h with rfl | h
   ·omega
   ·have := ih h; omega
theorem dK {l : List S116} {k : Nat} (hlt : k < l.length) : l.take (k + 1) = l.take k ++ [bO l (k : Int)] := by
 unfold bO
 rw [av, au, az hlt, List.take_add_one, az hlt]
 rfl
theorem gM {l : List S116} {k : Nat} (hlt : k < l.length) : bO l (k : Int) ∈ l := by
 unfold bO; rw [av, au, az hlt]; exact ef _
theorem eK {l : List S116} {x : S116} {n : Nat} (hx : x.f3 = l) {y : S116} (hy : y ∈ l) (h : cd x <= n + 1) : cd y <= n := by
 have := eu hy
 obtain ⟨a, b, c, l⟩ := x
 simp at h hx
 subst hx
 omega
theorem kT {n : Nat} (h : n < 9223372036854775807) : wrap64 ((n : Int) + 1) = ((n + 1 : Nat) : Int) := by unfold wrap64; omega
abbrev gw0 {w : World} (_ : G w) : World := w
theorem aH {P : Program} {c : Code} {Q : Exit -> Act -> World -> Prop} {a : Act} {w : World} (h : ∀ g : G w, c.wp P Q a g.W) : c.wp P Q a w := h ⟨w, aq _ _⟩
def oL (f : FuncId) (x : S116) (r : Int) : Prop := ∀ (A : Option Addr) (c : Nat) (w : World), cQ.C w A x.f3.length x.f3 -> x.f3.length <= c ->
 Calls ak f #[.agg #[.int .i64 x.f0, .int .u64 x.f1, .string x.f2, .slice A x.f3.length c]] w fun e w' => e = .returned (.int .i64 r) /\ Below w.heap.size w w'
set_option maxRecDepth 100000 in
theorem deep_walk (x : S116) (hb : fY x <= 1099511627776) (ih : ∀ y ∈ x.f3, oL 245 y (fY y)) : oL 245 x (fY x) := by
 intro A c w hc hl
 have gout := @gA w
 rw [oN] at hb ⊢
 obtain ⟨x0, x1, x2, l⟩ := x
 simp only at *
 have IH := I ih
 have HC := I hc
 have HB := I hb
 have hlm := hc.2.1
 clear ih hc hb
 go_enter Tryz.func245, Tryz.ntmps245
 go_upto_region 1 with (fail)
 refine aH ?_
 intro gg
 go_wp2
 go_loopw [4, 3] (fun i n W => ∃ (k : Nat) (g : G (gw0 gg)), i = .int .i64 k /\ n = .int .i64 (iQ (l.take k)) /\ W = g.W /\ k <= l.length) (fun i n _ => l.length - (intOf i).toNat)
 case atStart => exact ⟨0, gg, rfl, rfl, rfl, bi _⟩
 case round =>
  obtain ⟨k, g, rfl, rfl, rfl, hk⟩ := hrel
  by_cases hlt : k < l.length
  ·obtain ⟨ad, A3, c3, e1, q0, q1, q2, q3, l3, g3⟩ := fR HC.out (k : Int) (bc _) (by omega)
   cases e1
   rw [av] at q0 q1 q2 q3
   replace q0 := ((gout g).cell (aj w _ q0)).trans q0
   replace q1 := ((gout g).cell (aj w _ q1)).trans q1
   replace q2 := ((gout g).cell (aj w _ q2)).trans q2
   replace q3 := ((gout g).cell (aj w _ q3)).trans q3
   have hi1 : (k : Int) < (l.length : Int) := by omega
   have G3 := I g3
   have L3 := I l3
   clear g3 l3
   have MEM := I (gM hlt)
   have T := I (congrArg iQ (dK hlt))
   go_wp2_with fail
   refine (aD (g := g) (IH.out _ MEM.out A3 c3 g.W (Kd.aF G3.out (gout g)) L3.out)).mono ?_
   rintro _ _ ⟨rfl, gg2, rfl⟩
   rcases gj (iQ (l.take k)) (fY (bO l (k : Int))) with h | h
   ·have h2 : (iQ (l.take k) : Int) < (fY (bO l (k : Int)) : Int) := by omega
    go_wp2_with fail
    have T2 := T.out
    rw [pM] at T2
    exact ⟨⟨k + 1, gg2, by go_num, by rw [T2, Nat.max_eq_right (Nat.le_of_lt h)], rfl, by omega⟩, by simp [intOf]; omega⟩
   ·have h2 : ¬ (iQ (l.take k) : Int) < (fY (bO l (k : Int)) : Int) := by omega
    go_wp2_with fail
    have T2 := T.out
    rw [pM] at T2
    exact ⟨⟨k + 1, gg2, by go_num, by rw [T2, Nat.max_eq_left h], rfl, by omega⟩, by simp [intOf]; omega⟩
  ·have W := I (kT (n := iQ l) (by have := HB.out; omega))
   go_wp2_with fail
   go_ret
   refine ⟨?_, gout g⟩
   rw [show k = l.length by omega, di, W.out]
   rfl
theorem deep_calls : ∀ (n : Nat) (x : S116), cd x <= n -> fY x <= 1099511627776 -> oL 245 x (fY x) := by
 intro n
 induction n with
 | zero => intro x h; obtain ⟨a, b, c, l⟩ := x; simp at h
 | succ n ih =>
   intro x h hb
   exact deep_walk x hb fun y hy => ih y (eK rfl hy h) (by have := deepL_mem hy; rw [oN] at hb; omega)
end
end Go.Proofs.YtfigjpehecibeaaGreat.L
namespace Go.Proofs.YtfigjpehecibeaaGreat.L
open Go.RowKit Go.Proofs.YtfigjpehecibeaaGreatW.PrintWords Go.Proofs.YtfigjpehecibeaaGreatW.PrintLast Go.Proofs.YtfigjpehecibeaaGreatW.PrintMore
section
attribute [local go_sem] iX gY kS j9 gQ gO iV iZ
def cadenceref16_power.l0 : Nat -> Int -> Int -> Option (Bool)
 | 0, _, _ => ag
 | k + 1, x0, x3 => if x3 <= 256 then (if x0 = x3 then (ac af) else (cadenceref16_power.l0 k x0 (IntKind.u64.wrap (2 * x3)))) else (ac J)
def cadenceref16_power.f (k : Nat) (a0 : Int) : Option (Bool) := cadenceref16_power.l0 k a0 1
set_option maxRecDepth 100000 in
theorem cadenceref16_power.calls (k : Nat) (a0 : Int) (r : Bool) (w : World) (h : cadenceref16_power.f k a0 = ac r) :
 Calls ak 224 #[.int .u64 a0] w fun e w' => e = .returned (.bool r) /\ Drawn0 w w' := by
 have H : (cadenceref16_power.l0 k a0 1) = ac r := h
 clear h
 have H' := I H
 clear H
 go_enter Tryz.func224, Tryz.ntmps224
 go_wp2
 go_loopg [3] k (fun kq v3 w' => ∃ (x3_1 : Int), v3 = .int .u64 x3_1 /\ Aside0 (cadenceref16_power.l0 kq a0 x3_1 = ac r) /\ Aside0 (kq <= k) /\ Drawn0 w w')
 case atStart => exact ⟨(1), (by first | rfl | (simp; done) | (simp [*]; done)), H', ⟨ar _⟩, by repeat (first | exact cz _ | apply da)⟩
 case round =>
  clear H'
  obtain ⟨x3_1, rfl, HA, HK1, ⟨m1, rfl⟩⟩ := hrel
  cases gk with
  | zero => exact absurd HA.out (by simp [cadenceref16_power.l0])
  | succ k1 =>
    have H := HA.out
    clear HA
    simp only [cadenceref16_power.l0] at H
    by_cases c2 : x3_1 <= 256
    ·rw [if_pos c2] at H
     have c2b0 : decide (x3_1 <= 256) = af := decide_eq_true c2
     clear c2
     by_cases c3 : a0 = x3_1
     ·rw [if_pos c3] at H
      have c3b0 : (a0 == x3_1) = af := beq_iff_eq.mpr c3
      have c3b1 : (a0 != x3_1) = J := bne_eq_false_iff_eq.mpr c3
      clear c3
      obtain rfl := ck H
      go_wp2
      go_ret
      exact ⟨by first | rfl | (simp; done) | (simp [*]; done), by repeat (first | exact cz _ | apply da)⟩
     ·rw [if_neg c3] at H
      have c3b0 : (a0 == x3_1) = J := beq_eq_false_iff_ne.mpr c3
      have c3b1 : (a0 != x3_1) = af := bne_iff_ne.mpr c3
      have H' := I H
      clear H
      go_wp2
      go_roundg k1
      case measure => have := HK1.out; omega
      case rel => exact ⟨(IntKind.u64.wrap (2 * x3_1)), (by first | rfl | (simp; done) | (simp [*]; done)), H', ⟨by have := HK1.out; omega⟩, by repeat (first | exact cz _ | apply da)⟩
    ·rw [if_neg c2] at H
     have c2b0 : decide (x3_1 <= 256) = J := decide_eq_false c2
     clear c2
     obtain rfl := ck H
     go_wp2
     go_ret
     exact ⟨by first | rfl | (simp; done) | (simp [*]; done), by repeat (first | exact cz _ | apply da)⟩
def cadenceref16_Words.f (a0_0 : Int) (a0_1 : ByteArray) (a0_2 : Int) (l0_3 : List Int) : Option (Int) := if a0_2 = 0 then (ac 1) else (ac a0_2)
set_option maxRecDepth 100000 in
theorem cadenceref16_Words.calls (a0_0 : Int) (a0_1 : ByteArray) (a0_2 : Int) (A0_3 : Option Addr) (c0_3 : Nat) (l0_3 : List Int) (r : Int) (w : World) (hr0_3 : Kd.C (Kd.int .u64) w A0_3 l0_3.length l0_3) (hc0_3 : l0_3.length <= c0_3) (h : cadenceref16_Words.f a0_0 a0_1 a0_2 l0_3 = ac r) :
 Calls ak 56 #[.agg #[.int .i64 a0_0, .string a0_1, .int .i64 a0_2, .slice A0_3 l0_3.length c0_3]] w fun e w' => e = .returned (.int .i64 r) /\ Below w.heap.size w w' := by
 have H := I h
 clear h hr0_3 hc0_3
 go_enter Tryz.func56, Tryz.ntmps56
 go_wp2
 all_goals (
  go_ret
  have h := H.out
  unfold cadenceref16_Words.f at h
  refine ⟨?_, by first | exact (aq _ _).alloc (ar _) _ | exact aq _ _ | (repeat (first | exact cz _ | apply da))⟩
  simp_all)
def cadenceref16_Decl.l0 : Nat -> ByteArray -> Int -> ByteArray -> Int -> Int -> List (S70) -> List (S119) -> Option (Int)
 | 0, _, _, _, _, _, _, _ => ag
 | k + 1, x1, x5, x167000, x167001, x167002, x167003, x167004 => if x5 < (x167003.length : Int) then (if 0 <= x5 then (if ((aG x167003 x5).f1).toList = x1.toList then (ac x5) else (cadenceref16_Decl.l0 k x1 (wrap64 (x5 + 1)) x167000 x167001 x167002 x167003 x167004)) else (ag)) else (ac (-1))
def cadenceref16_Decl.f (k : Nat) (a0_0 : ByteArray) (a0_1 : Int) (a0_2 : Int) (l0_3 : List (S70)) (l0_4 : List (S119)) (a1 : ByteArray) : Option (Int) := cadenceref16_Decl.l0 k a1 0 a0_0 a0_1 a0_2 l0_3 l0_4
set_option maxRecDepth 100000 in
theorem cadenceref16_Decl.calls (k : Nat) (a0_0 : ByteArray) (a0_1 : Int) (a0_2 : Int) (A0_3 : Option Addr) (c0_3 : Nat) (l0_3 : List (S70)) (A0_4 : Option Addr) (c0_4 : Nat) (l0_4 : List (S119)) (a1 : ByteArray) (r : Int) (w : World) (hr0_3 : Kd.C k70 w A0_3 l0_3.length l0_3) (hc0_3 : l0_3.length <= c0_3) (hr0_4 : Kd.C dC w A0_4 l0_4.length l0_4) (hc0_4 : l0_4.length <= c0_4) (h : cadenceref16_Decl.f k a0_0 a0_1 a0_2 l0_3 l0_4 a1 = ac r) :
 Calls ak 225 #[.agg #[.string a0_0, .int .i64 a0_1, .int .i64 a0_2, .slice A0_3 l0_3.length c0_3, .slice A0_4 l0_4.length c0_4], .string a1] w fun e w' => e = .returned (.int .i64 r) /\ Below w.heap.size w w' := by
 have hu29 := Tryz.underlying25
 have HR0_3 := I hr0_3
 have HC0_3 := I hc0_3
 clear hr0_3 hc0_3
 have HR0_4 := I hr0_4
 have HC0_4 := I hc0_4
 clear hr0_4 hc0_4
 have HB := I (aq w.heap.size w)
 have H : (cadenceref16_Decl.l0 k a1 0 a0_0 a0_1 a0_2 l0_3 l0_4) = ac r := h
 clear h
 have H' := I H
 clear H
 go_enter Tryz.func225, Tryz.ntmps225
 go_wp2_with (first | ((with_reducible refine o6 (N := 2) rfl ?_); refine pG ?hg (N := 2) ?hd (cs := #[.string a0_0, .int .i64 a0_1, .int .i64 a0_2, .slice A0_3 l0_3.length c0_3, .slice A0_4 l0_4.length c0_4]) (t := 25) ?hr ?_; (case hd => rfl); (case hg => rfl); (case hr => first | (go_simp; done) | (go_simp; rfl)); intro gb166 hg w3 hbox hb; have n0_ := I (gI (by repeat (first | (with_reducible first | exact HB.out | apply aR | apply aO | apply aU) | exact HB.out)) hb); have n1_ := I (hbox); have n2_ := I ((by rw [hg]; exact (gD (by repeat (first | (with_reducible first | exact HB.out | apply aR | apply aO | apply aU) | exact HB.out))) : w.heap.size <= gb166)); have n3_ := I ((by rw [hg]; exact (gD (by repeat (first | (with_reducible first | exact HB.out | apply aR | apply aO | apply aU) | exact HB.out))) : w.heap.size <= gb166)); clear HB; have HB := n0_; have BK166 := n1_; have GW166 := n2_; have GE166 := n3_; clear n0_ n1_ n2_ n3_; clear hb hbox hg))
 go_loopg [5] k (fun kq v5 w' => ∃ (x5_1 : Int), v5 = .int .i64 x5_1 /\ Aside0 (cadenceref16_Decl.l0 kq a1 x5_1 a0_0 a0_1 a0_2 l0_3 l0_4 = ac r) /\ Aside0 (kq <= k) /\ Aside0 (w'.heap[gb166]? = ac (.cells #[.string a0_0, .int .i64 a0_1, .int .i64 a0_2, (.slice A0_3 l0_3.length c0_3), (.slice A0_4 l0_4.length c0_4)] 25 (0, 0))) /\ Aside0 (Below w.heap.size w w'))
 case atStart => exact ⟨(0), (by first | rfl | (simp; done) | (simp [*]; done)), H', ⟨ar _⟩, ⟨by (with_reducible repeat (first | refine blk_drewN ?_ _ | refine blk_drew ?_ | refine eP ?_ _)); exact BK166.out⟩, ⟨by repeat (first | (with_reducible first | exact HB.out | apply aR | apply aO | apply aU | refine jQ ?_ GE166.out) | exact HB.out)⟩⟩
 case round =>
  clear H'
  try clear c2
  try clear p2
  obtain ⟨x5_1, rfl, HA, HK1, BK166, HB⟩ := hrel
  cases gk with
  | zero => exact absurd HA.out (by simp [cadenceref16_Decl.l0])
  | succ k1 =>
    have H := HA.out
    clear HA
    simp only [cadenceref16_Decl.l0] at H
    by_cases c4 : x5_1 < (l0_3.length : Int)
    ·rw [if_pos c4] at H
     have c4b0 : decide (x5_1 < (l0_3.length : Int)) = af := decide_eq_true c4
     clear c4
     by_cases c5 : 0 <= x5_1
     ·rw [if_pos c5] at H
      have c5b0 : decide (0 <= x5_1) = af := decide_eq_true c5
      clear c5
      by_cases c6 : ((aG l0_3 x5_1).f1).toList = a1.toList
      ·rw [if_pos c6] at H
       have c6b0 : (((aG l0_3 x5_1).f1).toList == a1.toList) = af := beq_iff_eq.mpr c6
       have c6b1 : (((aG l0_3 x5_1).f1).toList != a1.toList) = J := bne_eq_false_iff_eq.mpr c6
       clear c6
       obtain rfl := ck H
       have hcz7_0 : wr.cell? ⟨gb166, 0, ag⟩ = ac (.string a0_0) := (aA BK166.out 0).trans rfl
       have hcz7_1 : wr.cell? ⟨gb166, 1, ag⟩ = ac (.int .i64 a0_1) := (aA BK166.out 1).trans rfl
       have hcz7_2 : wr.cell? ⟨gb166, 2, ag⟩ = ac (.int .i64 a0_2) := (aA BK166.out 2).trans rfl
       have hcz7_3 : wr.cell? ⟨gb166, 3, ag⟩ = ac (.slice A0_3 l0_3.length c0_3) := (aA BK166.out 3).trans rfl
       have hcz7_4 : wr.cell? ⟨gb166, 4, ag⟩ = ac (.slice A0_4 l0_4.length c0_4) := (aA BK166.out 4).trans rfl
       have hfz7_0 := aI BK166.out 0
       have hfz7_1 := aI BK166.out 1
       have hfz7_2 := aI BK166.out 2
       have hfz7_3 := aI BK166.out 3
       have hfz7_4 := aI BK166.out 4
       have p167 : 0 <= (x5_1 : Int) := of_decide_eq_true (by first | (with_reducible assumption) | assumption)
       have q167 : x5_1 < (l0_3.length : Int) := of_decide_eq_true (by first | (with_reducible assumption) | assumption)
       obtain ⟨ad167, A167_3, c167_3, e167, hx167_0, hx167_1, hx167_2, hx167_3, hl167_3, hi167_3⟩ := dN HR0_3.out x5_1 p167 q167
       cases e167
       replace hx167_0 := (HB.out.cell (aj w _ hx167_0)).trans hx167_0
       replace hx167_1 := (HB.out.cell (aj w _ hx167_1)).trans hx167_1
       replace hx167_2 := (HB.out.cell (aj w _ hx167_2)).trans hx167_2
       replace hx167_3 := (HB.out.cell (aj w _ hx167_3)).trans hx167_3
       have HR167_3 := I hi167_3
       have HC167_3 := I hl167_3
       clear hi167_3 hl167_3
       replace p167 := eq_true p167
       replace q167 := eq_true q167
       go_wp2
       go_ret
       exact ⟨by first | rfl | (simp [bV, bU] <;> rfl) | (simp [*, bV, bU] <;> rfl), by repeat (first | (with_reducible first | exact HB.out | apply aR | apply aO | apply aU | refine jQ ?_ GE166.out) | exact HB.out)⟩
      ·rw [if_neg c6] at H
       have c6b0 : (((aG l0_3 x5_1).f1).toList == a1.toList) = J := beq_eq_false_iff_ne.mpr c6
       have c6b1 : (((aG l0_3 x5_1).f1).toList != a1.toList) = af := bne_iff_ne.mpr c6
       have H' := I H
       clear H
       have hcz8_0 : wr.cell? ⟨gb166, 0, ag⟩ = ac (.string a0_0) := (aA BK166.out 0).trans rfl
       have hcz8_1 : wr.cell? ⟨gb166, 1, ag⟩ = ac (.int .i64 a0_1) := (aA BK166.out 1).trans rfl
       have hcz8_2 : wr.cell? ⟨gb166, 2, ag⟩ = ac (.int .i64 a0_2) := (aA BK166.out 2).trans rfl
       have hcz8_3 : wr.cell? ⟨gb166, 3, ag⟩ = ac (.slice A0_3 l0_3.length c0_3) := (aA BK166.out 3).trans rfl
       have hcz8_4 : wr.cell? ⟨gb166, 4, ag⟩ = ac (.slice A0_4 l0_4.length c0_4) := (aA BK166.out 4).trans rfl
       have hfz8_0 := aI BK166.out 0
       have hfz8_1 := aI BK166.out 1
       have hfz8_2 := aI BK166.out 2
       have hfz8_3 := aI BK166.out 3
       have hfz8_4 := aI BK166.out 4
       have p167 : 0 <= (x5_1 : Int) := of_decide_eq_true (by first | (with_reducible assumption) | assumption)
       have q167 : x5_1 < (l0_3.length : Int) := of_decide_eq_true (by first | (with_reducible assumption) | assumption)
       obtain ⟨ad167, A167_3, c167_3, e167, hx167_0, hx167_1, hx167_2, hx167_3, hl167_3, hi167_3⟩ := dN HR0_3.out x5_1 p167 q167
       cases e167
       replace hx167_0 := (HB.out.cell (aj w _ hx167_0)).trans hx167_0
       replace hx167_1 := (HB.out.cell (aj w _ hx167_1)).trans hx167_1
       replace hx167_2 := (HB.out.cell (aj w _ hx167_2)).trans hx167_2
       replace hx167_3 := (HB.out.cell (aj w _ hx167_3)).trans hx167_3
       have HR167_3 := I hi167_3
       have HC167_3 := I hl167_3
       clear hi167_3 hl167_3
       replace p167 := eq_true p167
       replace q167 := eq_true q167
       go_wp2
       go_roundg k1
       case measure => have := HK1.out; omega
       case rel => exact ⟨(wrap64 (x5_1 + 1)), (by first | rfl | (simp; done) | (simp [*]; done)), H', ⟨by have := HK1.out; omega⟩, ⟨by (with_reducible repeat (first | refine blk_drewN ?_ _ | refine blk_drew ?_ | refine eP ?_ _)); exact BK166.out⟩, ⟨by repeat (first | (with_reducible first | exact HB.out | apply aR | apply aO | apply aU | refine jQ ?_ GE166.out) | exact HB.out)⟩⟩
     ·rw [if_neg c5] at H
      exact absurd H (by simp)
    ·rw [if_neg c4] at H
     have c4b0 : decide (x5_1 < (l0_3.length : Int)) = J := decide_eq_false c4
     clear c4
     obtain rfl := ck H
     have hcz9_0 : wr.cell? ⟨gb166, 0, ag⟩ = ac (.string a0_0) := (aA BK166.out 0).trans rfl
     have hcz9_1 : wr.cell? ⟨gb166, 1, ag⟩ = ac (.int .i64 a0_1) := (aA BK166.out 1).trans rfl
     have hcz9_2 : wr.cell? ⟨gb166, 2, ag⟩ = ac (.int .i64 a0_2) := (aA BK166.out 2).trans rfl
     have hcz9_3 : wr.cell? ⟨gb166, 3, ag⟩ = ac (.slice A0_3 l0_3.length c0_3) := (aA BK166.out 3).trans rfl
     have hcz9_4 : wr.cell? ⟨gb166, 4, ag⟩ = ac (.slice A0_4 l0_4.length c0_4) := (aA BK166.out 4).trans rfl
     have hfz9_0 := aI BK166.out 0
     have hfz9_1 := aI BK166.out 1
     have hfz9_2 := aI BK166.out 2
     have hfz9_3 := aI BK166.out 3
     have hfz9_4 := aI BK166.out 4
     go_wp2
     go_ret
     exact ⟨by first | rfl | (simp [bV, bU] <;> rfl) | (simp [*, bV, bU] <;> rfl), by repeat (first | (with_reducible first | exact HB.out | apply aR | apply aO | apply aU | refine jQ ?_ GE166.out) | exact HB.out)⟩
def cadenceref16_fits.f (a0 : Int) (a1 : Int) : Option (Bool) := if a0 ≥ 64 then (ac af) else (if 0 <= (IntKind.u64.wrap (a0)) then (ac (decide (a1 < (shl .u64 1 (IntKind.u64.wrap (a0)))))) else (ag))
set_option maxRecDepth 100000 in
theorem cadenceref16_fits.calls (a0 : Int) (a1 : Int) (r : Bool) (w : World) (h : cadenceref16_fits.f a0 a1 = ac r) :
 Calls ak 226 #[.int .i64 a0, .int .u64 a1] w fun e w' => e = .returned (.bool r) /\ Drawn0 w w' := by
 have H : (if a0 ≥ 64 then (ac af) else (if 0 <= (IntKind.u64.wrap (a0)) then (ac (decide (a1 < (shl .u64 1 (IntKind.u64.wrap (a0)))))) else (ag))) = ac r := h
 clear h
 by_cases c3 : a0 ≥ 64
 ·rw [if_pos c3] at H
  have c3b0 : decide (64 <= a0) = af := decide_eq_true c3
  clear c3
  obtain rfl := ck H
  go_enter Tryz.func226, Tryz.ntmps226
  go_wp2
  go_ret
  exact ⟨by first | rfl | (simp; done) | (simp [*]; done), by repeat (first | exact cz _ | apply da)⟩
 ·rw [if_neg c3] at H
  have c3b0 : decide (64 <= a0) = J := decide_eq_false c3
  clear c3
  obtain ⟨ji4, hji4⟩ : ∃ j_ : Int, (IntKind.u64.wrap (a0)) = j_ := ⟨_, rfl⟩
  replace H : (if 0 <= (ji4) then (ac (decide (a1 < (shl .u64 1 (ji4))))) else (ag)) = ac r := by first | (rw [hji4] at H; exact H) | (simp only [hji4] at H ⊢; exact H)
  by_cases c5 : 0 <= (ji4)
  ·rw [if_pos c5] at H
   have c5b0 := eq_true c5
   have c5b1 : decide (0 <= (ji4)) = af := decide_eq_true c5
   clear c5
   obtain ⟨ji6, hji6⟩ : ∃ j_ : Int, (shl .u64 1 (ji4)) = j_ := ⟨_, rfl⟩
   replace H : (ac (decide (a1 < (ji6)))) = ac r := by first | (rw [hji6] at H; exact H) | (simp only [hji6] at H ⊢; exact H)
   have hji6_ : (IntKind.u64.wrap (1 * 2 ^ min (ji4).toNat 64)) = ji6 := hji6
   have hji6z : (ji4) <= 64 -> (IntKind.u64.wrap (1 * 2 ^ (ji4).toNat)) = ji6 := shl_small hji6
   have hji6u : (IntKind.u64.wrap (2 ^ min (ji4).toNat 64)) = ji6 := by have h_ := hji6_; rw [Int.one_mul] at h_; exact h_
   have hji6v : (ji4) <= 64 -> (IntKind.u64.wrap (2 ^ (ji4).toNat)) = ji6 := fun hle_ => by have h_ := hji6z hle_; rw [Int.one_mul] at h_; exact h_
   obtain rfl := ck H
   go_enter Tryz.func226, Tryz.ntmps226
   go_wp2
   go_ret
   exact ⟨by first | rfl | (simp; done) | (simp only [<- hji4, <- hji6] <;> (first | rfl | simp)) | (simp [*]; done), by repeat (first | exact cz _ | apply da)⟩
  ·rw [if_neg c5] at H
   exact absurd H (by simp)
def cadenceref16_in.l0 : Nat -> List ByteArray -> ByteArray -> Int -> Option (Bool)
 | 0, _, _, _ => ag
 | k + 1, x0, x1, x5 => if x5 < (x0.length : Int) then (if 0 <= x5 then (if (rdOf fe x0 x5).toList = x1.toList then (ac af) else (cadenceref16_in.l0 k x0 x1 (wrap64 (x5 + 1)))) else (ag)) else (ac J)
def cadenceref16_in.f (k : Nat) (l0 : List ByteArray) (a1 : ByteArray) : Option (Bool) := cadenceref16_in.l0 k l0 a1 0
set_option maxRecDepth 100000 in
theorem cadenceref16_in.calls (k : Nat) (A0 : Option Addr) (c0 : Nat) (l0 : List ByteArray) (a1 : ByteArray) (r : Bool) (w : World) (hr0 : Kd.C Kd.string w A0 l0.length l0) (hc0 : l0.length <= c0) (h : cadenceref16_in.f k l0 a1 = ac r) :
 Calls ak 131 #[.slice A0 l0.length c0, .string a1] w fun e w' => e = .returned (.bool r) /\ Drawn0 w w' := by
 have HR0 := I hr0
 have HC0 := I hc0
 clear hr0 hc0
 have H : (cadenceref16_in.l0 k l0 a1 0) = ac r := h
 clear h
 have H' := I H
 clear H
 go_enter Tryz.func131, Tryz.ntmps131
 go_wp2
 go_loopg [5] k (fun kq v5 w' => ∃ (x5_1 : Int), v5 = .int .i64 x5_1 /\ Aside0 (cadenceref16_in.l0 kq l0 a1 x5_1 = ac r) /\ Aside0 (kq <= k) /\ Drawn0 w w')
 case atStart => exact ⟨(0), (by first | rfl | (simp; done) | (simp [*]; done)), H', ⟨ar _⟩, by repeat (first | exact cz _ | apply da)⟩
 case round =>
  clear H'
  try clear p2
  obtain ⟨x5_1, rfl, HA, HK1, ⟨m1, rfl⟩⟩ := hrel
  cases gk with
  | zero => exact absurd HA.out (by simp [cadenceref16_in.l0])
  | succ k1 =>
    have H := HA.out
    clear HA
    simp only [cadenceref16_in.l0] at H
    by_cases c3 : x5_1 < (l0.length : Int)
    ·rw [if_pos c3] at H
     have c3b0 : decide (x5_1 < (l0.length : Int)) = af := decide_eq_true c3
     clear c3
     by_cases c4 : 0 <= x5_1
     ·rw [if_pos c4] at H
      have c4b0 : decide (0 <= x5_1) = af := decide_eq_true c4
      clear c4
      by_cases c5 : (rdOf fe l0 x5_1).toList = a1.toList
      ·rw [if_pos c5] at H
       have c5b0 : ((rdOf fe l0 x5_1).toList == a1.toList) = af := beq_iff_eq.mpr c5
       have c5b1 : ((rdOf fe l0 x5_1).toList != a1.toList) = J := bne_eq_false_iff_eq.mpr c5
       clear c5
       obtain rfl := ck H
       have p193 : 0 <= (x5_1 : Int) := of_decide_eq_true (by first | (with_reducible assumption) | assumption)
       have q193 : x5_1 < (l0.length : Int) := of_decide_eq_true (by first | (with_reducible assumption) | assumption)
       obtain ⟨ad193, e193, hx193_0⟩ := Kd.mV HR0.out x5_1 p193 q193
       cases e193
       replace p193 := eq_true p193
       replace q193 := eq_true q193
       go_wp2
       go_ret
       exact ⟨by first | rfl | (simp; done) | (simp [*]; done), by repeat (first | exact cz _ | apply da)⟩
      ·rw [if_neg c5] at H
       have c5b0 : ((rdOf fe l0 x5_1).toList == a1.toList) = J := beq_eq_false_iff_ne.mpr c5
       have c5b1 : ((rdOf fe l0 x5_1).toList != a1.toList) = af := bne_iff_ne.mpr c5
       have H' := I H
       clear H
       have p193 : 0 <= (x5_1 : Int) := of_decide_eq_true (by first | (with_reducible assumption) | assumption)
       have q193 : x5_1 < (l0.length : Int) := of_decide_eq_true (by first | (with_reducible assumption) | assumption)
       obtain ⟨ad193, e193, hx193_0⟩ := Kd.mV HR0.out x5_1 p193 q193
       cases e193
       replace p193 := eq_true p193
       replace q193 := eq_true q193
       go_wp2
       go_roundg k1
       case measure => have := HK1.out; omega
       case rel => exact ⟨(wrap64 (x5_1 + 1)), (by first | rfl | (simp; done) | (simp [*]; done)), H', ⟨by have := HK1.out; omega⟩, by repeat (first | exact cz _ | apply da)⟩
     ·rw [if_neg c4] at H
      exact absurd H (by simp)
    ·rw [if_neg c3] at H
     have c3b0 : decide (x5_1 < (l0.length : Int)) = J := decide_eq_false c3
     clear c3
     obtain rfl := ck H
     go_wp2
     go_ret
     exact ⟨by first | rfl | (simp; done) | (simp [*]; done), by repeat (first | exact cz _ | apply da)⟩
def cadenceref16_cut.f (a0 : Int) : Option (Int) := if a0 > 65536 then (ac 65537) else (ac a0)
set_option maxRecDepth 100000 in
theorem cadenceref16_cut.calls (a0 : Int) (r : Int) (w : World) (h : cadenceref16_cut.f a0 = ac r) :
 Calls ak 229 #[.int .i64 a0] w fun e w' => e = .returned (.int .i64 r) /\ Drawn0 w w' := by
 have H : (if a0 > 65536 then (ac 65537) else (ac a0)) = ac r := h
 clear h
 by_cases c2 : a0 > 65536
 ·rw [if_pos c2] at H
  have c2b0 : decide (65536 < a0) = af := decide_eq_true c2
  clear c2
  obtain rfl := ck H
  go_enter Tryz.func229, Tryz.ntmps229
  go_wp2
  go_ret
  exact ⟨by first | rfl | (simp; done) | (simp [*]; done), by repeat (first | exact cz _ | apply da)⟩
 ·rw [if_neg c2] at H
  have c2b0 : decide (65536 < a0) = J := decide_eq_false c2
  clear c2
  obtain rfl := ck H
  go_enter Tryz.func229, Tryz.ntmps229
  go_wp2
  go_ret
  exact ⟨by first | rfl | (simp; done) | (simp [*]; done), by repeat (first | exact cz _ | apply da)⟩
def wf_plus.l0 : Nat -> Int -> List Int -> Int -> Int -> Option (Int)
 | 0, _, _, _, _ => ag
 | k + 1, x3, x6, x7, x8 => if x8 < x7 then (if 0 <= x8 then (if x8 < (x6.length : Int) then (wf_plus.l0 k (mn (wrap64 (x3 + (rd x6 x8))) 1099511627776) x6 x7 (wrap64 (x8 + 1))) else (ag)) else (ag)) else (ac x3)
def wf_plus.f (k : Nat) (l0 : List Int) : Option (Int) := wf_plus.l0 k 0 l0 (l0.length : Int) 0
set_option maxRecDepth 100000 in
theorem wf_plus.calls (k : Nat) (A0 : Option Addr) (c0 : Nat) (l0 : List Int) (r : Int) (w : World) (hr0 : Kd.C (Kd.int .i64) w A0 l0.length l0) (hc0 : l0.length <= c0) (h : wf_plus.f k l0 = ac r) :
 Calls ak 155 #[.slice A0 l0.length c0] w fun e w' => e = .returned (.int .i64 r) /\ Below w.heap.size w w' := by
 have HR0 := I hr0
 have HC0 := I hc0
 clear hr0 hc0
 have HB := I (aq w.heap.size w)
 have H : (wf_plus.l0 k 0 l0 (l0.length : Int) 0) = ac r := h
 clear h
 have H' := I H
 clear H
 go_enter Tryz.func155, Tryz.ntmps155
 go_wp2
 go_loopg [3, 8] k (fun kq v3 v8 w' => ∃ (x3_1 : Int) (x8_1 : Int), v3 = .int .i64 x3_1 /\ v8 = .int .i64 x8_1 /\ Aside0 (wf_plus.l0 kq x3_1 l0 (l0.length : Int) x8_1 = ac r) /\ Aside0 (kq <= k) /\ Aside0 (Below w.heap.size w w'))
 case atStart => exact ⟨(0), (0), (by first | rfl | (simp; done) | (simp [*]; done)), (by first | rfl | (simp; done) | (simp [*]; done)), H', ⟨ar _⟩, ⟨by repeat (first | (with_reducible first | exact HB.out | apply aR | apply aO | apply aU) | exact HB.out)⟩⟩
 case round =>
  clear H'
  obtain ⟨x3_1, x8_1, rfl, rfl, HA, HK1, HB⟩ := hrel
  cases gk with
  | zero => exact absurd HA.out (by simp [wf_plus.l0])
  | succ k1 =>
    have H := HA.out
    clear HA
    simp only [wf_plus.l0] at H
    by_cases c2 : x8_1 < (l0.length : Int)
    ·rw [if_pos c2] at H
     have c2b0 : decide (x8_1 < (l0.length : Int)) = af := decide_eq_true c2
     clear c2
     by_cases c3 : 0 <= x8_1
     ·rw [if_pos c3] at H
      have c3b0 : decide (0 <= x8_1) = af := decide_eq_true c3
      clear c3
      by_cases c4 : x8_1 < (l0.length : Int)
      ·rw [if_pos c4] at H
       have c4b0 : decide (x8_1 < (l0.length : Int)) = af := decide_eq_true c4
       clear c4
       obtain ⟨ji5, hji5⟩ : ∃ j_ : Int, (mn (wrap64 (x3_1 + (rd l0 x8_1))) 1099511627776) = j_ := ⟨_, rfl⟩
       replace H : (wf_plus.l0 k1 ji5 l0 (l0.length : Int) (wrap64 (x8_1 + 1))) = ac r := by first | (rw [hji5] at H; exact H) | (simp only [hji5] at H ⊢; exact H)
       have hji5_ : (if 1099511627776 < (wrap64 (x3_1 + (rd l0 x8_1))) then 1099511627776 else (wrap64 (x3_1 + (rd l0 x8_1)))) = ji5 := hji5
       have H' := I H
       clear H
       have p237 : 0 <= (x8_1 : Int) := of_decide_eq_true (by first | (with_reducible assumption) | assumption)
       have q237 : x8_1 < (l0.length : Int) := of_decide_eq_true (by first | (with_reducible assumption) | assumption)
       obtain ⟨ad237, e237, hx237_0⟩ := Kd.at_int HR0.out x8_1 p237 q237
       cases e237
       replace hx237_0 := (HB.out.cell (aj w _ hx237_0)).trans hx237_0
       replace p237 := eq_true p237
       replace q237 := eq_true q237
       go_wp2
       go_roundg k1
       case measure => have := HK1.out; omega
       case rel => exact ⟨(ji5), (wrap64 (x8_1 + 1)), (by first | rfl | (simp; done) | (simp only [<- hji5] <;> (first | rfl | simp)) | (simp [*]; done)), (by first | rfl | (simp; done) | (simp [*]; done)), H', ⟨by have := HK1.out; omega⟩, ⟨by repeat (first | (with_reducible first | exact HB.out | apply aR | apply aO | apply aU) | exact HB.out)⟩⟩
      ·rw [if_neg c4] at H
       exact absurd H (by simp)
     ·rw [if_neg c3] at H
      exact absurd H (by simp)
    ·rw [if_neg c2] at H
     have c2b0 : decide (x8_1 < (l0.length : Int)) = J := decide_eq_false c2
     clear c2
     obtain rfl := ck H
     go_wp2
     go_ret
     exact ⟨by first | rfl | (simp [bV, bU] <;> rfl) | (simp [*, bV, bU] <;> rfl), by repeat (first | (with_reducible first | exact HB.out | apply aR | apply aO | apply aU) | exact HB.out)⟩
end
end Go.Proofs.YtfigjpehecibeaaGreat.L
namespace Go.Proofs.YtfigjpehecibeaaGreat.L
open Go.RowKit Go.Proofs.YtfigjpehecibeaaGreatW.PrintWords Go.Proofs.YtfigjpehecibeaaGreatW.PrintLast Go.Proofs.YtfigjpehecibeaaGreatW.PrintMore Go.Proofs.YtfigjpehecibeaaGreat.Gr
section
attribute [local go_sem] G.cell
attribute [local go_sem] iX gY kS j9 gQ gO iV iZ
theorem max_val (a b : Nat) : (if a < b then (b : Int) else (a : Int)) = ((max a b : Nat) : Int) := by split <;> omega
set_option maxRecDepth 100000 in
theorem depth_walk (x : S116) (hb : fY x <= 1099511627776) (ih : ∀ y ∈ x.f3, oL 192 y (fY y)) : oL 192 x (fY x) := by
 intro A c w hc hl
 have gout := @gA w
 rw [oN] at hb ⊢
 obtain ⟨x0, x1, x2, l⟩ := x
 simp only at *
 have IH := I ih
 have HC := I hc
 have HB := I hb
 have hlm := hc.2.1
 clear ih hc hb
 go_enter Tryz.func192, Tryz.ntmps192
 go_upto_region 1 with (fail)
 refine aH ?_
 intro gg
 go_wp2
 go_loopw [9, 3] (fun i n W => ∃ (k : Nat) (g : G (gw0 gg)), i = .int .i64 k /\ n = .int .i64 (iQ (l.take k)) /\ W = g.W /\ k <= l.length) (fun i n _ => l.length - (intOf i).toNat)
 case atStart => exact ⟨0, gg, rfl, rfl, rfl, bi _⟩
 case round =>
  obtain ⟨k, g, rfl, rfl, rfl, hk⟩ := hrel
  by_cases hlt : k < l.length
  ·obtain ⟨ad, A3, c3, e1, q0, q1, q2, q3, l3, g3⟩ := fR HC.out (k : Int) (bc _) (by omega)
   cases e1
   rw [av] at q0 q1 q2 q3
   replace q0 := ((gout g).cell (aj w _ q0)).trans q0
   replace q1 := ((gout g).cell (aj w _ q1)).trans q1
   replace q2 := ((gout g).cell (aj w _ q2)).trans q2
   replace q3 := ((gout g).cell (aj w _ q3)).trans q3
   have hi1 : (k : Int) < (l.length : Int) := by omega
   have G3 := I g3
   have L3 := I l3
   clear g3 l3
   have MEM := I (gM hlt)
   have T := I (congrArg iQ (dK hlt))
   go_wp2_with fail
   refine (cN (g := g) (IH.out _ MEM.out A3 c3 _ (Kd.aF G3.out ((gout g).alloc (gout g).size _)) L3.out)).mono ?_
   rintro _ _ ⟨rfl, gg2, rfl⟩
   go_wp2_with fail
   have T2 := T.out
   rw [pM] at T2
   exact ⟨⟨k + 1, gg2, by go_num, by rw [T2, <- max_val], rfl, by omega⟩, by simp [intOf]; omega⟩
  ·have W := I (kT (n := iQ l) (by have := HB.out; omega))
   go_wp2_with fail
   go_ret
   refine ⟨?_, gout g⟩
   rw [show k = l.length by omega, di, W.out]
   rfl
theorem depth_calls : ∀ (n : Nat) (x : S116), cd x <= n -> fY x <= 1099511627776 -> oL 192 x (fY x) := by
 intro n
 induction n with
 | zero => intro x h; obtain ⟨a, b, c, l⟩ := x; simp at h
 | succ n ih =>
   intro x h hb
   exact depth_walk x hb fun y hy => ih y (eK rfl hy h) (by have := deepL_mem hy; rw [oN] at hb; omega)
mutual
def aK : S116 -> Nat
 | ⟨_, _, _, l⟩ => 1 + bN l
def bN : List S116 -> Nat
 | [] => 0
 | x :: r => aK x + bN r
end
theorem eB (x : S116) : aK x = 1 + bN x.f3 := by
 obtain ⟨a, b, s, l⟩ := x
 rw [aK]
theorem eE (l : List S116) (x : S116) : bN (l ++ [x]) = bN l + aK x := by
 induction l with
 | nil => simp [bN]
 | cons y r ih => rw [gq, bN, ih, bN]; omega
theorem rE {l : List S116} {x : S116} (h : x ∈ l) : aK x <= bN l := by
 induction l with
 | nil => cases h
 | cons y r ih =>
   rw [bN]
   rcases gi.1 h with rfl | h
   ·omega
   ·have := ih h; omega
theorem fH (l : List S116) (k : Nat) : bN (l.take k) <= bN l := by
 induction l generalizing k with
 | nil => simp [bN]
 | cons y r ih =>
   cases k with
   | zero => simp [bN]
   | succ k => rw [List.take_succ_cons, bN, bN]; have := ih k; omega
theorem gZ {a b : Nat} (h : a + b < 9223372036854775807) : wrap64 ((a : Int) + (b : Int)) = ((a + b : Nat) : Int) := by unfold wrap64; omega
set_option maxRecDepth 100000 in
theorem weight_walk (x : S116) (hb : aK x <= 1099511627776) (ih : ∀ y ∈ x.f3, oL 230 y (aK y)) : oL 230 x (aK x) := by
 intro A c w hc hl
 have gout := @gA w
 rw [eB] at hb ⊢
 obtain ⟨x0, x1, x2, l⟩ := x
 simp only at *
 have IH := I ih
 have HC := I hc
 have HB := I hb
 have hlm := hc.2.1
 clear ih hc hb
 go_enter Tryz.func230, Tryz.ntmps230
 go_upto_region 1 with (fail)
 refine aH ?_
 intro gg
 go_wp2
 go_loopw [4, 3] (fun i n W => ∃ (k : Nat) (g : G (gw0 gg)), i = .int .i64 k /\ (∃ m : Nat, n = .int .i64 m /\ m = 1 + bN (l.take k)) /\ W = g.W /\ k <= l.length) (fun i n _ => l.length - (intOf i).toNat)
 case atStart => exact ⟨0, gg, rfl, ⟨1, rfl, rfl⟩, rfl, bi _⟩
 case round =>
  obtain ⟨k, g, rfl, ⟨m, rfl, hm⟩, rfl, hk⟩ := hrel
  have M := I hm
  clear hm
  by_cases hlt : k < l.length
  ·obtain ⟨ad, A3, c3, e1, q0, q1, q2, q3, l3, g3⟩ := fR HC.out (k : Int) (bc _) (by omega)
   cases e1
   rw [av] at q0 q1 q2 q3
   replace q0 := ((gout g).cell (aj w _ q0)).trans q0
   replace q1 := ((gout g).cell (aj w _ q1)).trans q1
   replace q2 := ((gout g).cell (aj w _ q2)).trans q2
   replace q3 := ((gout g).cell (aj w _ q3)).trans q3
   have hi1 : (k : Int) < (l.length : Int) := by omega
   have G3 := I g3
   have L3 := I l3
   clear g3 l3
   have MEM := I (gM hlt)
   have T := I (congrArg bN (dK hlt))
   have T1 := I (gZ (a := m) (b := aK (bO l (k : Int))) (by have t := T.out; rw [eE] at t; have := fH l (k + 1); have := HB.out; have := M.out; omega))
   go_wp2_with fail
   refine (aD (g := g) (IH.out _ MEM.out A3 c3 g.W (Kd.aF G3.out (gout g)) L3.out)).mono ?_
   rintro _ _ ⟨rfl, gg2, rfl⟩
   go_wp2_with fail
   exact ⟨⟨k + 1, gg2, by go_num, ⟨m + aK (bO l (k : Int)), by rw [T1.out], by have t := T.out; rw [eE] at t; rw [t, M.out]; omega⟩, rfl, by omega⟩, by simp [intOf]; omega⟩
  ·go_wp2_with fail
   go_ret
   refine ⟨?_, gout g⟩
   rw [M.out, show k = l.length by omega, di]
   rfl
theorem iT : ∀ (n : Nat) (x : S116), cd x <= n -> aK x <= 1099511627776 -> oL 230 x (aK x) := by
 intro n
 induction n with
 | zero => intro x h; obtain ⟨a, b, c, l⟩ := x; simp at h
 | succ n ih =>
   intro x h hb
   exact weight_walk x hb fun y hy => ih y (eK rfl hy h) (by have := rE hy; rw [eB] at hb; omega)
theorem plus_sum : ∀ (d : Nat) (l : List Int) (i k : Nat) (s : Nat), (∀ x ∈ l, 0 <= x) -> i + d = l.length -> d < k -> (s : Int) + (l.drop i).sum <= 1099511627776 -> l.length < 100 ->
 wf_plus.l0 k (s : Int) l (l.length : Int) (i : Int) = ac ((s : Int) + (l.drop i).sum) := by
 intro d
 induction d with
 | zero =>
   intro l i k s hp h hk hs _
   obtain ⟨k, rfl⟩ : ∃ a, k = a + 1 := ⟨k - 1, by omega⟩
   rw [wf_plus.l0, if_neg (by omega), jp (by omega)]; simp
 | succ d ih =>
   intro l i k s hp h hk hs hl
   obtain ⟨k, rfl⟩ : ∃ a, k = a + 1 := ⟨k - 1, by omega⟩
   have hi : i < l.length := by omega
   have e : wrap64 ((i : Int) + 1) = ((i + 1 : Nat) : Int) := by unfold wrap64; omega
   have er : rd l (i : Int) = l[i] := by simp [rd, au, hi]
   have hd : l.drop i = l[i] :: l.drop (i + 1) := ig hi
   have hx := hp _ (ef hi)
   have hr : 0 <= (l.drop (i + 1)).sum := by
    have : ∀ q : List Int, (∀ x ∈ q, 0 <= x) -> 0 <= q.sum := by
     intro q
     induction q with
     | nil => simp
     | cons a r ih => intro h; rw [List.sum_cons]; have := h a (by simp); have := ih fun x hx => h x (by simp [hx]); omega
    exact this _ fun x hx => hp x (List.mem_of_mem_drop hx)
   rw [hd, List.sum_cons] at hs ⊢
   obtain ⟨x, hxn⟩ : ∃ x : Nat, l[i] = (x : Int) := ⟨l[i].toNat, by omega⟩
   rw [wf_plus.l0, if_pos (by omega), if_pos (by omega), if_pos (by omega), e, er, hxn, gZ (by omega)]
   rw [hxn] at hs
   have hm : mn ((s + x : Nat) : Int) 1099511627776 = ((s + x : Nat) : Int) := by unfold mn; split <;> omega
   rw [hm, ih l (i + 1) k (s + x) hp (by omega) (by omega) (by push_cast; omega) hl]
   congr 1
   push_cast
   omega
theorem plus_calls (l : List Int) (A : Option Addr) (c : Nat) (w : World) (hp : ∀ x ∈ l, 0 <= x) (hs : l.sum <= 1099511627776) (hl : l.length < 100) (hr : Kd.C (Kd.int .i64) w A l.length l) (hc : l.length <= c) :
 Calls ak 155 #[.slice A l.length c] w fun e w' => e = .returned (.int .i64 l.sum) /\ Below w.heap.size w w' :=
 wf_plus.calls 101 A c l l.sum w hr hc (by
  have := plus_sum l.length l 0 101 0 hp (by omega) (by omega) (by simpa using hs) hl
  unfold wf_plus.f
  simpa using this)
end
section
attribute [local go_sem] G.cell
theorem lit_ints (w : World) (xs : List Int) (e : TypeId) (hm : xs.length <= 100) : Kd.C (Kd.int .i64) (w.alloc (.cells (xs.map (ba .i64)).toArray e)) (ac ⟨w.heap.size, 0, ag⟩) xs.length xs := by
 refine ⟨rfl, by omega, fun _ => ⟨_, rfl, fun i v hv => ⟨[.int .i64 v], rfl, rfl, fun j u hu => ?_⟩⟩⟩
 have hj : j = 0 := by
  have := (dm.1 hu).1
  simp at this; omega
 subst hj
 simp at hu
 subst hu
 have hi := (dm.1 hv).1
 have hv2 := (dm.1 hv).2
 simp only [go_sem, Addr.add, hv]
 rw [show (Kd.int IntKind.i64).sz = 1 from rfl, gu, fq]
 split
 ·next h => subst h; rw [World.cell?_alloc_new]; simp [hv]
 ·rw [Nat.zero_add, World.cell?_alloc_new]; simp [hv]
set_option maxRecDepth 100000 in
theorem weigh_walk (x : S116) (hb : aK x <= 1099511627776) (ih : ∀ y ∈ x.f3, oL 156 y (aK y)) : oL 156 x (aK x) := by
 intro A c w hc hl
 have gout := @gA w
 rw [eB] at hb ⊢
 obtain ⟨x0, x1, x2, l⟩ := x
 simp only at *
 have IH := I ih
 have HC := I hc
 have HB := I hb
 have hlm := hc.2.1
 clear ih hc hb
 go_enter Tryz.func156, Tryz.ntmps156
 go_upto_region 1 with (fail)
 refine aH ?_
 intro gg
 go_wp2
 go_loopw [9, 3] (fun i n W => ∃ (k : Nat) (g : G (gw0 gg)), i = .int .i64 k /\ (∃ m : Nat, n = .int .i64 m /\ m = 1 + bN (l.take k)) /\ W = g.W /\ k <= l.length) (fun i n _ => l.length - (intOf i).toNat)
 case atStart => exact ⟨0, gg, rfl, ⟨1, rfl, rfl⟩, rfl, bi _⟩
 case round =>
  obtain ⟨k, g, rfl, ⟨m, rfl, hm⟩, rfl, hk⟩ := hrel
  have M := I hm
  clear hm
  by_cases hlt : k < l.length
  ·obtain ⟨ad, A3, c3, e1, q0, q1, q2, q3, l3, g3⟩ := fR HC.out (k : Int) (bc _) (by omega)
   cases e1
   rw [av] at q0 q1 q2 q3
   replace q0 := ((gout g).cell (aj w _ q0)).trans q0
   replace q1 := ((gout g).cell (aj w _ q1)).trans q1
   replace q2 := ((gout g).cell (aj w _ q2)).trans q2
   replace q3 := ((gout g).cell (aj w _ q3)).trans q3
   have hi1 : (k : Int) < (l.length : Int) := by omega
   have G3 := I g3
   have L3 := I l3
   clear g3 l3
   have MEM := I (gM hlt)
   have T := I (congrArg bN (dK hlt))
   go_wp2_with fail
   refine (cN (g := g) (IH.out _ MEM.out A3 c3 _ (Kd.aF G3.out ((gout g).alloc (gout g).size _)) L3.out)).mono ?_
   rintro _ _ ⟨rfl, gg2, rfl⟩
   go_wp2_with fail
   refine (cN (g := gg2) (plus_calls [(m : Int), (aK (bO l (k : Int)) : Int)] (ac ⟨gg2.W.heap.size, 0, ag⟩) 2 _ (by simp) (by have t := T.out; rw [eE] at t; have := fH l (k + 1); have := HB.out; have := M.out; simp; omega) (by simp) (lit_ints _ _ _ (by simp)) (by simp))).mono ?_
   rintro _ _ ⟨rfl, gg3, rfl⟩
   go_wp2_with fail
   exact ⟨⟨k + 1, gg3, by go_num, ⟨m + aK (bO l (k : Int)), by simp, by have t := T.out; rw [eE] at t; rw [t, M.out]; omega⟩, rfl, by omega⟩, by simp [intOf]; omega⟩
  ·go_wp2_with fail
   go_ret
   refine ⟨?_, gout g⟩
   rw [M.out, show k = l.length by omega, di]
   rfl
theorem weigh_calls : ∀ (n : Nat) (x : S116), cd x <= n -> aK x <= 1099511627776 -> oL 156 x (aK x) := by
 intro n
 induction n with
 | zero => intro x h; obtain ⟨a, b, c, l⟩ := x; simp at h
 | succ n ih =>
   intro x h hb
   exact weigh_walk x hb fun y hy => ih y (eK rfl hy h) (by have := rE hy; rw [eB] at hb; omega)
end
end Go.Proofs.YtfigjpehecibeaaGreat.L
namespace Go.Proofs.YtfigjpehecibeaaGreat.Ot
open Go.RowKit Go.Proofs.YtfigjpehecibeaaGreat.L Go.Proofs.YtfigjpehecibeaaGreatW.PrintWords Go.Proofs.YtfigjpehecibeaaGreatW.PrintLast Go.Proofs.YtfigjpehecibeaaGreatW.PrintMore Go.Proofs.YtfigjpehecibeaaGreat.Op
theorem all_sum {H : Type} (l : List (DataW H)) : Rows.uptoBulkAll l = (l.map Rows.uptoBulk).sum := by
 induction l with
 | nil => rfl
 | cons d r ih => simp [Rows.uptoBulkAll, ih]
theorem bulk {H : Type} : Bulk (Rows.uptoBulk (H := H)) where
 str := fun l => by simp [Rows.uptoBulk]
 one := fun d => by
  cases d with
  | lit l => cases l <;> simp [Rows.uptoBulk]
  | nil => simp [Rows.uptoBulk]
  | ptr d => simp [Rows.uptoBulk]
  | slice elems spare => simp [Rows.uptoBulk]
  | agg parts => simp [Rows.uptoBulk]
  | iface t d => simp [Rows.uptoBulk]
  | map entries => simp [Rows.uptoBulk]
  | held h => simp [Rows.uptoBulk]
 slice := fun es ss => by simp only [Rows.uptoBulk, all_sum]; omega
 agg := fun ps => by simp only [Rows.uptoBulk, all_sum]; omega
abbrev okI (n : Int) : Prop := (Lit.int .i64 n).wf = af
abbrev okU (n : Int) : Prop := (Lit.int .u64 n).wf = af
abbrev okS (s : ByteArray) : Prop := s.size <= 140737488351232
mutual
def kU : S116 -> Prop
 | ⟨a, b, s, l⟩ => okI a /\ okU b /\ okS s /\ l.length * 56 <= 140737488351232 /\ pX l
def pX : List S116 -> Prop
 | [] => True
 | x :: r => kU x /\ pX r
end
theorem nP (l : List S116) : pX l ↔ ∀ x ∈ l, kU x := by
 induction l with
 | nil => simp [pX]
 | cons x r ih => simp [pX, ih]
mutual
def lG : S116 -> Nat
 | ⟨a, b, s, l⟩ => 1 + jJ l
def jJ : List S116 -> Nat
 | [] => 0
 | x :: r => lG x + jJ r
end
theorem bulkEs_sum (l : List S116) : jJ l = (l.map lG).sum := by
 induction l with
 | nil => simp [jJ]
 | cons x r ih => simp [jJ, ih]
mutual
def jE : S119 -> Prop
 | ⟨a, s, e, f, lo, hi, th, el⟩ => okI a /\ okS s /\ kU e /\ kU f /\ okU lo /\ okU hi /\ th.length * 200 <= 140737488351232 /\ el.length * 200 <= 140737488351232 /\ kG th /\ kG el
def kG : List S119 -> Prop
 | [] => True
 | x :: r => jE x /\ kG r
end
theorem cO (l : List S119) : kG l ↔ ∀ x ∈ l, jE x := by
 induction l with
 | nil => simp [kG]
 | cons x r ih => simp [kG, ih]
mutual
def nQ : S119 -> Nat
 | ⟨a, s, e, f, lo, hi, th, el⟩ => 1 + lG e + lG f + bW th + bW el
def bW : List S119 -> Nat
 | [] => 0
 | x :: r => nQ x + bW r
end
theorem bulkTs_sum (l : List S119) : bW l = (l.map nQ).sum := by
 induction l with
 | nil => simp [bW]
 | cons x r ih => simp [bW, ih]
def goodD (x : S70) : Prop := okI x.f0 /\ okS x.f1 /\ okI x.f2 /\ x.f3.length * 8 <= 140737488351232 /\ ∀ v ∈ x.f3, okU v
def bulkD (x : S70) : Nat := 1 + x.f3.length
theorem sum_ones {α : Type} (l : List α) : (l.map fun _ => 1).sum = l.length := by induction l <;> simp_all [Nat.add_comm]
section
variable {H : Type} {enc : TypeId × Value -> H} {w : World}
theorem opensE : ∀ n, iP enc ak w Rows.uptoBulk n 116 cQ kU lG := by
 intro n
 induction n using Nat.strongRecOn with
 | _ n ih =>
   have h : iP enc ak w Rows.uptoBulk n 116 (Kd.pair (Kd.int .i64) (Kd.pair (Kd.int .u64) (Kd.pair Kd.string (Kd.slice 116 cQ)))) _ _ := iU bulk (fs := [(3, 0), (74, 1), (9, 2), (114, 3)]) Tryz.underlying116 rfl fun m hm =>
    bY (eW bulk ju) (by kernel_rfl) (bY (eW bulk jr) (by kernel_rfl) (bY (iY bulk jc) (by kernel_rfl)
     (jY (fG bulk (bytes := 56) Tryz.underlying114 (by kernel_rfl) (by kernel_rfl) (by decide) fun m' hm' => ih m' (by omega)) (Nat.le_of_eq (by kernel_rfl)))))
   refine opens_kd (gT (mN (f := fun x : S116 => (x.f0, x.f1, x.f2, x.f3)) (fun p => ⟨p.1, p.2.1, p.2.2.1, p.2.2.2⟩) (fun _ => rfl) h) ?_ ?_) ?_
   ·rintro ⟨a, b, s, l⟩ ⟨h1, h2, h3, h4, h5⟩
    exact ⟨h1, h2, h3, h4, (nP l).2 h5⟩
   ·rintro ⟨a, b, s, l⟩
    simp only [lG, bulkEs_sum]
    omega
   ·rintro x cs ⟨_, _, rfl, rfl, ⟨_, _, rfl, rfl, ⟨_, _, rfl, rfl, ⟨A3, c3, rfl, l3, g3⟩⟩⟩⟩
    exact rD w x l3 g3
theorem opensT : ∀ n, iP enc ak w Rows.uptoBulk n 119 dC jE nQ := by
 intro n
 induction n using Nat.strongRecOn with
 | _ n ih =>
   have h : iP enc ak w Rows.uptoBulk n 119 (Kd.pair (Kd.int .i64) (Kd.pair Kd.string (Kd.pair cQ (Kd.pair cQ (Kd.pair (Kd.int .u64) (Kd.pair (Kd.int .u64) (Kd.pair (Kd.slice 119 dC) (Kd.slice 119 dC)))))))) _ _ := iU bulk (fs := [(3, 0), (9, 1), (116, 2), (116, 6), (74, 10), (74, 11), (23, 12), (23, 13)]) Tryz.underlying119 rfl fun m hm =>
    bY (eW bulk ju) (by kernel_rfl) (bY (iY bulk jc) (by kernel_rfl) (bY (opensE m) (by kernel_rfl) (bY (opensE m) (by kernel_rfl)
     (bY (eW bulk jr) (by kernel_rfl) (bY (eW bulk jr) (by kernel_rfl)
     (bY (fG bulk (bytes := 200) Tryz.underlying23 (by kernel_rfl) (by kernel_rfl) (by decide) fun m' hm' => ih m' (by omega)) (by kernel_rfl)
     (jY (fG bulk (bytes := 200) Tryz.underlying23 (by kernel_rfl) (by kernel_rfl) (by decide) fun m' hm' => ih m' (by omega)) (Nat.le_of_eq (by kernel_rfl)))))))))
   refine opens_kd (gT (mN (f := fun x : S119 => (x.f0, x.f1, x.f2, x.f3, x.f4, x.f5, x.f6, x.f7)) (fun p => ⟨p.1, p.2.1, p.2.2.1, p.2.2.2.1, p.2.2.2.2.1, p.2.2.2.2.2.1, p.2.2.2.2.2.2.1, p.2.2.2.2.2.2.2⟩) (fun _ => rfl) h) ?_ ?_) ?_
   ·rintro ⟨a, s, e, f, lo, hi, th, el⟩ ⟨h1, h2, h3, h4, h5, h6, h7, h8⟩
    exact ⟨h1, h2, h3, h4, h5, h6, h7.1, h8.1, (cO th).2 h7.2, (cO el).2 h8.2⟩
   ·rintro ⟨a, s, e, f, lo, hi, th, el⟩
    simp only [nQ, bulkTs_sum]
    omega
   ·rintro x cs ⟨_, _, rfl, rfl, ⟨_, _, rfl, rfl, ⟨_, _, rfl, s2, ⟨_, _, rfl, s6, ⟨_, _, rfl, rfl, ⟨_, _, rfl, rfl, ⟨_, _, rfl, ⟨A12, c12, rfl, l12, g12⟩, ⟨A13, c13, rfl, l13, g13⟩⟩⟩⟩⟩⟩⟩⟩
    obtain ⟨A5, c5, rfl, l5, g5⟩ := jU s2
    obtain ⟨A9, c9, rfl, l9, g9⟩ := jU s6
    exact lS w x l5 g5 l9 g9 l12 g12 l13 g13
theorem opensD (n : Nat) : iP enc ak w Rows.uptoBulk n 70 k70 goodD bulkD := by
 have h : iP enc ak w Rows.uptoBulk n 70 (Kd.pair (Kd.int .i64) (Kd.pair Kd.string (Kd.pair (Kd.int .i64) (Kd.slice 74 (Kd.int .u64))))) _ _ := iU bulk (fs := [(3, 0), (9, 1), (3, 2), (36, 3)]) Tryz.underlying70 rfl fun m hm =>
  bY (eW bulk ju) (by kernel_rfl) (bY (iY bulk jc) (by kernel_rfl) (bY (eW bulk ju) (by kernel_rfl)
   (jY (fG bulk (bytes := 8) Tryz.underlying36 (by kernel_rfl) (by kernel_rfl) (by decide) fun m' hm' => eW bulk jr) (Nat.le_of_eq (by kernel_rfl)))))
 refine gT (mN (f := fun x : S70 => (x.f0, x.f1, x.f2, x.f3)) (fun p => ⟨p.1, p.2.1, p.2.2.1, p.2.2.2⟩) (fun _ => rfl) h) ?_ ?_
 ·rintro ⟨a, s, z, l⟩ ⟨h1, h2, h3, h4, h5⟩
  exact ⟨h1, h2, h3, h4, h5⟩
 ·rintro ⟨a, s, z, l⟩
  simp only [bulkD, sum_ones]
  omega
structure Prog where
 nm : ByteArray
 wd : Int
 ln : Int
 ds : List S70
 bd : List S119
def kP : Kd Prog := Kd.iso (Kd.pair Kd.string (Kd.pair (Kd.int .i64) (Kd.pair (Kd.int .i64) (Kd.pair (Kd.slice 70 k70) (Kd.slice 119 dC))))) (fun x : Prog => (x.nm, x.wd, x.ln, x.ds, x.bd))
structure GoodP (x : Prog) : Prop where
 nm : okS x.nm
 wd : okI x.wd
 ln : okI x.ln
 dl : x.ds.length * 56 <= 140737488351232
 ds : ∀ d ∈ x.ds, goodD d
 bl : x.bd.length * 200 <= 140737488351232
 bd : ∀ t ∈ x.bd, jE t
def bulkP (x : Prog) : Nat := 1 + (x.ds.map bulkD).sum + bW x.bd
theorem opensP (n : Nat) : iP enc ak w Rows.uptoBulk n 25 kP GoodP bulkP := by
 have h : iP enc ak w Rows.uptoBulk n 25 (Kd.pair Kd.string (Kd.pair (Kd.int .i64) (Kd.pair (Kd.int .i64) (Kd.pair (Kd.slice 70 k70) (Kd.slice 119 dC))))) _ _ := iU bulk (fs := [(9, 0), (3, 1), (3, 2), (22, 3), (23, 4)]) Tryz.underlying25 rfl fun m hm =>
  bY (iY bulk jc) (by kernel_rfl) (bY (eW bulk ju) (by kernel_rfl) (bY (eW bulk ju) (by kernel_rfl)
   (bY (fG bulk (bytes := 56) Tryz.underlying22 (by kernel_rfl) (by kernel_rfl) (by decide) fun m' hm' => opensD m') (by kernel_rfl)
   (jY (fG bulk (bytes := 200) Tryz.underlying23 (by kernel_rfl) (by kernel_rfl) (by decide) fun m' hm' => opensT m') (Nat.le_of_eq (by kernel_rfl))))))
 refine gT (mN (f := fun x : Prog => (x.nm, x.wd, x.ln, x.ds, x.bd)) (fun p => ⟨p.1, p.2.1, p.2.2.1, p.2.2.2.1, p.2.2.2.2⟩) (fun _ => rfl) h) ?_ ?_
 ·rintro ⟨a, s, z, l, b⟩ ⟨h1, h2, h3, h4, h5⟩
  exact ⟨h1, h2, h3, h4.1, h4.2, h5.1, h5.2⟩
 ·rintro ⟨a, s, z, l, b⟩
  simp only [bulkP, bulkTs_sum]
  omega
abbrev opensP_K (w : World) : Prog -> List Value -> Prop := kP.K w
abbrev qJ (x : Prog) : Prop := GoodP x
abbrev qA (x : Prog) : Nat := bulkP x
end
theorem prog_of_K {w : World} {x : Prog} {v : Value} (hs : ∃ vs, v = .agg vs) (h : kP.K w x v.cells.toList) : ∃ A3 c3 A4 c4, v = .agg #[.string x.nm, .int .i64 x.wd, .int .i64 x.ln, .slice A3 x.ds.length c3, .slice A4 x.bd.length c4] /\ x.ds.length <= c3 /\ k70.C w A3 x.ds.length x.ds /\ x.bd.length <= c4 /\ dC.C w A4 x.bd.length x.bd := by
 obtain ⟨vs, rfl⟩ := hs
 obtain ⟨_, _, e, rfl, ⟨_, _, rfl, rfl, ⟨_, _, rfl, rfl, ⟨_, _, rfl, ⟨A3, c3, rfl, l3, g3⟩, ⟨A4, c4, rfl, l4, g4⟩⟩⟩⟩⟩ := h
 obtain ⟨vs⟩ := vs
 simp [Value.cells] at e
 subst e
 exact ⟨A3, c3, A4, c4, rfl, l3, g3, l4, g4⟩
end Go.Proofs.YtfigjpehecibeaaGreat.Ot
namespace Go.Proofs.YtfigjpehecibeaaGreat.L
open Go.RowKit Go.Proofs.YtfigjpehecibeaaGreatW.PrintWords Go.Proofs.YtfigjpehecibeaaGreatW.PrintLast Go.Proofs.YtfigjpehecibeaaGreatW.PrintMore Go.Proofs.YtfigjpehecibeaaGreat.Gr
section
attribute [local go_sem] G.cell
mutual
def sizeT : S119 -> Nat
 | ⟨k, _, at', e, lo, hi, th, el⟩ => 1 + (if k = 1 then aK e else if k = 2 then aK at' + aK e else if k = 3 then aK e + bR th + bR el else if k = 4 then (hi - lo).toNat * (1 + bR th) else 0)
def bR : List S119 -> Nat
 | [] => 0
 | x :: r => sizeT x + bR r
end
theorem mR (l : List S119) (x : S119) : bR (l ++ [x]) = bR l + sizeT x := by
 induction l with
 | nil => simp [bR]
 | cons y r ih => rw [gq, bR, ih, bR]; omega
theorem fP (x : S119) : sizeT x = 1 + (if x.f0 = 1 then aK x.f3 else if x.f0 = 2 then aK x.f2 + aK x.f3 else if x.f0 = 3 then aK x.f3 + bR x.f6 + bR x.f7 else if x.f0 = 4 then (x.f5 - x.f4).toNat * (1 + bR x.f6) else 0) := by
 obtain ⟨a, b, c, d, e, f, g, h⟩ := x
 rw [sizeT]
theorem fA {l : List S119} {k : Nat} (hlt : k < l.length) : l.take (k + 1) = l.take k ++ [aQ l (k : Int)] := by
 unfold aQ
 rw [av, au, az hlt, List.take_add_one, az hlt]
 rfl
theorem iK {l : List S119} {k : Nat} (hlt : k < l.length) : aQ l (k : Int) ∈ l := by
 unfold aQ; rw [av, au, az hlt]; exact ef _
mutual
theorem aS : ∀ x : S116, aK x <= Ot.lG x
 | ⟨a, b, s, l⟩ => by rw [aK, Ot.lG]; have := nU l; omega
theorem nU : ∀ l : List S116, bN l <= Ot.jJ l
 | [] => by rw [bN]; omega
 | x :: r => by rw [bN, Ot.jJ]; have := aS x; have := nU r; omega
end
mutual
theorem lZ : ∀ x : S116, fY x <= aK x
 | ⟨a, b, s, l⟩ => by rw [aK, fY]; have := nY l; omega
theorem nY : ∀ l : List S116, iQ l <= bN l
 | [] => by rw [bN, iQ]; omega
 | x :: r => by rw [bN, iQ]; have := lZ x; have := nY r; omega
end
theorem cut_calls (n : Nat) (w : World) : Calls ak 229 #[.int .i64 n] w fun e w' => e = .returned (.int .i64 ((min n 65537 : Nat) : Int)) /\ Below w.heap.size w w' :=
 (cadenceref16_cut.calls (n : Int) ((min n 65537 : Nat) : Int) w (by
   unfold cadenceref16_cut.f
   split
   ·rw [iw (by omega)]; rfl
   ·rw [cy (by omega)])).mono fun _ _ ⟨he, hd⟩ => ⟨he, hd.below⟩
theorem qO {P : Program} {f : FuncId} {args : Array Value} {w : World} {v : Value} (h : Calls P f args w fun e w' => e = .returned v /\ Below w.heap.size w w') :
 Calls P f args w fun e w'' => e = .returned v /\ ∃ g' : G w, w'' = g'.W := h.mono fun _ w' ⟨he, hb⟩ => ⟨he, ⟨⟨w', hb⟩, rfl⟩⟩
theorem G.deep {w : World} {g : G w} {o : Obj} (g' : G (g.W.alloc o)) : Below w.heap.size w g'.W := (G.ball g o).trans (g'.below.mono (G.ball g o).size)
theorem eL (z : Int) (n r : Nat) (h : z = n) (hr : r = min n 65537) (w : World) : Calls ak 229 #[.int .i64 z] w fun e w' => e = .returned (.int .i64 (r : Int)) /\ Below w.heap.size w w' := by
 subst h hr; exact cut_calls n w
theorem aP {P : Program} {id : Nat} {Q : Exit -> Act -> World -> Prop} {a : Act} {w : World} {g : G w} {l : List Oper} (hm : P.follows .mixedOrders = af) (hB : Region.lexB .any l.toArray = af)
 (h : wpQuiet P l.toArray (fun w' => ∃ g : G w, w' = g.W) (fun a' => ∀ w', (∃ g : G w, w' = g.W) -> Q .normal a' w') l a) : (Code.region id l.toArray af).wp P Q a g.W :=
 wp_region_quiet (C := fun w' => ∃ g : G w, w' = g.W) hm hB ⟨⟨_, g.below.drew⟩, rfl⟩ (by simpa using h)
def mkG {w w' : World} (h : Below w.heap.size w w') : G w := ⟨w', h⟩
theorem for_cut (a t S K : Nat) (hK : 0 < K) : min (min a K + min t K * (1 + min S K)) K = min (a + t * (1 + S)) K := by
 rcases gj t K with ht | ht
 ·rw [cy (Nat.le_of_lt ht)]
  rcases gj S K with hS | hS
  ·rw [cy (Nat.le_of_lt hS)]
   generalize t * (1 + S) = p
   omega
  ·rw [iw hS]
   rcases cf t with rfl | h0
   ·rw [Nat.zero_mul, Nat.zero_mul]; omega
   ·have h1 : K <= t * (1 + K) := bh (by omega : K <= 1 + K) (Nat.le_mul_of_pos_left _ h0)
    have h2 : K <= t * (1 + S) := bh (by omega : K <= 1 + S) (Nat.le_mul_of_pos_left _ h0)
    generalize t * (1 + K) = p at *
    generalize t * (1 + S) = q at *
    omega
 ·rw [iw ht]
  have h1 : K <= K * (1 + min S K) := fo _ (by omega)
  have h2 : K <= t * (1 + S) := bh ht (fo _ (by omega))
  generalize K * (1 + min S K) = p at *
  generalize t * (1 + S) = q at *
  omega
theorem jD {z : Int} (h0 : 0 <= z) (h1 : z < 9223372036854775808) : wrap64 z = z := by unfold wrap64; omega
theorem for_sum (m t s : Nat) (hm : m <= 65537) (ht : t <= 65537) (hs : s <= 65537) : wrap64 ((m : Int) + wrap64 ((t : Int) * wrap64 (1 + (s : Int)))) = ((m + t * (1 + s) : Nat) : Int) := by
 have hp : t * (1 + s) <= 65537 * 65538 := Nat.mul_le_mul ht (by omega)
 have e : (t : Int) * (1 + (s : Int)) = ((t * (1 + s) : Nat) : Int) := by push_cast; rfl
 rw [jD (z := 1 + (s : Int)) (by omega) (by omega), e]
 generalize t * (1 + s) = p at *
 rw [jD (z := (p : Int)) (by omega) (by omega), jD (by omega) (by omega)]
 push_cast; rfl
def SizeC (f : FuncId) (cap : Nat) (l : List S119) : Prop := ∀ (A : Option Addr) (c : Nat) (w : World), dC.C w A l.length l -> l.length <= c ->
 Calls ak f #[.slice A l.length c] w fun e w' => e = .returned (.int .i64 ((min (bR l) cap : Nat) : Int)) /\ Below w.heap.size w w'
end
end Go.Proofs.YtfigjpehecibeaaGreat.L
