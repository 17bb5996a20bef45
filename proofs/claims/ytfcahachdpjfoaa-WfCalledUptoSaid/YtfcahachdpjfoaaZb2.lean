/- Texts joined by a program of mine: Op WTab WRepsOne WInv WGuard L0. -/
import Derived.Deep.Slices
import Derived.SizedLaws
import Derived.Test.YtfcahachdpjfoaaProg
import Derived.Below
import Derived.Deep.Draws
import Derived.Deep.AppendLies
import Derived.Maps.AppendAt
import Derived.OwnWalk
import Derived.Laws.BytesArg
import Derived.Laws.MakeOwn
import Derived.Laws.OwnMore
import Derived.Deep.OwnRows
import Derived.Tactics
import Derived.Lib.ConvBytes
import Derived.Laws.Slices
import Derived.WalkKit
import Derived.KernelRfl
import Derived.RowKit3
import Derived.Deep.LoopGhost
import Derived.Deep.QuietTactic
import Derived.BigQuiet
import Derived.WideLaws
import Derived.Deep.DeepCutAuto
import Derived.Deep.CutBlock
import Derived.Deep.RegionHeld3
import Derived.Laws.Rows
import Derived.Lib.AppendStr
import Derived.ArgAppend
import Derived.Laws.IdiomCopy
import Derived.OrdersHeld
import Derived.Laws.BitsLemmas
import Derived.RowKit
import Derived.Laws.StructEq
import Derived.Test.YtfcahachdpjfoaaZb0
import Derived.Test.YtfcahachdpjfoaaZb1
section
set_option linter.unusedVariables false
set_option linter.unusedSimpArgs false
namespace Go.Proofs.Ytfcahachdpjfoaa.Op
open Go.RowKit Go.ChangeShapes Go.WideShapes Go.Deep Go.Proofs.YtfcahachdpjfoaaW.PrintWords
structure Bulk {H : Type} (B : DataW H → Nat) : Prop where
  str : ∀ l, l.length + 1 ≤ B (.lit (.string l))
  one : ∀ d, 1 ≤ B d
  slice : ∀ es ss, (es.map B).sum + 1 ≤ B (.slice es ss)
  agg : ∀ ps, (ps.map B).sum + 1 ≤ B (.agg ps)
def Opens {H : Type} (enc : TypeId × Value → H) (P : Program) (w : World) (B : DataW H → Nat) {α : Type} (fuel : Nat) (t : TypeId) (k : Kd α) (good : α → Prop) (bulk : α → Nat) : Prop :=
  ∀ cs x, DataW.trod enc P w 0 (fun _ => true) true fuel t cs = some x → (x.1.weights P t).all (· ≤ reachBytes) = true → ∃ v, k.K w v cs ∧ good v ∧ bulk v ≤ B x.1
section
variable {H : Type} {enc : TypeId × Value → H} {P : Program} {w : World} {B : DataW H → Nat} {fuel : Nat} {t e : TypeId}
theorem opens_int (hB : Bulk B) {k : IntKind} (ht : P.underlying t = some (.int k)) : Opens enc P w B fuel t (Kd.int k) (fun n => (Lit.int k n).wf = true) (fun _ => 1) := by
  intro cs x h _
  obtain ⟨n, rfl, rfl, hw⟩ := DataW.trod_int ht h
  exact ⟨n, rfl, hw, hB.one _⟩
theorem opens_string (hB : Bulk B) (ht : P.underlying t = some .string) : Opens enc P w B fuel t Kd.string (fun s => s.size ≤ 140737488351232) (fun s => s.size + 1) := by
  intro cs x h hs
  obtain ⟨s, rfl, rfl, _⟩ := DataW.trod_string ht h
  refine ⟨s, rfl, ?_, ?_⟩
  · have z := of_decide_eq_true (List.all_eq_true.1 hs s.data.toList.length (by simp [DataW.weights]))
    simpa [reachBytes] using z
  · have := hB.str s.data.toList
    simpa using this
theorem all_weights {ds : List (DataW H)} (h : (DataW.weightsAll P e ds).all (· ≤ reachBytes) = true) {d : DataW H} (hd : d ∈ ds) : (d.weights P e).all (· ≤ reachBytes) = true := by
  induction ds with
  | nil => cases hd
  | cons a r ih =>
    rw [DataW.weightsAll, List.all_append, Bool.and_eq_true] at h
    rcases List.mem_cons.1 hd with rfl | hd
    · exact h.1
    · exact ih h.2 hd
theorem list_of {α β : Type} (ds : List β) (p : Nat → β → α → Prop) (b : α → Nat) (B : β → Nat) (h : ∀ i d, ds[i]? = some d → ∃ v, p i d v ∧ b v ≤ B d) :
    ∃ vs : List α, vs.length = ds.length ∧ (∀ i d v, ds[i]? = some d → vs[i]? = some v → p i d v) ∧ (vs.map b).sum ≤ (ds.map B).sum := by
  induction ds generalizing p with
  | nil => exact ⟨[], rfl, fun i d v h => by simp at h, by simp⟩
  | cons d r ih =>
    obtain ⟨v, hv, hb⟩ := h 0 d rfl
    obtain ⟨vs, h1, h2, h3⟩ := ih (fun i => p (i + 1)) (fun i d hd => h (i + 1) d (by simpa using hd))
    refine ⟨v :: vs, by simp [h1], fun i d' v' hd hv' => ?_, by simp; omega⟩
    cases i with
    | zero => simp at hd hv'; subst hd; subst hv'; exact hv
    | succ i => exact h2 i d' v' (by simpa using hd) (by simpa using hv')
theorem opens_slice (hB : Bulk B) {α : Type} {k : Kd α} {good : α → Prop} {bulk : α → Nat} {n bytes : Nat} (ht : P.underlying t = some (.slice e)) (hc : P.cellsOf e = k.sz) (hy : P.bytesOf e = bytes) (hpos : 0 < bytes)
    (he : ∀ m, m < fuel → Opens enc P w B m e k good bulk) :
    Opens enc P w B fuel t (Kd.slice n k) (fun xs => xs.length * bytes ≤ 140737488351232 ∧ ∀ x ∈ xs, good x) (fun xs => (xs.map bulk).sum + 1) := by
  intro cs x h hs
  rcases DataW.trod_slice ht h with ⟨rfl, rfl⟩ | ⟨a, len, cap, elems, rest, m, rfl, rfl, rfl, hb, hl, hm, hlen, hel, _, _⟩
  · exact ⟨[], ⟨none, 0, rfl, Nat.le_refl _, Kd.C_nil _ _⟩, ⟨by simp, fun x hx => by cases hx⟩, hB.one _⟩
  · have hw : ((elems.map (·.1)).length + (rest.map (·.1)).length) * P.bytesOf e ≤ reachBytes ∧ (DataW.weightsAll P e (elems.map (·.1))).all (· ≤ reachBytes) = true := by
      simp only [DataW.weights, ht] at hs
      rw [List.all_cons, Bool.and_eq_true, List.all_append, Bool.and_eq_true] at hs
      exact ⟨of_decide_eq_true hs.1, hs.2.1⟩
    obtain ⟨vs, h1, h2, h3⟩ := list_of elems (fun i d v => ∃ cs', w.cells? 0 (a.add (i * P.cellsOf e)) (P.cellsOf e) = some cs' ∧ k.K w v cs' ∧ good v) bulk (fun d => B d.1) (by
      intro i d hd
      have hi : i < len := by rw [← hlen]; exact (List.getElem?_eq_some_iff.1 hd).1
      have hx := hel i hi
      rw [hd] at hx
      obtain ⟨cs', g1, g2⟩ := Option.bind_eq_some_iff.1 hx
      obtain ⟨v, g3, g4, g5⟩ := he m (Nat.lt_succ_self m) cs' d g2 (all_weights hw.2 (List.mem_map.2 ⟨d, List.mem_of_getElem? hd, rfl⟩))
      exact ⟨v, ⟨cs', g1, g3, g4⟩, g5⟩)
    have hvl : vs.length = len := by rw [h1, hlen]
    have hsz : len * bytes ≤ 140737488351232 := by
      have z := hw.1
      rw [hy, List.length_map, hlen] at z
      refine Nat.le_trans (Nat.mul_le_mul_right _ (Nat.le_add_right _ _)) (Nat.le_trans z ?_)
      simp [reachBytes]
    refine ⟨vs, ⟨some a, cap, by rw [hvl], by rw [hvl]; exact hl, rfl, ?_, fun _ => ⟨a, rfl, ?_⟩⟩, ⟨by rw [hvl]; exact hsz, ?_⟩, ?_⟩
    · rw [hvl]
      have : len ≤ len * bytes := Nat.le_mul_of_pos_right _ hpos
      omega
    · intro j p hp
      have hj : j < vs.length := (List.getElem?_eq_some_iff.1 hp).1
      obtain ⟨cs', g1, g2, _⟩ := h2 j _ p (List.getElem?_eq_getElem (by rw [← h1]; exact hj)) hp
      obtain ⟨_, g4, g5⟩ := World.cells?_some g1
      rw [hc] at g4 g5
      refine ⟨cs', g4, g2, fun i u hu => ?_⟩
      have hi : i < cs'.length := (List.getElem?_eq_some_iff.1 hu).1
      have g6 := g5 i (by omega)
      rw [Go.Deep.add_add] at g6
      rw [g6, hu]
    · intro x hx
      obtain ⟨j, hj, rfl⟩ := List.getElem_of_mem hx
      obtain ⟨_, _, _, g⟩ := h2 j _ _ (List.getElem?_eq_getElem (by rw [← h1]; exact hj)) (List.getElem?_eq_getElem hj)
      exact g
    · have z := hB.slice (elems.map (·.1)) (rest.map (·.1))
      have e2 : (elems.map fun d => B d.1).sum = ((elems.map (·.1)).map B).sum := by rw [List.map_map]; rfl
      show (vs.map bulk).sum + 1 ≤ B (.slice (elems.map (·.1)) (rest.map (·.1)))
      omega
def OpensF {H : Type} (enc : TypeId × Value → H) (P : Program) (w : World) (B : DataW H → Nat) {β : Type} (n total o : Nat) (fs : List (TypeId × Nat)) (k : Kd β) (good : β → Prop) (bulk : β → Nat) : Prop :=
  ∀ (cs : List Value) (xs : List (DataW H × List MemPlace)), cs.length = total → xs.length = fs.length → (∀ (i : Nat) (f : TypeId × Nat), fs[i]? = some f → DataW.trod enc P w 0 (fun _ => true) true n f.1 ((cs.drop f.2).take (P.cellsOf f.1)) = xs[i]?) →
    (DataW.weightsEach P (fs.map (·.1)) (xs.map (·.1))).all (· ≤ reachBytes) = true → ∃ v, k.K w v (cs.drop o) ∧ good v ∧ bulk v ≤ (xs.map fun d => B d.1).sum
theorem opensF_last {α : Type} {k : Kd α} {good : α → Prop} {bulk : α → Nat} {n total o : Nat} {f : TypeId} (hf : Opens enc P w B n f k good bulk) (ho : total ≤ o + P.cellsOf f) : OpensF enc P w B n total o [(f, o)] k good bulk := by
  intro cs xs hl hx ht hw
  match xs, hx with
  | [x], _ =>
    have h0 := ht 0 (f, o) rfl
    simp only [List.getElem?_cons_zero] at h0
    rw [List.take_of_length_le (by rw [List.length_drop]; omega)] at h0
    simp only [List.map_cons, List.map_nil, DataW.weightsEach, List.append_nil] at hw
    obtain ⟨v, g1, g2, g3⟩ := hf _ _ h0 hw
    exact ⟨v, g1, g2, by simpa using g3⟩
theorem opensF_cons {α β : Type} {k : Kd α} {k2 : Kd β} {good : α → Prop} {bulk : α → Nat} {good2 : β → Prop} {bulk2 : β → Nat} {n total o o2 : Nat} {f : TypeId} {fs : List (TypeId × Nat)} (hf : Opens enc P w B n f k good bulk) (ho : o + P.cellsOf f = o2)
    (h2 : OpensF enc P w B n total o2 fs k2 good2 bulk2) : OpensF enc P w B n total o ((f, o) :: fs) (Kd.pair k k2) (fun v => good v.1 ∧ good2 v.2) (fun v => bulk v.1 + bulk2 v.2) := by
  intro cs xs hl hx ht hw
  match xs, hx with
  | x :: xs, hx =>
    have h0 := ht 0 (f, o) rfl
    simp only [List.getElem?_cons_zero] at h0
    simp only [List.map_cons, DataW.weightsEach, List.all_append, Bool.and_eq_true] at hw
    obtain ⟨v, g1, g2, g3⟩ := hf _ _ h0 hw.1
    obtain ⟨v2, g4, g5, g6⟩ := h2 cs xs hl (by simpa using hx) (fun i f' hf' => by simpa using ht (i + 1) f' (by simpa using hf')) hw.2
    refine ⟨(v, v2), ⟨_, _, ?_, g1, g4⟩, ⟨g2, g5⟩, by simp; omega⟩
    rw [← ho, ← List.drop_drop, List.take_append_drop]
theorem opens_struct (hB : Bulk B) {β : Type} {fa : Array Field} {fs : List (TypeId × Nat)} {k : Kd β} {good : β → Prop} {bulk : β → Nat} (ht : P.underlying t = some (.struct fa)) (hfs : fa.toList.map (fun f => (f.type, f.offset)) = fs)
    (h : ∀ n, n < fuel → OpensF enc P w B n (P.cellsOf t) 0 fs k good bulk) : Opens enc P w B fuel t k good (fun v => bulk v + 1) := by
  intro cs x hx hw
  obtain ⟨xs, n, rfl, rfl, hl, hxl, hf⟩ := DataW.trod_struct ht hx
  simp only [DataW.weights, ht] at hw
  have hmt : fa.toList.map (·.type) = fs.map (·.1) := by rw [← hfs, List.map_map]; rfl
  rw [hmt] at hw
  obtain ⟨v, g1, g2, g3⟩ := h n (Nat.lt_succ_self n) cs xs hl (by rw [hxl, ← hfs]; simp) (fun i f hif => by
    rw [← hfs, List.getElem?_map] at hif
    obtain ⟨f0, hf0, rfl⟩ := Option.map_eq_some_iff.1 hif
    exact hf i f0 (by simpa using hf0)) hw
  refine ⟨v, by simpa using g1, g2, ?_⟩
  have z := hB.agg (xs.map (·.1))
  have e2 : (xs.map fun d => B d.1).sum = ((xs.map (·.1)).map B).sum := by rw [List.map_map]; rfl
  show bulk v + 1 ≤ B (.agg (xs.map (·.1)))
  omega
theorem opens_iso {α β : Type} {k : Kd α} {good : α → Prop} {bulk : α → Nat} {f : β → α} (g : α → β) (hg : ∀ a, f (g a) = a) (h : Opens enc P w B fuel t k good bulk) : Opens enc P w B fuel t (Kd.iso k f) (fun b => good (f b)) (fun b => bulk (f b)) := by
  intro cs x hx hw
  obtain ⟨v, g1, g2, g3⟩ := h cs x hx hw
  exact ⟨g v, by show k.K w (f (g v)) cs; rw [hg]; exact g1, by show good (f (g v)); rw [hg]; exact g2, by show bulk (f (g v)) ≤ _; rw [hg]; exact g3⟩
theorem opens_weaken {α : Type} {k : Kd α} {good good2 : α → Prop} {bulk bulk2 : α → Nat} (h : Opens enc P w B fuel t k good bulk) (hg : ∀ a, good a → good2 a) (hb : ∀ a, bulk2 a ≤ bulk a) : Opens enc P w B fuel t k good2 bulk2 := by
  intro cs x hx hw
  obtain ⟨v, g1, g2, g3⟩ := h cs x hx hw
  exact ⟨v, g1, hg v g2, Nat.le_trans (hb v) g3⟩
theorem opens_kd {α : Type} {k k2 : Kd α} {good : α → Prop} {bulk : α → Nat} (h : Opens enc P w B fuel t k good bulk) (hk : ∀ a cs, k.K w a cs → k2.K w a cs) : Opens enc P w B fuel t k2 good bulk := by
  intro cs x hx hw
  obtain ⟨v, g1, g2, g3⟩ := h cs x hx hw
  exact ⟨v, hk v cs g1, g2, g3⟩
theorem weights_at {ts : List TypeId} {ds : List (DataW H)} {j : Nat} {d : DataW H} (h : (DataW.weightsEach P ts ds).all (· ≤ reachBytes) = true) (ht : ts[j]? = some t) (hd : ds[j]? = some d) : (d.weights P t).all (· ≤ reachBytes) = true :=
  List.all_eq_true.2 fun n hn => List.all_eq_true.1 h n (DataW.weights_mem_each ht hd n hn)
end
end Go.Proofs.Ytfcahachdpjfoaa.Op
end
section
namespace Go.Proofs.YtfcahachdpjfoaaW.PrintLast
open Go.Proofs.YtfcahachdpjfoaaW.PrintWords (Aside0)
section
variable {md : Region.Mode} {ops : Array Oper} {T : Bool × List (List Nat × List Nat)} {l l' li lj lk : Array Bool} {ds : List Nat} {i j k : Nat}
theorem gd (l : Array Bool) (j : Nat) (b : Bool) : l.getD j b = l.toList.getD j b := by simp [Array.getD_eq_getD_getElem?, List.getD_eq_getElem?_getD]
end
end Go.Proofs.YtfcahachdpjfoaaW.PrintLast
end
section
namespace Go.Proofs.YtfcahachdpjfoaaW.PrintWords
theorem Reps.one {α : Type} {R : α → List Value → Prop} {ps : List α} {cs : List Value} {p : α} {v : Value} (hp : R p [v]) (h : Reps R 1 ps cs) : Reps R 1 (p :: ps) (v :: cs) := by
  refine ⟨by simp [h.1], fun j q hq => ?_⟩
  cases j with
  | zero =>
    simp only [List.getElem?_cons_zero, Option.some.injEq] at hq
    subst hq
    simpa using hp
  | succ j =>
    simp only [List.getElem?_cons_succ] at hq
    have h1 := h.2 j q hq
    simpa [Nat.mul_one] using h1
theorem Reps.front {α : Type} {R : α → List Value → Prop} {size : Nat} {ps : List α} {cs c all : List Value} {p : α} (hp : R p c) (hc : c.length = size) (h : Reps R size ps cs) (ha : c ++ cs = all) : Reps R size (p :: ps) all := by
  subst ha
  refine ⟨by rw [List.length_append, hc, h.1, List.length_cons, Nat.succ_mul, Nat.add_comm], fun j q hq => ?_⟩
  cases j with
  | zero =>
    simp only [List.getElem?_cons_zero, Option.some.injEq] at hq
    subst hq
    rw [Nat.zero_mul, List.drop_zero, List.take_append_of_le_length (by omega), List.take_of_length_le (by omega)]
    exact hp
  | succ j =>
    simp only [List.getElem?_cons_succ] at hq
    have h1 := h.2 j q hq
    rw [Nat.succ_mul, List.drop_append, List.drop_of_length_le (by rw [hc]; exact Nat.le_add_left _ _), List.nil_append, hc, Nat.add_sub_cancel]
    exact h1
theorem Reps.c2 {α : Type} {R : α → List Value → Prop} {ps : List α} {cs : List Value} {p : α} {va vb : Value} (hp : R p [va, vb]) (h : Reps R 2 ps cs) : Reps R 2 (p :: ps) (va :: vb :: cs) := Reps.front hp rfl h rfl
theorem Reps.c3 {α : Type} {R : α → List Value → Prop} {ps : List α} {cs : List Value} {p : α} {va vb vc : Value} (hp : R p [va, vb, vc]) (h : Reps R 3 ps cs) : Reps R 3 (p :: ps) (va :: vb :: vc :: cs) := Reps.front hp rfl h rfl
theorem Reps.c4 {α : Type} {R : α → List Value → Prop} {ps : List α} {cs : List Value} {p : α} {va vb vc vd : Value} (hp : R p [va, vb, vc, vd]) (h : Reps R 4 ps cs) : Reps R 4 (p :: ps) (va :: vb :: vc :: vd :: cs) := Reps.front hp rfl h rfl
theorem Reps.c5 {α : Type} {R : α → List Value → Prop} {ps : List α} {cs : List Value} {p : α} {va vb vc vd ve : Value} (hp : R p [va, vb, vc, vd, ve]) (h : Reps R 5 ps cs) : Reps R 5 (p :: ps) (va :: vb :: vc :: vd :: ve :: cs) := Reps.front hp rfl h rfl
theorem Reps.c6 {α : Type} {R : α → List Value → Prop} {ps : List α} {cs : List Value} {p : α} {va vb vc vd ve vf : Value} (hp : R p [va, vb, vc, vd, ve, vf]) (h : Reps R 6 ps cs) : Reps R 6 (p :: ps) (va :: vb :: vc :: vd :: ve :: vf :: cs) := Reps.front hp rfl h rfl
theorem Reps.c7 {α : Type} {R : α → List Value → Prop} {ps : List α} {cs : List Value} {p : α} {va vb vc vd ve vf vg : Value} (hp : R p [va, vb, vc, vd, ve, vf, vg]) (h : Reps R 7 ps cs) : Reps R 7 (p :: ps) (va :: vb :: vc :: vd :: ve :: vf :: vg :: cs) := Reps.front hp rfl h rfl
theorem Reps.c8 {α : Type} {R : α → List Value → Prop} {ps : List α} {cs : List Value} {p : α} {va vb vc vd ve vf vg vh : Value} (hp : R p [va, vb, vc, vd, ve, vf, vg, vh]) (h : Reps R 8 ps cs) : Reps R 8 (p :: ps) (va :: vb :: vc :: vd :: ve :: vf :: vg :: vh :: cs) := Reps.front hp rfl h rfl
theorem Reps.c9 {α : Type} {R : α → List Value → Prop} {ps : List α} {cs : List Value} {p : α} {va vb vc vd ve vf vg vh vi : Value} (hp : R p [va, vb, vc, vd, ve, vf, vg, vh, vi]) (h : Reps R 9 ps cs) : Reps R 9 (p :: ps) (va :: vb :: vc :: vd :: ve :: vf :: vg :: vh :: vi :: cs) := Reps.front hp rfl h rfl
theorem Reps.c10 {α : Type} {R : α → List Value → Prop} {ps : List α} {cs : List Value} {p : α} {va vb vc vd ve vf vg vh vi vj : Value} (hp : R p [va, vb, vc, vd, ve, vf, vg, vh, vi, vj]) (h : Reps R 10 ps cs) : Reps R 10 (p :: ps) (va :: vb :: vc :: vd :: ve :: vf :: vg :: vh :: vi :: vj :: cs) := Reps.front hp rfl h rfl
end Go.Proofs.YtfcahachdpjfoaaW.PrintWords
end
section
namespace Go.Proofs.YtfcahachdpjfoaaW.PrintLast
def up (b : Nat → Bool) (i : Nat) : Nat → Bool := fun j => if j = i then true else b j
end Go.Proofs.YtfcahachdpjfoaaW.PrintLast
end
section
namespace Go.Proofs.YtfcahachdpjfoaaW.PrintWords
open Go.RowKit
section
variable {P : Program} {ops : Array Oper} {rest : List Oper} {o : Oper} {a : Act} {Q : Exit → Act → World → Prop} {W : World}
theorem gate_guard (hw : Region.wanted o (yielded ops a.tmps) = true) (h : wpList P ops Q ({ o with guard := none } :: rest) a W) : wpList P ops Q (o :: rest) a W := by
  have h1 : Region.wanted { o with guard := none } (yielded ops a.tmps) = true := rfl
  unfold wpList at h ⊢
  rw [if_pos h1] at h
  rw [if_pos hw]
  exact h
end
end Go.Proofs.YtfcahachdpjfoaaW.PrintWords
end
section
namespace Go.Proofs.Ytfcahachdpjfoaa.L
open Go.RowKit Go.Proofs.YtfcahachdpjfoaaW.PrintWords Go.Proofs.YtfcahachdpjfoaaW.PrintLast Go.Proofs.YtfcahachdpjfoaaW.PrintMore
attribute [local go_sem] max2_int min2_int max_two min_two max_three min_three max_four min_four   
set_option linter.unusedVariables false
set_option linter.unusedSimpArgs false
def errW : Option Int → Value
  | none => .nilIface
  | some c => .iface 0 (.int .i64 c)
theorem errW_none : errW none = .nilIface := rfl
theorem errW_some (c : Int) : errW (some c) = .iface 0 (.int .i64 c) := rfl
theorem info9 : (Try.prog.info? 9).map (fun i => (i.zero, i.size, i.bytes)) = some (some (.string ⟨#[]⟩), 1, 16) := by kernel_rfl
structure S75 where
  f0 : Int
  f1 : Int
  f2 : ByteArray
  f3 : (List S75)
def z75 : S75 := ⟨(0 : Int), (0 : Int), (⟨#[]⟩ : ByteArray), ([] : List S75)⟩
def F75 (d : Kd S75) : Kd S75 := Kd.iso (Kd.pair (Kd.int .i64) (Kd.pair (Kd.int .u64) (Kd.pair Kd.string (Kd.slice 75 d)))) (fun x : S75 => (x.f0, x.f1, x.f2, x.f3))
theorem mono75 : Kd.Mono F75 := Kd.mono_iso _ (Kd.mono_pair (Kd.mono_const _) (Kd.mono_pair (Kd.mono_const _) (Kd.mono_pair (Kd.mono_const _) (Kd.mono_slice 75 Kd.mono_id))))
theorem sub75 : Kd.Sub F75 [75] := Kd.sub_iso _ (Kd.sub_pair (Kd.sub_const _ (by decide)) (Kd.sub_pair (Kd.sub_const _ (by decide)) (Kd.sub_pair (Kd.sub_const _ (by decide)) (Kd.sub_slice 75 (by decide) Kd.sub_id))))
theorem sz75 : ∀ n, (Kd.upto F75 4 [75] n).sz = 4 := Kd.upto_sz (fun _ => rfl)
def k75 : Kd S75 := Kd.fix F75 4 [75] sz75 (Kd.upto_E sub75)
theorem k75_open {w : World} {x : S75} {cs : List Value} (h : k75.K w x cs) : ∃ A3 c3, cs = [.int .i64 x.f0, .int .u64 x.f1, .string x.f2, .slice A3 x.f3.length c3] ∧ x.f3.length ≤ c3 ∧ k75.C w A3 x.f3.length x.f3 := by
  obtain ⟨n, h⟩ := h
  cases n with
  | zero => exact h.elim
  | succ n =>
    obtain ⟨_, _, rfl, rfl, ⟨_, _, rfl, rfl, ⟨_, _, rfl, rfl, ⟨A3, c3, rfl, l3, g3⟩⟩⟩⟩ := h
    exact ⟨A3, c3, rfl, l3, Kd.fix_C g3⟩
theorem k75_mk (w : World) (x : S75) {A3 : Option Addr} {c3 : Nat} (l3 : x.f3.length ≤ c3) (g3 : k75.C w A3 x.f3.length x.f3) : k75.K w x [.int .i64 x.f0, .int .u64 x.f1, .string x.f2, .slice A3 x.f3.length c3] := by
  obtain ⟨n3, q3⟩ := Kd.fix_C_back mono75 g3
  have r3 := Kd.upto_C_le mono75 sz75 (show n3 ≤ n3 by omega) q3
  exact ⟨n3 + 1, ⟨[.int .i64 x.f0], [.int .u64 x.f1, .string x.f2, .slice A3 x.f3.length c3], rfl, rfl, ⟨[.int .u64 x.f1], [.string x.f2, .slice A3 x.f3.length c3], rfl, rfl, ⟨[.string x.f2], [.slice A3 x.f3.length c3], rfl, rfl, ⟨A3, c3, rfl, l3, r3⟩⟩⟩⟩⟩
theorem k75_mkM (w : World) (base : Nat) (ok : Nat → Prop) (x : S75) {v3 : Value} (g3 : k75.R 75 w base ok v3 x.f3) : k75.M w base ok x [.int .i64 x.f0, .int .u64 x.f1, .string x.f2, v3] := by
  obtain ⟨n3, q3⟩ := Kd.fix_R_back mono75 g3
  have r3 := Kd.upto_R_le mono75 sz75 (show n3 ≤ n3 by omega) q3
  exact ⟨n3 + 1, ⟨[.int .i64 x.f0], [.int .u64 x.f1, .string x.f2, v3], rfl, rfl, ⟨[.int .u64 x.f1], [.string x.f2, v3], rfl, rfl, ⟨[.string x.f2], [v3], rfl, rfl, ⟨v3, rfl, r3⟩⟩⟩⟩⟩
def rd_T75 (xs : List S75) (i : Int) : S75 := xs.getD i.toNat z75
theorem at_T75 {w : World} {A : Option Addr} {n : Nat} {xs : List S75} (h : Kd.C k75 w A n xs) (i : Int) (h0 : 0 ≤ i) (h1 : i < n) : ∃ ad A3 c3, A = some ad ∧ w.cell? (ad.add (i.toNat * 4)) = some (.int .i64 (rd_T75 xs i).f0) ∧ w.cell? ⟨(ad.add (i.toNat * 4)).block, (ad.add (i.toNat * 4)).off + 1, none⟩ = some (.int .u64 (rd_T75 xs i).f1) ∧ w.cell? ⟨(ad.add (i.toNat * 4)).block, (ad.add (i.toNat * 4)).off + 2, none⟩ = some (.string (rd_T75 xs i).f2) ∧ w.cell? ⟨(ad.add (i.toNat * 4)).block, (ad.add (i.toNat * 4)).off + 3, none⟩ = some (.slice A3 (rd_T75 xs i).f3.length c3) ∧ (rd_T75 xs i).f3.length ≤ c3 ∧ k75.C w A3 (rd_T75 xs i).f3.length (rd_T75 xs i).f3 := by
  obtain ⟨ad, c, e, _, hK, hc0⟩ := Kd.C_get h z75 i h0 h1
  have hc : ∀ j u, c[j]? = some u → w.cell? (ad.add (i.toNat * 4 + j)) = some u := hc0
  obtain ⟨A3, c3, rfl, l3, g3⟩ := k75_open hK
  exact ⟨ad, A3, c3, e, hc 0 _ rfl, by rw [← add_field _ _ 1 (by omega)]; exact hc 1 _ rfl, by rw [← add_field _ _ 2 (by omega)]; exact hc 2 _ rfl, by rw [← add_field _ _ 3 (by omega)]; exact hc 3 _ rfl, l3, g3⟩
structure S77 where
  f0 : Int
  f1 : ByteArray
  f2 : S75
  f3 : S75
  f4 : Int
  f5 : Int
  f6 : (List S77)
  f7 : (List S77)
def z77 : S77 := ⟨(0 : Int), (⟨#[]⟩ : ByteArray), z75, z75, (0 : Int), (0 : Int), ([] : List S77), ([] : List S77)⟩
def F77 (d : Kd S77) : Kd S77 := Kd.iso (Kd.pair (Kd.int .i64) (Kd.pair Kd.string (Kd.pair k75 (Kd.pair k75 (Kd.pair (Kd.int .u64) (Kd.pair (Kd.int .u64) (Kd.pair (Kd.slice 77 d) (Kd.slice 77 d)))))))) (fun x : S77 => (x.f0, x.f1, x.f2, x.f3, x.f4, x.f5, x.f6, x.f7))
theorem mono77 : Kd.Mono F77 := Kd.mono_iso _ (Kd.mono_pair (Kd.mono_const _) (Kd.mono_pair (Kd.mono_const _) (Kd.mono_pair (Kd.mono_const _) (Kd.mono_pair (Kd.mono_const _) (Kd.mono_pair (Kd.mono_const _) (Kd.mono_pair (Kd.mono_const _) (Kd.mono_pair (Kd.mono_slice 77 Kd.mono_id) (Kd.mono_slice 77 Kd.mono_id))))))))
theorem sub77 : Kd.Sub F77 [75, 77] := Kd.sub_iso _ (Kd.sub_pair (Kd.sub_const _ (by decide)) (Kd.sub_pair (Kd.sub_const _ (by decide)) (Kd.sub_pair (Kd.sub_const _ (by decide)) (Kd.sub_pair (Kd.sub_const _ (by decide)) (Kd.sub_pair (Kd.sub_const _ (by decide)) (Kd.sub_pair (Kd.sub_const _ (by decide)) (Kd.sub_pair (Kd.sub_slice 77 (by decide) Kd.sub_id) (Kd.sub_slice 77 (by decide) Kd.sub_id))))))))
theorem sz77 : ∀ n, (Kd.upto F77 14 [75, 77] n).sz = 14 := Kd.upto_sz (fun _ => rfl)
def k77 : Kd S77 := Kd.fix F77 14 [75, 77] sz77 (Kd.upto_E sub77)
theorem k77_open {w : World} {x : S77} {cs : List Value} (h : k77.K w x cs) : ∃ A5 c5 A9 c9 A12 c12 A13 c13, cs = [.int .i64 x.f0, .string x.f1, .int .i64 x.f2.f0, .int .u64 x.f2.f1, .string x.f2.f2, .slice A5 x.f2.f3.length c5, .int .i64 x.f3.f0, .int .u64 x.f3.f1, .string x.f3.f2, .slice A9 x.f3.f3.length c9, .int .u64 x.f4, .int .u64 x.f5, .slice A12 x.f6.length c12, .slice A13 x.f7.length c13] ∧ x.f2.f3.length ≤ c5 ∧ k75.C w A5 x.f2.f3.length x.f2.f3 ∧ x.f3.f3.length ≤ c9 ∧ k75.C w A9 x.f3.f3.length x.f3.f3 ∧ x.f6.length ≤ c12 ∧ k77.C w A12 x.f6.length x.f6 ∧ x.f7.length ≤ c13 ∧ k77.C w A13 x.f7.length x.f7 := by
  obtain ⟨n, h⟩ := h
  cases n with
  | zero => exact h.elim
  | succ n =>
    obtain ⟨_, _, rfl, rfl, ⟨_, _, rfl, rfl, ⟨_, _, rfl, s2, ⟨_, _, rfl, s6, ⟨_, _, rfl, rfl, ⟨_, _, rfl, rfl, ⟨_, _, rfl, ⟨A12, c12, rfl, l12, g12⟩, ⟨A13, c13, rfl, l13, g13⟩⟩⟩⟩⟩⟩⟩⟩ := h
    obtain ⟨A5, c5, rfl, l5, g5⟩ := k75_open s2
    obtain ⟨A9, c9, rfl, l9, g9⟩ := k75_open s6
    exact ⟨A5, c5, A9, c9, A12, c12, A13, c13, rfl, l5, g5, l9, g9, l12, Kd.fix_C g12, l13, Kd.fix_C g13⟩
theorem k77_mk (w : World) (x : S77) {A5 : Option Addr} {c5 : Nat} (l5 : x.f2.f3.length ≤ c5) (g5 : k75.C w A5 x.f2.f3.length x.f2.f3) {A9 : Option Addr} {c9 : Nat} (l9 : x.f3.f3.length ≤ c9) (g9 : k75.C w A9 x.f3.f3.length x.f3.f3) {A12 : Option Addr} {c12 : Nat} (l12 : x.f6.length ≤ c12) (g12 : k77.C w A12 x.f6.length x.f6) {A13 : Option Addr} {c13 : Nat} (l13 : x.f7.length ≤ c13) (g13 : k77.C w A13 x.f7.length x.f7) : k77.K w x [.int .i64 x.f0, .string x.f1, .int .i64 x.f2.f0, .int .u64 x.f2.f1, .string x.f2.f2, .slice A5 x.f2.f3.length c5, .int .i64 x.f3.f0, .int .u64 x.f3.f1, .string x.f3.f2, .slice A9 x.f3.f3.length c9, .int .u64 x.f4, .int .u64 x.f5, .slice A12 x.f6.length c12, .slice A13 x.f7.length c13] := by
  obtain ⟨n12, q12⟩ := Kd.fix_C_back mono77 g12
  obtain ⟨n13, q13⟩ := Kd.fix_C_back mono77 g13
  have r12 := Kd.upto_C_le mono77 sz77 (show n12 ≤ (max n12 n13) by omega) q12
  have r13 := Kd.upto_C_le mono77 sz77 (show n13 ≤ (max n12 n13) by omega) q13
  exact ⟨(max n12 n13) + 1, ⟨[.int .i64 x.f0], [.string x.f1, .int .i64 x.f2.f0, .int .u64 x.f2.f1, .string x.f2.f2, .slice A5 x.f2.f3.length c5, .int .i64 x.f3.f0, .int .u64 x.f3.f1, .string x.f3.f2, .slice A9 x.f3.f3.length c9, .int .u64 x.f4, .int .u64 x.f5, .slice A12 x.f6.length c12, .slice A13 x.f7.length c13], rfl, rfl, ⟨[.string x.f1], [.int .i64 x.f2.f0, .int .u64 x.f2.f1, .string x.f2.f2, .slice A5 x.f2.f3.length c5, .int .i64 x.f3.f0, .int .u64 x.f3.f1, .string x.f3.f2, .slice A9 x.f3.f3.length c9, .int .u64 x.f4, .int .u64 x.f5, .slice A12 x.f6.length c12, .slice A13 x.f7.length c13], rfl, rfl, ⟨[.int .i64 x.f2.f0, .int .u64 x.f2.f1, .string x.f2.f2, .slice A5 x.f2.f3.length c5], [.int .i64 x.f3.f0, .int .u64 x.f3.f1, .string x.f3.f2, .slice A9 x.f3.f3.length c9, .int .u64 x.f4, .int .u64 x.f5, .slice A12 x.f6.length c12, .slice A13 x.f7.length c13], rfl, (k75_mk w x.f2 l5 g5), ⟨[.int .i64 x.f3.f0, .int .u64 x.f3.f1, .string x.f3.f2, .slice A9 x.f3.f3.length c9], [.int .u64 x.f4, .int .u64 x.f5, .slice A12 x.f6.length c12, .slice A13 x.f7.length c13], rfl, (k75_mk w x.f3 l9 g9), ⟨[.int .u64 x.f4], [.int .u64 x.f5, .slice A12 x.f6.length c12, .slice A13 x.f7.length c13], rfl, rfl, ⟨[.int .u64 x.f5], [.slice A12 x.f6.length c12, .slice A13 x.f7.length c13], rfl, rfl, ⟨[.slice A12 x.f6.length c12], [.slice A13 x.f7.length c13], rfl, ⟨A12, c12, rfl, l12, r12⟩, ⟨A13, c13, rfl, l13, r13⟩⟩⟩⟩⟩⟩⟩⟩⟩
theorem k77_mkM (w : World) (base : Nat) (ok : Nat → Prop) (x : S77) {v5 : Value} (g5 : k75.R 75 w base ok v5 x.f2.f3) {v9 : Value} (g9 : k75.R 75 w base ok v9 x.f3.f3) {v12 : Value} (g12 : k77.R 77 w base ok v12 x.f6) {v13 : Value} (g13 : k77.R 77 w base ok v13 x.f7) : k77.M w base ok x [.int .i64 x.f0, .string x.f1, .int .i64 x.f2.f0, .int .u64 x.f2.f1, .string x.f2.f2, v5, .int .i64 x.f3.f0, .int .u64 x.f3.f1, .string x.f3.f2, v9, .int .u64 x.f4, .int .u64 x.f5, v12, v13] := by
  obtain ⟨n12, q12⟩ := Kd.fix_R_back mono77 g12
  obtain ⟨n13, q13⟩ := Kd.fix_R_back mono77 g13
  have r12 := Kd.upto_R_le mono77 sz77 (show n12 ≤ (max n12 n13) by omega) q12
  have r13 := Kd.upto_R_le mono77 sz77 (show n13 ≤ (max n12 n13) by omega) q13
  exact ⟨(max n12 n13) + 1, ⟨[.int .i64 x.f0], [.string x.f1, .int .i64 x.f2.f0, .int .u64 x.f2.f1, .string x.f2.f2, v5, .int .i64 x.f3.f0, .int .u64 x.f3.f1, .string x.f3.f2, v9, .int .u64 x.f4, .int .u64 x.f5, v12, v13], rfl, rfl, ⟨[.string x.f1], [.int .i64 x.f2.f0, .int .u64 x.f2.f1, .string x.f2.f2, v5, .int .i64 x.f3.f0, .int .u64 x.f3.f1, .string x.f3.f2, v9, .int .u64 x.f4, .int .u64 x.f5, v12, v13], rfl, rfl, ⟨[.int .i64 x.f2.f0, .int .u64 x.f2.f1, .string x.f2.f2, v5], [.int .i64 x.f3.f0, .int .u64 x.f3.f1, .string x.f3.f2, v9, .int .u64 x.f4, .int .u64 x.f5, v12, v13], rfl, (k75_mkM w base ok x.f2 g5), ⟨[.int .i64 x.f3.f0, .int .u64 x.f3.f1, .string x.f3.f2, v9], [.int .u64 x.f4, .int .u64 x.f5, v12, v13], rfl, (k75_mkM w base ok x.f3 g9), ⟨[.int .u64 x.f4], [.int .u64 x.f5, v12, v13], rfl, rfl, ⟨[.int .u64 x.f5], [v12, v13], rfl, rfl, ⟨[v12], [v13], rfl, ⟨v12, rfl, r12⟩, ⟨v13, rfl, r13⟩⟩⟩⟩⟩⟩⟩⟩⟩
def rd_T77 (xs : List S77) (i : Int) : S77 := xs.getD i.toNat z77
theorem at_T77 {w : World} {A : Option Addr} {n : Nat} {xs : List S77} (h : Kd.C k77 w A n xs) (i : Int) (h0 : 0 ≤ i) (h1 : i < n) : ∃ ad A5 c5 A9 c9 A12 c12 A13 c13, A = some ad ∧ w.cell? (ad.add (i.toNat * 14)) = some (.int .i64 (rd_T77 xs i).f0) ∧ w.cell? ⟨(ad.add (i.toNat * 14)).block, (ad.add (i.toNat * 14)).off + 1, none⟩ = some (.string (rd_T77 xs i).f1) ∧ w.cell? ⟨(ad.add (i.toNat * 14)).block, (ad.add (i.toNat * 14)).off + 2, none⟩ = some (.int .i64 (rd_T77 xs i).f2.f0) ∧ w.cell? ⟨(ad.add (i.toNat * 14)).block, (ad.add (i.toNat * 14)).off + 3, none⟩ = some (.int .u64 (rd_T77 xs i).f2.f1) ∧ w.cell? ⟨(ad.add (i.toNat * 14)).block, (ad.add (i.toNat * 14)).off + 4, none⟩ = some (.string (rd_T77 xs i).f2.f2) ∧ w.cell? ⟨(ad.add (i.toNat * 14)).block, (ad.add (i.toNat * 14)).off + 5, none⟩ = some (.slice A5 (rd_T77 xs i).f2.f3.length c5) ∧ w.cell? ⟨(ad.add (i.toNat * 14)).block, (ad.add (i.toNat * 14)).off + 6, none⟩ = some (.int .i64 (rd_T77 xs i).f3.f0) ∧ w.cell? ⟨(ad.add (i.toNat * 14)).block, (ad.add (i.toNat * 14)).off + 7, none⟩ = some (.int .u64 (rd_T77 xs i).f3.f1) ∧ w.cell? ⟨(ad.add (i.toNat * 14)).block, (ad.add (i.toNat * 14)).off + 8, none⟩ = some (.string (rd_T77 xs i).f3.f2) ∧ w.cell? ⟨(ad.add (i.toNat * 14)).block, (ad.add (i.toNat * 14)).off + 9, none⟩ = some (.slice A9 (rd_T77 xs i).f3.f3.length c9) ∧ w.cell? ⟨(ad.add (i.toNat * 14)).block, (ad.add (i.toNat * 14)).off + 10, none⟩ = some (.int .u64 (rd_T77 xs i).f4) ∧ w.cell? ⟨(ad.add (i.toNat * 14)).block, (ad.add (i.toNat * 14)).off + 11, none⟩ = some (.int .u64 (rd_T77 xs i).f5) ∧ w.cell? ⟨(ad.add (i.toNat * 14)).block, (ad.add (i.toNat * 14)).off + 12, none⟩ = some (.slice A12 (rd_T77 xs i).f6.length c12) ∧ w.cell? ⟨(ad.add (i.toNat * 14)).block, (ad.add (i.toNat * 14)).off + 13, none⟩ = some (.slice A13 (rd_T77 xs i).f7.length c13) ∧ (rd_T77 xs i).f2.f3.length ≤ c5 ∧ k75.C w A5 (rd_T77 xs i).f2.f3.length (rd_T77 xs i).f2.f3 ∧ (rd_T77 xs i).f3.f3.length ≤ c9 ∧ k75.C w A9 (rd_T77 xs i).f3.f3.length (rd_T77 xs i).f3.f3 ∧ (rd_T77 xs i).f6.length ≤ c12 ∧ k77.C w A12 (rd_T77 xs i).f6.length (rd_T77 xs i).f6 ∧ (rd_T77 xs i).f7.length ≤ c13 ∧ k77.C w A13 (rd_T77 xs i).f7.length (rd_T77 xs i).f7 := by
  obtain ⟨ad, c, e, _, hK, hc0⟩ := Kd.C_get h z77 i h0 h1
  have hc : ∀ j u, c[j]? = some u → w.cell? (ad.add (i.toNat * 14 + j)) = some u := hc0
  obtain ⟨A5, c5, A9, c9, A12, c12, A13, c13, rfl, l5, g5, l9, g9, l12, g12, l13, g13⟩ := k77_open hK
  exact ⟨ad, A5, c5, A9, c9, A12, c12, A13, c13, e, hc 0 _ rfl, by rw [← add_field _ _ 1 (by omega)]; exact hc 1 _ rfl, by rw [← add_field _ _ 2 (by omega)]; exact hc 2 _ rfl, by rw [← add_field _ _ 3 (by omega)]; exact hc 3 _ rfl, by rw [← add_field _ _ 4 (by omega)]; exact hc 4 _ rfl, by rw [← add_field _ _ 5 (by omega)]; exact hc 5 _ rfl, by rw [← add_field _ _ 6 (by omega)]; exact hc 6 _ rfl, by rw [← add_field _ _ 7 (by omega)]; exact hc 7 _ rfl, by rw [← add_field _ _ 8 (by omega)]; exact hc 8 _ rfl, by rw [← add_field _ _ 9 (by omega)]; exact hc 9 _ rfl, by rw [← add_field _ _ 10 (by omega)]; exact hc 10 _ rfl, by rw [← add_field _ _ 11 (by omega)]; exact hc 11 _ rfl, by rw [← add_field _ _ 12 (by omega)]; exact hc 12 _ rfl, by rw [← add_field _ _ 13 (by omega)]; exact hc 13 _ rfl, l5, g5, l9, g9, l12, g12, l13, g13⟩
structure S44 where
  f0 : Int
  f1 : ByteArray
  f2 : Int
  f3 : (List Int)
def z44 : S44 := ⟨(0 : Int), (⟨#[]⟩ : ByteArray), (0 : Int), ([] : List Int)⟩
def k44 : Kd S44 := Kd.iso (Kd.pair (Kd.int .i64) (Kd.pair Kd.string (Kd.pair (Kd.int .i64) (Kd.slice 60 (Kd.int .u64))))) (fun x : S44 => (x.f0, x.f1, x.f2, x.f3))
theorem k44_open {w : World} {x : S44} {cs : List Value} (h : k44.K w x cs) : ∃ A3 c3, cs = [.int .i64 x.f0, .string x.f1, .int .i64 x.f2, .slice A3 x.f3.length c3] ∧ x.f3.length ≤ c3 ∧ (Kd.int .u64).C w A3 x.f3.length x.f3 := by
  obtain ⟨_, _, rfl, rfl, ⟨_, _, rfl, rfl, ⟨_, _, rfl, rfl, ⟨A3, c3, rfl, l3, g3⟩⟩⟩⟩ := h
  exact ⟨A3, c3, rfl, l3, g3⟩
theorem k44_mk (w : World) (x : S44) {A3 : Option Addr} {c3 : Nat} (l3 : x.f3.length ≤ c3) (g3 : (Kd.int .u64).C w A3 x.f3.length x.f3) : k44.K w x [.int .i64 x.f0, .string x.f1, .int .i64 x.f2, .slice A3 x.f3.length c3] := ⟨[.int .i64 x.f0], [.string x.f1, .int .i64 x.f2, .slice A3 x.f3.length c3], rfl, rfl, ⟨[.string x.f1], [.int .i64 x.f2, .slice A3 x.f3.length c3], rfl, rfl, ⟨[.int .i64 x.f2], [.slice A3 x.f3.length c3], rfl, rfl, ⟨A3, c3, rfl, l3, g3⟩⟩⟩⟩
theorem k44_openF {W : World} {ok : Nat → Prop} {x : S44} {cs : List Value} (h : Kd.FK k44 W ok x cs) : ∃ A3 c3, cs = [.int .i64 x.f0, .string x.f1, .int .i64 x.f2, .slice A3 x.f3.length c3] ∧ x.f3.length ≤ c3 ∧ Kd.F (Kd.int .u64) W ok A3 x.f3.length x.f3 := by
  obtain ⟨A3, c3, rfl, l3, _⟩ := k44_open (Kd.FK_now h)
  exact ⟨A3, c3, rfl, l3, (fun W' hW => by obtain ⟨A3_, c3_, he, l3_, g3_⟩ := k44_open (h W' hW); injection (Option.some.inj (show some (Value.slice A3 x.f3.length c3) = some (Value.slice A3_ x.f3.length c3_) from congrArg (fun l => l[3]?) he)) with ha_ _ _; rw [ha_]; exact g3_)⟩
theorem k44_mkF (W : World) (ok : Nat → Prop) (x : S44) {A3 : Option Addr} {c3 : Nat} (l3 : x.f3.length ≤ c3) (g3 : Kd.F (Kd.int .u64) W ok A3 x.f3.length x.f3) : Kd.FK k44 W ok x [.int .i64 x.f0, .string x.f1, .int .i64 x.f2, .slice A3 x.f3.length c3] := fun W2 hW => k44_mk W2 x l3 (g3 W2 hW)
def rd_T44 (xs : List S44) (i : Int) : S44 := xs.getD i.toNat z44
theorem at_T44 {w : World} {A : Option Addr} {n : Nat} {xs : List S44} (h : Kd.C k44 w A n xs) (i : Int) (h0 : 0 ≤ i) (h1 : i < n) : ∃ ad A3 c3, A = some ad ∧ w.cell? (ad.add (i.toNat * 4)) = some (.int .i64 (rd_T44 xs i).f0) ∧ w.cell? ⟨(ad.add (i.toNat * 4)).block, (ad.add (i.toNat * 4)).off + 1, none⟩ = some (.string (rd_T44 xs i).f1) ∧ w.cell? ⟨(ad.add (i.toNat * 4)).block, (ad.add (i.toNat * 4)).off + 2, none⟩ = some (.int .i64 (rd_T44 xs i).f2) ∧ w.cell? ⟨(ad.add (i.toNat * 4)).block, (ad.add (i.toNat * 4)).off + 3, none⟩ = some (.slice A3 (rd_T44 xs i).f3.length c3) ∧ (rd_T44 xs i).f3.length ≤ c3 ∧ (Kd.int .u64).C w A3 (rd_T44 xs i).f3.length (rd_T44 xs i).f3 := by
  obtain ⟨ad, c, e, _, hK, hc0⟩ := Kd.C_get h z44 i h0 h1
  have hc : ∀ j u, c[j]? = some u → w.cell? (ad.add (i.toNat * 4 + j)) = some u := hc0
  obtain ⟨A3, c3, rfl, l3, g3⟩ := k44_open hK
  exact ⟨ad, A3, c3, e, hc 0 _ rfl, by rw [← add_field _ _ 1 (by omega)]; exact hc 1 _ rfl, by rw [← add_field _ _ 2 (by omega)]; exact hc 2 _ rfl, by rw [← add_field _ _ 3 (by omega)]; exact hc 3 _ rfl, l3, g3⟩
end Go.Proofs.Ytfcahachdpjfoaa.L
end
