/- Texts joined by a program of mine: Op Pm Pr L0. -/
import Derived.Deep.Slices
import Derived.SizedLaws
import Derived.Test.YtfigjpehecibeaaGreatProg
import Derived.Laws.CopyOwn
import Derived.Deep.RegionLaw
import Derived.Below
import Derived.Deep.Draws
import Derived.Deep.AppendLies
import Derived.Maps.AppendAt
import Derived.OwnWalk
import Derived.Laws.BytesArg
import Derived.Laws.MakeOwn
import Derived.Laws.OwnMore
import Derived.Deep.OwnRows
import Derived.Tactics
import Derived.Lib.ConvBytes
import Derived.Laws.Slices
import Derived.WalkKit
import Derived.KernelRfl
import Derived.RowKit3
import Derived.Deep.LoopGhost
import Derived.Deep.QuietTactic
import Derived.BigQuiet
import Derived.WideLaws
import Derived.Deep.DeepCutAuto
import Derived.Deep.CutBlock
import Derived.Deep.RegionHeld3
import Derived.Laws.Rows
import Derived.Lib.AppendStr
import Derived.ArgAppend
import Derived.Laws.IdiomCopy
import Derived.OrdersHeld
import Derived.Laws.BitsLemmas
import Derived.RowKit
import Derived.Laws.StructEq
import Derived.Test.YtfigjpehecibeaaGreatZd0
import Derived.Test.YtfigjpehecibeaaGreatZd1
section
set_option linter.unusedVariables false
set_option linter.unusedSimpArgs false
namespace Go.Proofs.YtfigjpehecibeaaGreat.Op
open Go.RowKit Go.ChangeShapes Go.WideShapes Go.Deep Go.Proofs.YtfigjpehecibeaaGreatW.PrintWords
structure Bulk {H : Type} (B : DataW H → Nat) : Prop where
  str : ∀ l, l.length + 1 ≤ B (.lit (.string l))
  one : ∀ d, 1 ≤ B d
  slice : ∀ es ss, (es.map B).sum + 1 ≤ B (.slice es ss)
  agg : ∀ ps, (ps.map B).sum + 1 ≤ B (.agg ps)
def Opens {H : Type} (enc : TypeId × Value → H) (P : Program) (w : World) (B : DataW H → Nat) {α : Type} (fuel : Nat) (t : TypeId) (k : Kd α) (good : α → Prop) (bulk : α → Nat) : Prop :=
  ∀ cs x, DataW.trod enc P w 0 (fun _ => true) true fuel t cs = some x → (x.1.weights P t).all (· ≤ reachBytes) = true → ∃ v, k.K w v cs ∧ good v ∧ bulk v ≤ B x.1
section
variable {H : Type} {enc : TypeId × Value → H} {P : Program} {w : World} {B : DataW H → Nat} {fuel : Nat} {t e : TypeId}
theorem opens_int (hB : Bulk B) {k : IntKind} (ht : P.underlying t = some (.int k)) : Opens enc P w B fuel t (Kd.int k) (fun n => (Lit.int k n).wf = true) (fun _ => 1) := by
  intro cs x h _
  obtain ⟨n, rfl, rfl, hw⟩ := DataW.trod_int ht h
  exact ⟨n, rfl, hw, hB.one _⟩
theorem opens_string (hB : Bulk B) (ht : P.underlying t = some .string) : Opens enc P w B fuel t Kd.string (fun s => s.size ≤ 140737488351232) (fun s => s.size + 1) := by
  intro cs x h hs
  obtain ⟨s, rfl, rfl, _⟩ := DataW.trod_string ht h
  refine ⟨s, rfl, ?_, ?_⟩
  · have z := of_decide_eq_true (List.all_eq_true.1 hs s.data.toList.length (by simp [DataW.weights]))
    simpa [reachBytes] using z
  · have := hB.str s.data.toList
    simpa using this
theorem all_weights {ds : List (DataW H)} (h : (DataW.weightsAll P e ds).all (· ≤ reachBytes) = true) {d : DataW H} (hd : d ∈ ds) : (d.weights P e).all (· ≤ reachBytes) = true := by
  induction ds with
  | nil => cases hd
  | cons a r ih =>
    rw [DataW.weightsAll, List.all_append, Bool.and_eq_true] at h
    rcases List.mem_cons.1 hd with rfl | hd
    · exact h.1
    · exact ih h.2 hd
theorem list_of {α β : Type} (ds : List β) (p : Nat → β → α → Prop) (b : α → Nat) (B : β → Nat) (h : ∀ i d, ds[i]? = some d → ∃ v, p i d v ∧ b v ≤ B d) :
    ∃ vs : List α, vs.length = ds.length ∧ (∀ i d v, ds[i]? = some d → vs[i]? = some v → p i d v) ∧ (vs.map b).sum ≤ (ds.map B).sum := by
  induction ds generalizing p with
  | nil => exact ⟨[], rfl, fun i d v h => by simp at h, by simp⟩
  | cons d r ih =>
    obtain ⟨v, hv, hb⟩ := h 0 d rfl
    obtain ⟨vs, h1, h2, h3⟩ := ih (fun i => p (i + 1)) (fun i d hd => h (i + 1) d (by simpa using hd))
    refine ⟨v :: vs, by simp [h1], fun i d' v' hd hv' => ?_, by simp; omega⟩
    cases i with
    | zero => simp at hd hv'; subst hd; subst hv'; exact hv
    | succ i => exact h2 i d' v' (by simpa using hd) (by simpa using hv')
theorem opens_slice (hB : Bulk B) {α : Type} {k : Kd α} {good : α → Prop} {bulk : α → Nat} {n bytes : Nat} (ht : P.underlying t = some (.slice e)) (hc : P.cellsOf e = k.sz) (hy : P.bytesOf e = bytes) (hpos : 0 < bytes)
    (he : ∀ m, m < fuel → Opens enc P w B m e k good bulk) :
    Opens enc P w B fuel t (Kd.slice n k) (fun xs => xs.length * bytes ≤ 140737488351232 ∧ ∀ x ∈ xs, good x) (fun xs => (xs.map bulk).sum + 1) := by
  intro cs x h hs
  rcases DataW.trod_slice ht h with ⟨rfl, rfl⟩ | ⟨a, len, cap, elems, rest, m, rfl, rfl, rfl, hb, hl, hm, hlen, hel, _, _⟩
  · exact ⟨[], ⟨none, 0, rfl, Nat.le_refl _, Kd.C_nil _ _⟩, ⟨by simp, fun x hx => by cases hx⟩, hB.one _⟩
  · have hw : ((elems.map (·.1)).length + (rest.map (·.1)).length) * P.bytesOf e ≤ reachBytes ∧ (DataW.weightsAll P e (elems.map (·.1))).all (· ≤ reachBytes) = true := by
      simp only [DataW.weights, ht] at hs
      rw [List.all_cons, Bool.and_eq_true, List.all_append, Bool.and_eq_true] at hs
      exact ⟨of_decide_eq_true hs.1, hs.2.1⟩
    obtain ⟨vs, h1, h2, h3⟩ := list_of elems (fun i d v => ∃ cs', w.cells? 0 (a.add (i * P.cellsOf e)) (P.cellsOf e) = some cs' ∧ k.K w v cs' ∧ good v) bulk (fun d => B d.1) (by
      intro i d hd
      have hi : i < len := by rw [← hlen]; exact (List.getElem?_eq_some_iff.1 hd).1
      have hx := hel i hi
      rw [hd] at hx
      obtain ⟨cs', g1, g2⟩ := Option.bind_eq_some_iff.1 hx
      obtain ⟨v, g3, g4, g5⟩ := he m (Nat.lt_succ_self m) cs' d g2 (all_weights hw.2 (List.mem_map.2 ⟨d, List.mem_of_getElem? hd, rfl⟩))
      exact ⟨v, ⟨cs', g1, g3, g4⟩, g5⟩)
    have hvl : vs.length = len := by rw [h1, hlen]
    have hsz : len * bytes ≤ 140737488351232 := by
      have z := hw.1
      rw [hy, List.length_map, hlen] at z
      refine Nat.le_trans (Nat.mul_le_mul_right _ (Nat.le_add_right _ _)) (Nat.le_trans z ?_)
      simp [reachBytes]
    refine ⟨vs, ⟨some a, cap, by rw [hvl], by rw [hvl]; exact hl, rfl, ?_, fun _ => ⟨a, rfl, ?_⟩⟩, ⟨by rw [hvl]; exact hsz, ?_⟩, ?_⟩
    · rw [hvl]
      have : len ≤ len * bytes := Nat.le_mul_of_pos_right _ hpos
      omega
    · intro j p hp
      have hj : j < vs.length := (List.getElem?_eq_some_iff.1 hp).1
      obtain ⟨cs', g1, g2, _⟩ := h2 j _ p (List.getElem?_eq_getElem (by rw [← h1]; exact hj)) hp
      obtain ⟨_, g4, g5⟩ := World.cells?_some g1
      rw [hc] at g4 g5
      refine ⟨cs', g4, g2, fun i u hu => ?_⟩
      have hi : i < cs'.length := (List.getElem?_eq_some_iff.1 hu).1
      have g6 := g5 i (by omega)
      rw [Go.Deep.add_add] at g6
      rw [g6, hu]
    · intro x hx
      obtain ⟨j, hj, rfl⟩ := List.getElem_of_mem hx
      obtain ⟨_, _, _, g⟩ := h2 j _ _ (List.getElem?_eq_getElem (by rw [← h1]; exact hj)) (List.getElem?_eq_getElem hj)
      exact g
    · have z := hB.slice (elems.map (·.1)) (rest.map (·.1))
      have e2 : (elems.map fun d => B d.1).sum = ((elems.map (·.1)).map B).sum := by rw [List.map_map]; rfl
      show (vs.map bulk).sum + 1 ≤ B (.slice (elems.map (·.1)) (rest.map (·.1)))
      omega
def OpensF {H : Type} (enc : TypeId × Value → H) (P : Program) (w : World) (B : DataW H → Nat) {β : Type} (n total o : Nat) (fs : List (TypeId × Nat)) (k : Kd β) (good : β → Prop) (bulk : β → Nat) : Prop :=
  ∀ (cs : List Value) (xs : List (DataW H × List MemPlace)), cs.length = total → xs.length = fs.length → (∀ (i : Nat) (f : TypeId × Nat), fs[i]? = some f → DataW.trod enc P w 0 (fun _ => true) true n f.1 ((cs.drop f.2).take (P.cellsOf f.1)) = xs[i]?) →
    (DataW.weightsEach P (fs.map (·.1)) (xs.map (·.1))).all (· ≤ reachBytes) = true → ∃ v, k.K w v (cs.drop o) ∧ good v ∧ bulk v ≤ (xs.map fun d => B d.1).sum
theorem opensF_last {α : Type} {k : Kd α} {good : α → Prop} {bulk : α → Nat} {n total o : Nat} {f : TypeId} (hf : Opens enc P w B n f k good bulk) (ho : total ≤ o + P.cellsOf f) : OpensF enc P w B n total o [(f, o)] k good bulk := by
  intro cs xs hl hx ht hw
  match xs, hx with
  | [x], _ =>
    have h0 := ht 0 (f, o) rfl
    simp only [List.getElem?_cons_zero] at h0
    rw [List.take_of_length_le (by rw [List.length_drop]; omega)] at h0
    simp only [List.map_cons, List.map_nil, DataW.weightsEach, List.append_nil] at hw
    obtain ⟨v, g1, g2, g3⟩ := hf _ _ h0 hw
    exact ⟨v, g1, g2, by simpa using g3⟩
theorem opensF_cons {α β : Type} {k : Kd α} {k2 : Kd β} {good : α → Prop} {bulk : α → Nat} {good2 : β → Prop} {bulk2 : β → Nat} {n total o o2 : Nat} {f : TypeId} {fs : List (TypeId × Nat)} (hf : Opens enc P w B n f k good bulk) (ho : o + P.cellsOf f = o2)
    (h2 : OpensF enc P w B n total o2 fs k2 good2 bulk2) : OpensF enc P w B n total o ((f, o) :: fs) (Kd.pair k k2) (fun v => good v.1 ∧ good2 v.2) (fun v => bulk v.1 + bulk2 v.2) := by
  intro cs xs hl hx ht hw
  match xs, hx with
  | x :: xs, hx =>
    have h0 := ht 0 (f, o) rfl
    simp only [List.getElem?_cons_zero] at h0
    simp only [List.map_cons, DataW.weightsEach, List.all_append, Bool.and_eq_true] at hw
    obtain ⟨v, g1, g2, g3⟩ := hf _ _ h0 hw.1
    obtain ⟨v2, g4, g5, g6⟩ := h2 cs xs hl (by simpa using hx) (fun i f' hf' => by simpa using ht (i + 1) f' (by simpa using hf')) hw.2
    refine ⟨(v, v2), ⟨_, _, ?_, g1, g4⟩, ⟨g2, g5⟩, by simp; omega⟩
    rw [← ho, ← List.drop_drop, List.take_append_drop]
theorem opens_struct (hB : Bulk B) {β : Type} {fa : Array Field} {fs : List (TypeId × Nat)} {k : Kd β} {good : β → Prop} {bulk : β → Nat} (ht : P.underlying t = some (.struct fa)) (hfs : fa.toList.map (fun f => (f.type, f.offset)) = fs)
    (h : ∀ n, n < fuel → OpensF enc P w B n (P.cellsOf t) 0 fs k good bulk) : Opens enc P w B fuel t k good (fun v => bulk v + 1) := by
  intro cs x hx hw
  obtain ⟨xs, n, rfl, rfl, hl, hxl, hf⟩ := DataW.trod_struct ht hx
  simp only [DataW.weights, ht] at hw
  have hmt : fa.toList.map (·.type) = fs.map (·.1) := by rw [← hfs, List.map_map]; rfl
  rw [hmt] at hw
  obtain ⟨v, g1, g2, g3⟩ := h n (Nat.lt_succ_self n) cs xs hl (by rw [hxl, ← hfs]; simp) (fun i f hif => by
    rw [← hfs, List.getElem?_map] at hif
    obtain ⟨f0, hf0, rfl⟩ := Option.map_eq_some_iff.1 hif
    exact hf i f0 (by simpa using hf0)) hw
  refine ⟨v, by simpa using g1, g2, ?_⟩
  have z := hB.agg (xs.map (·.1))
  have e2 : (xs.map fun d => B d.1).sum = ((xs.map (·.1)).map B).sum := by rw [List.map_map]; rfl
  show bulk v + 1 ≤ B (.agg (xs.map (·.1)))
  omega
theorem opens_iso {α β : Type} {k : Kd α} {good : α → Prop} {bulk : α → Nat} {f : β → α} (g : α → β) (hg : ∀ a, f (g a) = a) (h : Opens enc P w B fuel t k good bulk) : Opens enc P w B fuel t (Kd.iso k f) (fun b => good (f b)) (fun b => bulk (f b)) := by
  intro cs x hx hw
  obtain ⟨v, g1, g2, g3⟩ := h cs x hx hw
  exact ⟨g v, by show k.K w (f (g v)) cs; rw [hg]; exact g1, by show good (f (g v)); rw [hg]; exact g2, by show bulk (f (g v)) ≤ _; rw [hg]; exact g3⟩
theorem opens_weaken {α : Type} {k : Kd α} {good good2 : α → Prop} {bulk bulk2 : α → Nat} (h : Opens enc P w B fuel t k good bulk) (hg : ∀ a, good a → good2 a) (hb : ∀ a, bulk2 a ≤ bulk a) : Opens enc P w B fuel t k good2 bulk2 := by
  intro cs x hx hw
  obtain ⟨v, g1, g2, g3⟩ := h cs x hx hw
  exact ⟨v, g1, hg v g2, Nat.le_trans (hb v) g3⟩
theorem opens_kd {α : Type} {k k2 : Kd α} {good : α → Prop} {bulk : α → Nat} (h : Opens enc P w B fuel t k good bulk) (hk : ∀ a cs, k.K w a cs → k2.K w a cs) : Opens enc P w B fuel t k2 good bulk := by
  intro cs x hx hw
  obtain ⟨v, g1, g2, g3⟩ := h cs x hx hw
  exact ⟨v, hk v cs g1, g2, g3⟩
theorem weights_at {ts : List TypeId} {ds : List (DataW H)} {j : Nat} {d : DataW H} (h : (DataW.weightsEach P ts ds).all (· ≤ reachBytes) = true) (ht : ts[j]? = some t) (hd : ds[j]? = some d) : (d.weights P t).all (· ≤ reachBytes) = true :=
  List.all_eq_true.2 fun n hn => List.all_eq_true.1 h n (DataW.weights_mem_each ht hd n hn)
end
end Go.Proofs.YtfigjpehecibeaaGreat.Op
end
section
namespace Go.Proofs.YtfigjpehecibeaaGreat.L
open Go.RowKit Go.Proofs.YtfigjpehecibeaaGreatW.PrintWords Go.Proofs.YtfigjpehecibeaaGreatW.PrintLast Go.Proofs.YtfigjpehecibeaaGreatW.PrintMore
attribute [local go_sem] max2_int min2_int max_two min_two max_three min_three max_four min_four
set_option linter.unusedVariables false
set_option linter.unusedSimpArgs false
def bits_Mul32.f (a0 : Int) (a1 : Int) : Option (Int × Int) := some (((IntKind.u64.wrap ((IntKind.u64.wrap (a0)) * (IntKind.u64.wrap (a1)))) / 4294967296) % 4294967296, (IntKind.u64.wrap ((IntKind.u64.wrap (a0)) * (IntKind.u64.wrap (a1)))) % 4294967296)
set_option maxHeartbeats 8000000 in
set_option maxRecDepth 100000 in
theorem bits_Mul32.calls (a0 : Int) (a1 : Int) (r1 : Int) (r2 : Int) (w : World) (h : bits_Mul32.f a0 a1 = some (r1, r2)) :
    Calls Tryz.prog 153 #[.int .u32 a0, .int .u32 a1] w fun e w' => e = .returned (.tuple #[.int .u32 r1, .int .u32 r2]) ∧ Drawn0 w w' := by
  have H : (some (((IntKind.u64.wrap ((IntKind.u64.wrap (a0)) * (IntKind.u64.wrap (a1)))) / 4294967296) % 4294967296, (IntKind.u64.wrap ((IntKind.u64.wrap (a0)) * (IntKind.u64.wrap (a1)))) % 4294967296)) = some (r1, r2) := h
  clear h
  simp only [Option.some.injEq, Prod.mk.injEq] at H
  obtain ⟨rfl, rfl⟩ := H
  go_enter Tryz.func153, Tryz.ntmps153
  go_wp2
  go_ret2
  exact ⟨by first | rfl | (simp; done) | (simp [*]; done), by repeat (first | exact Drawn0.refl _ | apply Drawn0.step)⟩
def bits_Mul64.f (a0 : Int) (a1 : Int) : Option (Int × Int) := some (IntKind.u64.wrap ((IntKind.u64.wrap ((IntKind.u64.wrap ((a0 / 4294967296) * (a1 / 4294967296))) + ((IntKind.u64.wrap ((IntKind.u64.wrap ((a0 / 4294967296) * (Go.bits .and .u64 a1 4294967295))) + ((IntKind.u64.wrap ((Go.bits .and .u64 a0 4294967295) * (Go.bits .and .u64 a1 4294967295))) / 4294967296))) / 4294967296))) + ((IntKind.u64.wrap ((Go.bits .and .u64 (IntKind.u64.wrap ((IntKind.u64.wrap ((a0 / 4294967296) * (Go.bits .and .u64 a1 4294967295))) + ((IntKind.u64.wrap ((Go.bits .and .u64 a0 4294967295) * (Go.bits .and .u64 a1 4294967295))) / 4294967296))) 4294967295) + (IntKind.u64.wrap ((Go.bits .and .u64 a0 4294967295) * (a1 / 4294967296))))) / 4294967296)), IntKind.u64.wrap (a0 * a1))
set_option maxHeartbeats 8000000 in
set_option maxRecDepth 100000 in
theorem bits_Mul64.calls (a0 : Int) (a1 : Int) (r1 : Int) (r2 : Int) (w : World) (h : bits_Mul64.f a0 a1 = some (r1, r2)) :
    Calls Tryz.prog 154 #[.int .u64 a0, .int .u64 a1] w fun e w' => e = .returned (.tuple #[.int .u64 r1, .int .u64 r2]) ∧ Drawn0 w w' := by
  have H : (some (IntKind.u64.wrap ((IntKind.u64.wrap ((IntKind.u64.wrap ((a0 / 4294967296) * (a1 / 4294967296))) + ((IntKind.u64.wrap ((IntKind.u64.wrap ((a0 / 4294967296) * (Go.bits .and .u64 a1 4294967295))) + ((IntKind.u64.wrap ((Go.bits .and .u64 a0 4294967295) * (Go.bits .and .u64 a1 4294967295))) / 4294967296))) / 4294967296))) + ((IntKind.u64.wrap ((Go.bits .and .u64 (IntKind.u64.wrap ((IntKind.u64.wrap ((a0 / 4294967296) * (Go.bits .and .u64 a1 4294967295))) + ((IntKind.u64.wrap ((Go.bits .and .u64 a0 4294967295) * (Go.bits .and .u64 a1 4294967295))) / 4294967296))) 4294967295) + (IntKind.u64.wrap ((Go.bits .and .u64 a0 4294967295) * (a1 / 4294967296))))) / 4294967296)), IntKind.u64.wrap (a0 * a1))) = some (r1, r2) := h
  clear h
  simp only [Option.some.injEq, Prod.mk.injEq] at H
  obtain ⟨rfl, rfl⟩ := H
  go_enter Tryz.func154, Tryz.ntmps154
  go_wp2
  go_ret2
  exact ⟨by first | rfl | (simp; done) | (simp [*]; done), by repeat (first | exact Drawn0.refl _ | apply Drawn0.step)⟩
def bits_Mul.f (a0 : Int) (a1 : Int) : Option (Int × Int) := (bits_Mul64.f a0 a1).bind fun bt131 => (some (bt131.1, bt131.2))
set_option maxHeartbeats 8000000 in
set_option maxRecDepth 100000 in
theorem bits_Mul.calls (a0 : Int) (a1 : Int) (r1 : Int) (r2 : Int) (w : World) (h : bits_Mul.f a0 a1 = some (r1, r2)) :
    Calls Tryz.prog 113 #[.int .u64 a0, .int .u64 a1] w fun e w' => e = .returned (.tuple #[.int .u64 r1, .int .u64 r2]) ∧ Drawn0 w w' := by
  have H : ((bits_Mul64.f a0 a1).bind fun bt131 => (some (bt131.1, bt131.2))) = some (r1, r2) := h
  clear h
  replace H := Option.bind_eq_some_iff.mp H
  obtain ⟨⟨t131, t132⟩, A30, H⟩ := H
  replace H : (some (t131, t132)) = some (r1, r2) := H
  have A3 := Aside0.mk A30
  clear A30
  simp only [Option.some.injEq, Prod.mk.injEq] at H
  obtain ⟨rfl, rfl⟩ := H
  go_enter Tryz.func113, Tryz.ntmps113
  go_wp2_with (first | ((with_reducible refine gate_callee (f := 154) rfl ?_); refine goesL_ (some 25) rfl rfl Tryz.func154 (by kernel_rfl) rfl #[.int .u64 a0, .int .u64 a1] rfl (by (try simp only [List.map_toArray, List.map_cons, List.map_nil]); first | done | rfl | (simp only [List.length_drop, List.length_take]; rfl)) ?_; (with_reducible refine (bits_Mul64.calls a0 a1 t131 t132 _ A3.out).mono ?_); rintro e w' ⟨rfl, ⟨nd, rfl⟩⟩; refine ⟨_, rfl, ?_⟩))
  go_ret2
  exact ⟨by first | rfl | (simp; done) | (simp [*]; done), by repeat (first | exact Drawn0.refl _ | apply Drawn0.step)⟩
end Go.Proofs.YtfigjpehecibeaaGreat.L
end
section
namespace Go.Proofs.YtfigjpehecibeaaGreat.L
open Go.RowKit Go.Proofs.YtfigjpehecibeaaGreatW.PrintWords Go.Proofs.YtfigjpehecibeaaGreatW.PrintLast Go.Proofs.YtfigjpehecibeaaGreatW.PrintMore
set_option linter.unusedVariables false
set_option linter.unusedSimpArgs false
theorem mul_one (n : Nat) (h : n ≤ 256) : bits_Mul.f 1 (n : Int) = some (0, (n : Int)) := by
  have key : ∀ i : Fin 257, bits_Mul.f 1 ((i.val : Nat) : Int) = some (0, ((i.val : Nat) : Int)) := by decide +kernel
  exact key ⟨n, by omega⟩
theorem splice_take {α : Type} {L cs : List α} {k n : Nat} (h : k + cs.length ≤ n) (hn : n ≤ L.length) : (splice L k cs).take n = splice (L.take n) k cs := by
  apply List.ext_getElem?
  intro i
  unfold splice
  simp only [List.getElem?_take, List.getElem?_append, List.length_take, List.getElem?_drop]
  repeat' split
  all_goals first | rfl | omega | (congr 1; omega) | (exfalso; omega) | (rw [List.getElem?_eq_none (by omega)])
theorem rep_copy (b : Bool) {n k : Nat} (h1 : 1 ≤ k) (h2 : k < n) : splice (List.replicate k (Value.bool b) ++ List.replicate (n - k) (Value.bool false)) k (List.replicate (min k (n - k)) (Value.bool b)) = List.replicate (k + min k (n - k)) (Value.bool b) ++ List.replicate (n - (k + min k (n - k))) (Value.bool false) := by
  unfold splice
  rw [List.take_append_of_le_length (by simp), List.take_of_length_le (by simp), List.length_replicate, List.drop_append, List.drop_eq_nil_of_le (by simp), List.nil_append, ← List.append_assoc, List.replicate_append_replicate]
  congr 1
  rw [List.drop_replicate, List.length_replicate]
  congr 1
  omega
set_option maxHeartbeats 2000000 in
set_option maxRecDepth 100000 in
theorem repeat_calls (b : Bool) (n : Nat) (h1 : 1 ≤ n) (h2 : n ≤ 256) (A : Option Addr) (c : Nat) (w : World) (hr : Kd.C Kd.bool w A 1 [b]) (hc : 1 ≤ c) :
    Calls Tryz.prog 62 #[.slice A 1 c, .int .i64 (n : Int)] w fun e w' => ∃ v, e = .returned v ∧ Kd.R Kd.bool 4 w' w.heap.size (fun _ => True) v (List.replicate n b) ∧ Below w.heap.size w w' := by
  have HR := Aside0.mk (And.intro hr hc)
  clear hr hc
  have n0 : ¬ (n : Int) < 0 := by omega
  have e1 : IntKind.u64.wrap (n : Int) = (n : Int) := by unfold IntKind.wrap; simp [IntKind.signed, IntKind.bits]; omega
  have HM := Aside0.mk (mul_one n h2)
  have HN := Aside0.mk (And.intro h1 h2)
  go_enter Tryz.func62, Tryz.ntmps62
  go_upto_region 7 with (first
    | (go_at_call 113; refine (bits_Mul.calls 1 (n : Int) 0 (n : Int) _ HM.out).mono ?_; rintro e w1 ⟨rfl, hd⟩; have HD := Aside0.mk hd; clear hd)
    | (refine Kd.R_make Kd.bool (w0 := w) w.heap.size 4 rfl rfl 30 (.tmp 29) (.tmp 29) rfl (n : Int) rfl rfl Tryz.underlying30 (.bool false) 1 rfl rfl (by decide) (by decide) false (ok := fun _ => True) (okp := fun _ => True) rfl (fun _ h => h) trivial (by omega) (by omega) HD.out.below HD.out.below.size ?_; intro v1 w2 hr2 hb2 hg2 hat2; have R2 := Aside0.mk (And.intro hr2 hb2); clear hr2 hb2 hg2 hat2))
  have R3 := R2.out
  rw [Int.toNat_natCast] at R3
  obtain ⟨Av, cv, ev⟩ := Kd.R_slice R3.1
  rw [List.length_replicate] at ev
  subst ev
  go_wp2_with ((with_reducible refine gate_builtin (b := .copy) (xs := #[.tmp 31, .tmp 32]) rfl ?_); refine Kd.R_copy (enc := Value.bool) (h1 := fun _ => rfl) false (w0 := w) w.heap.size (by rfl) (.tmp 31) (.tmp 32) 30 30 4 (by rfl) Tryz.underlying30 (by rfl) (.slice Av n cv) (List.replicate n false) [b] A 1 c (fun _ => True) (by rfl) (by rfl) R3.1 (Kd.C_below HR.out.1 R3.2) R3.2 R3.2.size ?_; intro w4 hr4 hb4 hg4)
  rw [List.length_replicate] at hr4
  have q1 : min 1 n = 1 := by omega
  rw [q1] at hr4
  have R4 := Aside0.mk (And.intro hr4 hb4)
  clear hr4 hb4 hg4 R3
  go_loopw [8] (fun i W => ∃ k : Nat, i = .int .i64 k ∧ 1 ≤ k ∧ k ≤ n ∧ Aside0 (Kd.R Kd.bool 4 W w.heap.size (fun _ => True) (.slice Av n cv) (List.replicate k b ++ List.replicate (n - k) false) ∧ Below w.heap.size w W)) (fun i _ => n - (intOf i).toNat)
  case atStart => exact ⟨1, rfl, Nat.le_refl _, HN.out.1, ⟨by have h := R4.out.1; simp at h ⊢; exact h, R4.out.2⟩⟩
  case round =>
    obtain ⟨k, rfl, hk1, hk2, HK⟩ := hrel
    by_cases hlt : k < n
    · obtain ⟨g, cur, e1, hbg, hcur, hnc, hcm, hcs, htk⟩ : ∃ (g : Nat) (cur : Array Value), Av = some ⟨g, 0, none⟩ ∧ w.heap.size ≤ g ∧ wr.heap[g]? = some (.cells cur 4 (0, 0)) ∧ n ≤ cv ∧ cv ≤ maxLen ∧ cur.size = cv * 1 ∧ cur.toList.take n = encs Value.bool (List.replicate k b ++ List.replicate (n - k) false) := by
        have ho := Kd.own_of_R (enc := Value.bool) (h1 := fun _ => rfl) HK.out.1
        have hlen : (List.replicate k b ++ List.replicate (n - k) false).length = n := by simp; omega
        rw [hlen] at ho
        rcases ho.2 with ⟨h, _⟩ | ⟨g, cap, cur, h, h3, h4, h5, h6, h7, h8⟩
        · injection h with _ h _; omega
        · injection h with ha hb hc
          subst ha hc
          exact ⟨g, cur, rfl, h3, h4, h5, h6, h7, by rw [Nat.mul_one] at h8; exact h8⟩
      subst e1
      have hl1 : (k : Int) < (n : Int) := by omega
      have hl2 : (0 : Int) ≤ (k : Int) := by omega
      have hl3 : (k : Int) ≤ (n : Int) := by omega
      have hl4 : (k : Int) ≤ (cv : Int) := by omega
      have HC := Aside0.mk (And.intro hcur (And.intro hnc (And.intro hcm (And.intro hcs htk))))
      clear hcur hcm hcs htk
      have hne : ¬ cv = k := by omega
      have F1 := Aside0.mk (show wr.drew.heap[g]? = some (.cells cur.toList.toArray 4 (0, 0)) from by rw [Array.toArray_toList]; exact HC.out.1)
      have F2 := Aside0.mk (show ∀ (j : Nat) (v : Value), (List.replicate (min k (n - k)) (Value.bool b))[j]? = some v → wr.drew.cell? ((⟨g, 0, none⟩ : Addr).add j) = some v from by
        intro j v hj
        have hjl : j < min k (n - k) := by
          rcases Nat.lt_or_ge j (min k (n - k)) with h | h
          · exact h
          · rw [List.getElem?_eq_none (by simpa using h)] at hj; cases hj
        rw [List.getElem?_replicate, if_pos hjl] at hj
        have hcell : wr.drew.cell? ⟨g, 0 + j, none⟩ = cur[j]? := by
          rw [cell_of_row wr.drew g _ cur 4 (0, 0) HC.out.1, Nat.zero_add]
        have hj2 : (cur.toList.take n)[j]? = some (Value.bool b) := by
          rw [HC.out.2.2.2.2]
          unfold encs
          rw [List.getElem?_map, List.getElem?_append_left (by simp; omega), List.getElem?_replicate, if_pos (by omega)]
          rfl
        rw [List.getElem?_take, if_pos (by omega)] at hj2
        rw [Addr.add_lit, hcell, ← hj, ← Array.getElem?_toList]
        exact hj2)
      have F3 := Aside0.mk (show (List.replicate (min k (n - k)) (Value.bool b)).length = Nat.min k (n - k) from by simp)
      have F4 := Aside0.mk (show k + (List.replicate (min k (n - k)) (Value.bool b)).length ≤ cur.toList.length from by simp [HC.out.2.2.2.1]; omega)
      have F5 := Aside0.mk (show ∀ v ∈ List.replicate (min k (n - k)) (Value.bool b), v.oneCell' = true from fun v hv => by rw [(List.mem_replicate.1 hv).2]; rfl)
      have F6 := Aside0.mk (show Below w.heap.size w wr.drew from HK.out.2.drew)
      go_wp2_with fail
      go_region_law (refine step_copy_splice (by rfl) (.tmp 41) (.tmp 44) 30 30 (by rfl) 4 Tryz.underlying30 (by rfl) (some ⟨g, k, none⟩) (some ⟨g, 0, none⟩) (n - k) (cv - k) k cv (by simp [Act.eval, Act.put, hne]) (by simp [Act.eval, Act.put]) g k cur.toList 4 F1.out (List.replicate (min k (n - k)) (Value.bool b)) F3.out (fun _ => ⟨rfl, _, rfl, F2.out⟩) F4.out F5.out w.heap.size w F6.out hbg ?_; intro w5 h5 hb5)
      simp only [Act.put, List.setIfInBounds_toArray, List.set_cons_zero, List.set_cons_succ, List.getElem_toArray, List.getElem_cons_succ, List.getElem_cons_zero]
      go_wp2_with fail
      have hw : IntKind.i64.wrap ((k : Int) + ((min k (n - k) : Nat) : Int)) = ((k + min k (n - k) : Nat) : Int) := by rw [IntKind.wrap_i64]; have := HN.out.2; omega
      have hln : (List.replicate (k + min k (n - k)) b ++ List.replicate (n - (k + min k (n - k))) false).length = n := by simp; omega
      refine ⟨⟨k + min k (n - k), by rw [hw], by omega, by omega, ⟨Kd.R_of_own (enc := Value.bool) (h1 := fun _ => rfl) ?_ (fun _ _ => trivial), hb5⟩⟩, by rw [hw]; simp [intOf]; omega⟩
      rw [hln]
      refine ⟨by unfold encs; rw [List.length_map, hln, Nat.mul_one], .inr ⟨g, cv, _, rfl, hbg, h5, HC.out.2.1, HC.out.2.2.1, ?_, ?_⟩⟩
      · rw [List.size_toArray, length_splice _ _ _ F4.out, Array.length_toList]; exact HC.out.2.2.2.1
      · have hs : (splice cur.toList k (List.replicate (min k (n - k)) (Value.bool b))).take n = splice (cur.toList.take n) k (List.replicate (min k (n - k)) (Value.bool b)) := by
          exact splice_take (by simp; omega) (by rw [Array.length_toList, HC.out.2.2.2.1, Nat.mul_one]; exact HC.out.2.1)
        rw [Nat.mul_one, List.toList_toArray, hs, HC.out.2.2.2.2]
        have he : encs Value.bool (List.replicate k b ++ List.replicate (n - k) false) = List.replicate k (Value.bool b) ++ List.replicate (n - k) (Value.bool false) := by unfold encs; rw [List.map_append, List.map_replicate, List.map_replicate]
        rw [he, rep_copy b hk1 hlt]
        unfold encs
        rw [List.map_append, List.map_replicate, List.map_replicate]
    · have hkn : k = n := by omega
      have hl1 : ¬ (k : Int) < (n : Int) := by omega
      have HE := Aside0.mk (show Kd.R Kd.bool 4 wr w.heap.size (fun _ => True) (.slice Av n cv) (List.replicate n b) from by have h := HK.out.1; rw [hkn, Nat.sub_self] at h; simpa using h)
      go_wp2_with fail
      go_ret
      exact ⟨_, rfl, HE.out, HK.out.2⟩
end Go.Proofs.YtfigjpehecibeaaGreat.L
end
section
namespace Go.Proofs.YtfigjpehecibeaaGreat.L
open Go.RowKit Go.Proofs.YtfigjpehecibeaaGreatW.PrintWords Go.Proofs.YtfigjpehecibeaaGreatW.PrintLast Go.Proofs.YtfigjpehecibeaaGreatW.PrintMore
attribute [local go_sem] max2_int min2_int max_two min_two max_three min_three max_four min_four   
set_option linter.unusedVariables false
set_option linter.unusedSimpArgs false
def errW : Option Int → Value
  | none => .nilIface
  | some c => .iface 0 (.int .i64 c)
theorem errW_none : errW none = .nilIface := rfl
theorem errW_some (c : Int) : errW (some c) = .iface 0 (.int .i64 c) := rfl
theorem info9 : (Tryz.prog.info? 9).map (fun i => (i.zero, i.size, i.bytes)) = some (some (.string ⟨#[]⟩), 1, 16) := by kernel_rfl
structure S116 where
  f0 : Int
  f1 : Int
  f2 : ByteArray
  f3 : (List S116)
def z116 : S116 := ⟨(0 : Int), (0 : Int), (⟨#[]⟩ : ByteArray), ([] : List S116)⟩
def F75 (d : Kd S116) : Kd S116 := Kd.iso (Kd.pair (Kd.int .i64) (Kd.pair (Kd.int .u64) (Kd.pair Kd.string (Kd.slice 116 d)))) (fun x : S116 => (x.f0, x.f1, x.f2, x.f3))
theorem mono116 : Kd.Mono F75 := Kd.mono_iso _ (Kd.mono_pair (Kd.mono_const _) (Kd.mono_pair (Kd.mono_const _) (Kd.mono_pair (Kd.mono_const _) (Kd.mono_slice 116 Kd.mono_id))))
theorem sub116 : Kd.Sub F75 [116] := Kd.sub_iso _ (Kd.sub_pair (Kd.sub_const _ (by decide)) (Kd.sub_pair (Kd.sub_const _ (by decide)) (Kd.sub_pair (Kd.sub_const _ (by decide)) (Kd.sub_slice 116 (by decide) Kd.sub_id))))
theorem sz116 : ∀ n, (Kd.upto F75 4 [116] n).sz = 4 := Kd.upto_sz (fun _ => rfl)
def k116 : Kd S116 := Kd.fix F75 4 [116] sz116 (Kd.upto_E sub116)
theorem k116_open {w : World} {x : S116} {cs : List Value} (h : k116.K w x cs) : ∃ A3 c3, cs = [.int .i64 x.f0, .int .u64 x.f1, .string x.f2, .slice A3 x.f3.length c3] ∧ x.f3.length ≤ c3 ∧ k116.C w A3 x.f3.length x.f3 := by
  obtain ⟨n, h⟩ := h
  cases n with
  | zero => exact h.elim
  | succ n =>
    obtain ⟨_, _, rfl, rfl, ⟨_, _, rfl, rfl, ⟨_, _, rfl, rfl, ⟨A3, c3, rfl, l3, g3⟩⟩⟩⟩ := h
    exact ⟨A3, c3, rfl, l3, Kd.fix_C g3⟩
theorem k116_mk (w : World) (x : S116) {A3 : Option Addr} {c3 : Nat} (l3 : x.f3.length ≤ c3) (g3 : k116.C w A3 x.f3.length x.f3) : k116.K w x [.int .i64 x.f0, .int .u64 x.f1, .string x.f2, .slice A3 x.f3.length c3] := by
  obtain ⟨n3, q3⟩ := Kd.fix_C_back mono116 g3
  have r3 := Kd.upto_C_le mono116 sz116 (show n3 ≤ n3 by omega) q3
  exact ⟨n3 + 1, ⟨[.int .i64 x.f0], [.int .u64 x.f1, .string x.f2, .slice A3 x.f3.length c3], rfl, rfl, ⟨[.int .u64 x.f1], [.string x.f2, .slice A3 x.f3.length c3], rfl, rfl, ⟨[.string x.f2], [.slice A3 x.f3.length c3], rfl, rfl, ⟨A3, c3, rfl, l3, r3⟩⟩⟩⟩⟩
theorem k116_mkM (w : World) (base : Nat) (ok : Nat → Prop) (x : S116) {v3 : Value} (g3 : k116.R 116 w base ok v3 x.f3) : k116.M w base ok x [.int .i64 x.f0, .int .u64 x.f1, .string x.f2, v3] := by
  obtain ⟨n3, q3⟩ := Kd.fix_R_back mono116 g3
  have r3 := Kd.upto_R_le mono116 sz116 (show n3 ≤ n3 by omega) q3
  exact ⟨n3 + 1, ⟨[.int .i64 x.f0], [.int .u64 x.f1, .string x.f2, v3], rfl, rfl, ⟨[.int .u64 x.f1], [.string x.f2, v3], rfl, rfl, ⟨[.string x.f2], [v3], rfl, rfl, ⟨v3, rfl, r3⟩⟩⟩⟩⟩
def rd_T116 (xs : List S116) (i : Int) : S116 := xs.getD i.toNat z116
theorem at_T116 {w : World} {A : Option Addr} {n : Nat} {xs : List S116} (h : Kd.C k116 w A n xs) (i : Int) (h0 : 0 ≤ i) (h1 : i < n) : ∃ ad A3 c3, A = some ad ∧ w.cell? (ad.add (i.toNat * 4)) = some (.int .i64 (rd_T116 xs i).f0) ∧ w.cell? ⟨(ad.add (i.toNat * 4)).block, (ad.add (i.toNat * 4)).off + 1, none⟩ = some (.int .u64 (rd_T116 xs i).f1) ∧ w.cell? ⟨(ad.add (i.toNat * 4)).block, (ad.add (i.toNat * 4)).off + 2, none⟩ = some (.string (rd_T116 xs i).f2) ∧ w.cell? ⟨(ad.add (i.toNat * 4)).block, (ad.add (i.toNat * 4)).off + 3, none⟩ = some (.slice A3 (rd_T116 xs i).f3.length c3) ∧ (rd_T116 xs i).f3.length ≤ c3 ∧ k116.C w A3 (rd_T116 xs i).f3.length (rd_T116 xs i).f3 := by
  obtain ⟨ad, c, e, _, hK, hc0⟩ := Kd.C_get h z116 i h0 h1
  have hc : ∀ j u, c[j]? = some u → w.cell? (ad.add (i.toNat * 4 + j)) = some u := hc0
  obtain ⟨A3, c3, rfl, l3, g3⟩ := k116_open hK
  exact ⟨ad, A3, c3, e, hc 0 _ rfl, by rw [← add_field _ _ 1 (by omega)]; exact hc 1 _ rfl, by rw [← add_field _ _ 2 (by omega)]; exact hc 2 _ rfl, by rw [← add_field _ _ 3 (by omega)]; exact hc 3 _ rfl, l3, g3⟩
structure S119 where
  f0 : Int
  f1 : ByteArray
  f2 : S116
  f3 : S116
  f4 : Int
  f5 : Int
  f6 : (List S119)
  f7 : (List S119)
def z119 : S119 := ⟨(0 : Int), (⟨#[]⟩ : ByteArray), z116, z116, (0 : Int), (0 : Int), ([] : List S119), ([] : List S119)⟩
def F77 (d : Kd S119) : Kd S119 := Kd.iso (Kd.pair (Kd.int .i64) (Kd.pair Kd.string (Kd.pair k116 (Kd.pair k116 (Kd.pair (Kd.int .u64) (Kd.pair (Kd.int .u64) (Kd.pair (Kd.slice 119 d) (Kd.slice 119 d)))))))) (fun x : S119 => (x.f0, x.f1, x.f2, x.f3, x.f4, x.f5, x.f6, x.f7))
theorem mono119 : Kd.Mono F77 := Kd.mono_iso _ (Kd.mono_pair (Kd.mono_const _) (Kd.mono_pair (Kd.mono_const _) (Kd.mono_pair (Kd.mono_const _) (Kd.mono_pair (Kd.mono_const _) (Kd.mono_pair (Kd.mono_const _) (Kd.mono_pair (Kd.mono_const _) (Kd.mono_pair (Kd.mono_slice 119 Kd.mono_id) (Kd.mono_slice 119 Kd.mono_id))))))))
theorem sub119 : Kd.Sub F77 [116, 119] := Kd.sub_iso _ (Kd.sub_pair (Kd.sub_const _ (by decide)) (Kd.sub_pair (Kd.sub_const _ (by decide)) (Kd.sub_pair (Kd.sub_const _ (by decide)) (Kd.sub_pair (Kd.sub_const _ (by decide)) (Kd.sub_pair (Kd.sub_const _ (by decide)) (Kd.sub_pair (Kd.sub_const _ (by decide)) (Kd.sub_pair (Kd.sub_slice 119 (by decide) Kd.sub_id) (Kd.sub_slice 119 (by decide) Kd.sub_id))))))))
theorem sz119 : ∀ n, (Kd.upto F77 14 [116, 119] n).sz = 14 := Kd.upto_sz (fun _ => rfl)
def k119 : Kd S119 := Kd.fix F77 14 [116, 119] sz119 (Kd.upto_E sub119)
theorem k119_open {w : World} {x : S119} {cs : List Value} (h : k119.K w x cs) : ∃ A5 c5 A9 c9 A12 c12 A13 c13, cs = [.int .i64 x.f0, .string x.f1, .int .i64 x.f2.f0, .int .u64 x.f2.f1, .string x.f2.f2, .slice A5 x.f2.f3.length c5, .int .i64 x.f3.f0, .int .u64 x.f3.f1, .string x.f3.f2, .slice A9 x.f3.f3.length c9, .int .u64 x.f4, .int .u64 x.f5, .slice A12 x.f6.length c12, .slice A13 x.f7.length c13] ∧ x.f2.f3.length ≤ c5 ∧ k116.C w A5 x.f2.f3.length x.f2.f3 ∧ x.f3.f3.length ≤ c9 ∧ k116.C w A9 x.f3.f3.length x.f3.f3 ∧ x.f6.length ≤ c12 ∧ k119.C w A12 x.f6.length x.f6 ∧ x.f7.length ≤ c13 ∧ k119.C w A13 x.f7.length x.f7 := by
  obtain ⟨n, h⟩ := h
  cases n with
  | zero => exact h.elim
  | succ n =>
    obtain ⟨_, _, rfl, rfl, ⟨_, _, rfl, rfl, ⟨_, _, rfl, s2, ⟨_, _, rfl, s6, ⟨_, _, rfl, rfl, ⟨_, _, rfl, rfl, ⟨_, _, rfl, ⟨A12, c12, rfl, l12, g12⟩, ⟨A13, c13, rfl, l13, g13⟩⟩⟩⟩⟩⟩⟩⟩ := h
    obtain ⟨A5, c5, rfl, l5, g5⟩ := k116_open s2
    obtain ⟨A9, c9, rfl, l9, g9⟩ := k116_open s6
    exact ⟨A5, c5, A9, c9, A12, c12, A13, c13, rfl, l5, g5, l9, g9, l12, Kd.fix_C g12, l13, Kd.fix_C g13⟩
theorem k119_mk (w : World) (x : S119) {A5 : Option Addr} {c5 : Nat} (l5 : x.f2.f3.length ≤ c5) (g5 : k116.C w A5 x.f2.f3.length x.f2.f3) {A9 : Option Addr} {c9 : Nat} (l9 : x.f3.f3.length ≤ c9) (g9 : k116.C w A9 x.f3.f3.length x.f3.f3) {A12 : Option Addr} {c12 : Nat} (l12 : x.f6.length ≤ c12) (g12 : k119.C w A12 x.f6.length x.f6) {A13 : Option Addr} {c13 : Nat} (l13 : x.f7.length ≤ c13) (g13 : k119.C w A13 x.f7.length x.f7) : k119.K w x [.int .i64 x.f0, .string x.f1, .int .i64 x.f2.f0, .int .u64 x.f2.f1, .string x.f2.f2, .slice A5 x.f2.f3.length c5, .int .i64 x.f3.f0, .int .u64 x.f3.f1, .string x.f3.f2, .slice A9 x.f3.f3.length c9, .int .u64 x.f4, .int .u64 x.f5, .slice A12 x.f6.length c12, .slice A13 x.f7.length c13] := by
  obtain ⟨n12, q12⟩ := Kd.fix_C_back mono119 g12
  obtain ⟨n13, q13⟩ := Kd.fix_C_back mono119 g13
  have r12 := Kd.upto_C_le mono119 sz119 (show n12 ≤ (max n12 n13) by omega) q12
  have r13 := Kd.upto_C_le mono119 sz119 (show n13 ≤ (max n12 n13) by omega) q13
  exact ⟨(max n12 n13) + 1, ⟨[.int .i64 x.f0], [.string x.f1, .int .i64 x.f2.f0, .int .u64 x.f2.f1, .string x.f2.f2, .slice A5 x.f2.f3.length c5, .int .i64 x.f3.f0, .int .u64 x.f3.f1, .string x.f3.f2, .slice A9 x.f3.f3.length c9, .int .u64 x.f4, .int .u64 x.f5, .slice A12 x.f6.length c12, .slice A13 x.f7.length c13], rfl, rfl, ⟨[.string x.f1], [.int .i64 x.f2.f0, .int .u64 x.f2.f1, .string x.f2.f2, .slice A5 x.f2.f3.length c5, .int .i64 x.f3.f0, .int .u64 x.f3.f1, .string x.f3.f2, .slice A9 x.f3.f3.length c9, .int .u64 x.f4, .int .u64 x.f5, .slice A12 x.f6.length c12, .slice A13 x.f7.length c13], rfl, rfl, ⟨[.int .i64 x.f2.f0, .int .u64 x.f2.f1, .string x.f2.f2, .slice A5 x.f2.f3.length c5], [.int .i64 x.f3.f0, .int .u64 x.f3.f1, .string x.f3.f2, .slice A9 x.f3.f3.length c9, .int .u64 x.f4, .int .u64 x.f5, .slice A12 x.f6.length c12, .slice A13 x.f7.length c13], rfl, (k116_mk w x.f2 l5 g5), ⟨[.int .i64 x.f3.f0, .int .u64 x.f3.f1, .string x.f3.f2, .slice A9 x.f3.f3.length c9], [.int .u64 x.f4, .int .u64 x.f5, .slice A12 x.f6.length c12, .slice A13 x.f7.length c13], rfl, (k116_mk w x.f3 l9 g9), ⟨[.int .u64 x.f4], [.int .u64 x.f5, .slice A12 x.f6.length c12, .slice A13 x.f7.length c13], rfl, rfl, ⟨[.int .u64 x.f5], [.slice A12 x.f6.length c12, .slice A13 x.f7.length c13], rfl, rfl, ⟨[.slice A12 x.f6.length c12], [.slice A13 x.f7.length c13], rfl, ⟨A12, c12, rfl, l12, r12⟩, ⟨A13, c13, rfl, l13, r13⟩⟩⟩⟩⟩⟩⟩⟩⟩
theorem k119_mkM (w : World) (base : Nat) (ok : Nat → Prop) (x : S119) {v5 : Value} (g5 : k116.R 116 w base ok v5 x.f2.f3) {v9 : Value} (g9 : k116.R 116 w base ok v9 x.f3.f3) {v12 : Value} (g12 : k119.R 119 w base ok v12 x.f6) {v13 : Value} (g13 : k119.R 119 w base ok v13 x.f7) : k119.M w base ok x [.int .i64 x.f0, .string x.f1, .int .i64 x.f2.f0, .int .u64 x.f2.f1, .string x.f2.f2, v5, .int .i64 x.f3.f0, .int .u64 x.f3.f1, .string x.f3.f2, v9, .int .u64 x.f4, .int .u64 x.f5, v12, v13] := by
  obtain ⟨n12, q12⟩ := Kd.fix_R_back mono119 g12
  obtain ⟨n13, q13⟩ := Kd.fix_R_back mono119 g13
  have r12 := Kd.upto_R_le mono119 sz119 (show n12 ≤ (max n12 n13) by omega) q12
  have r13 := Kd.upto_R_le mono119 sz119 (show n13 ≤ (max n12 n13) by omega) q13
  exact ⟨(max n12 n13) + 1, ⟨[.int .i64 x.f0], [.string x.f1, .int .i64 x.f2.f0, .int .u64 x.f2.f1, .string x.f2.f2, v5, .int .i64 x.f3.f0, .int .u64 x.f3.f1, .string x.f3.f2, v9, .int .u64 x.f4, .int .u64 x.f5, v12, v13], rfl, rfl, ⟨[.string x.f1], [.int .i64 x.f2.f0, .int .u64 x.f2.f1, .string x.f2.f2, v5, .int .i64 x.f3.f0, .int .u64 x.f3.f1, .string x.f3.f2, v9, .int .u64 x.f4, .int .u64 x.f5, v12, v13], rfl, rfl, ⟨[.int .i64 x.f2.f0, .int .u64 x.f2.f1, .string x.f2.f2, v5], [.int .i64 x.f3.f0, .int .u64 x.f3.f1, .string x.f3.f2, v9, .int .u64 x.f4, .int .u64 x.f5, v12, v13], rfl, (k116_mkM w base ok x.f2 g5), ⟨[.int .i64 x.f3.f0, .int .u64 x.f3.f1, .string x.f3.f2, v9], [.int .u64 x.f4, .int .u64 x.f5, v12, v13], rfl, (k116_mkM w base ok x.f3 g9), ⟨[.int .u64 x.f4], [.int .u64 x.f5, v12, v13], rfl, rfl, ⟨[.int .u64 x.f5], [v12, v13], rfl, rfl, ⟨[v12], [v13], rfl, ⟨v12, rfl, r12⟩, ⟨v13, rfl, r13⟩⟩⟩⟩⟩⟩⟩⟩⟩
def rd_T119 (xs : List S119) (i : Int) : S119 := xs.getD i.toNat z119
theorem at_T119 {w : World} {A : Option Addr} {n : Nat} {xs : List S119} (h : Kd.C k119 w A n xs) (i : Int) (h0 : 0 ≤ i) (h1 : i < n) : ∃ ad A5 c5 A9 c9 A12 c12 A13 c13, A = some ad ∧ w.cell? (ad.add (i.toNat * 14)) = some (.int .i64 (rd_T119 xs i).f0) ∧ w.cell? ⟨(ad.add (i.toNat * 14)).block, (ad.add (i.toNat * 14)).off + 1, none⟩ = some (.string (rd_T119 xs i).f1) ∧ w.cell? ⟨(ad.add (i.toNat * 14)).block, (ad.add (i.toNat * 14)).off + 2, none⟩ = some (.int .i64 (rd_T119 xs i).f2.f0) ∧ w.cell? ⟨(ad.add (i.toNat * 14)).block, (ad.add (i.toNat * 14)).off + 3, none⟩ = some (.int .u64 (rd_T119 xs i).f2.f1) ∧ w.cell? ⟨(ad.add (i.toNat * 14)).block, (ad.add (i.toNat * 14)).off + 4, none⟩ = some (.string (rd_T119 xs i).f2.f2) ∧ w.cell? ⟨(ad.add (i.toNat * 14)).block, (ad.add (i.toNat * 14)).off + 5, none⟩ = some (.slice A5 (rd_T119 xs i).f2.f3.length c5) ∧ w.cell? ⟨(ad.add (i.toNat * 14)).block, (ad.add (i.toNat * 14)).off + 6, none⟩ = some (.int .i64 (rd_T119 xs i).f3.f0) ∧ w.cell? ⟨(ad.add (i.toNat * 14)).block, (ad.add (i.toNat * 14)).off + 7, none⟩ = some (.int .u64 (rd_T119 xs i).f3.f1) ∧ w.cell? ⟨(ad.add (i.toNat * 14)).block, (ad.add (i.toNat * 14)).off + 8, none⟩ = some (.string (rd_T119 xs i).f3.f2) ∧ w.cell? ⟨(ad.add (i.toNat * 14)).block, (ad.add (i.toNat * 14)).off + 9, none⟩ = some (.slice A9 (rd_T119 xs i).f3.f3.length c9) ∧ w.cell? ⟨(ad.add (i.toNat * 14)).block, (ad.add (i.toNat * 14)).off + 10, none⟩ = some (.int .u64 (rd_T119 xs i).f4) ∧ w.cell? ⟨(ad.add (i.toNat * 14)).block, (ad.add (i.toNat * 14)).off + 11, none⟩ = some (.int .u64 (rd_T119 xs i).f5) ∧ w.cell? ⟨(ad.add (i.toNat * 14)).block, (ad.add (i.toNat * 14)).off + 12, none⟩ = some (.slice A12 (rd_T119 xs i).f6.length c12) ∧ w.cell? ⟨(ad.add (i.toNat * 14)).block, (ad.add (i.toNat * 14)).off + 13, none⟩ = some (.slice A13 (rd_T119 xs i).f7.length c13) ∧ (rd_T119 xs i).f2.f3.length ≤ c5 ∧ k116.C w A5 (rd_T119 xs i).f2.f3.length (rd_T119 xs i).f2.f3 ∧ (rd_T119 xs i).f3.f3.length ≤ c9 ∧ k116.C w A9 (rd_T119 xs i).f3.f3.length (rd_T119 xs i).f3.f3 ∧ (rd_T119 xs i).f6.length ≤ c12 ∧ k119.C w A12 (rd_T119 xs i).f6.length (rd_T119 xs i).f6 ∧ (rd_T119 xs i).f7.length ≤ c13 ∧ k119.C w A13 (rd_T119 xs i).f7.length (rd_T119 xs i).f7 := by
  obtain ⟨ad, c, e, _, hK, hc0⟩ := Kd.C_get h z119 i h0 h1
  have hc : ∀ j u, c[j]? = some u → w.cell? (ad.add (i.toNat * 14 + j)) = some u := hc0
  obtain ⟨A5, c5, A9, c9, A12, c12, A13, c13, rfl, l5, g5, l9, g9, l12, g12, l13, g13⟩ := k119_open hK
  exact ⟨ad, A5, c5, A9, c9, A12, c12, A13, c13, e, hc 0 _ rfl, by rw [← add_field _ _ 1 (by omega)]; exact hc 1 _ rfl, by rw [← add_field _ _ 2 (by omega)]; exact hc 2 _ rfl, by rw [← add_field _ _ 3 (by omega)]; exact hc 3 _ rfl, by rw [← add_field _ _ 4 (by omega)]; exact hc 4 _ rfl, by rw [← add_field _ _ 5 (by omega)]; exact hc 5 _ rfl, by rw [← add_field _ _ 6 (by omega)]; exact hc 6 _ rfl, by rw [← add_field _ _ 7 (by omega)]; exact hc 7 _ rfl, by rw [← add_field _ _ 8 (by omega)]; exact hc 8 _ rfl, by rw [← add_field _ _ 9 (by omega)]; exact hc 9 _ rfl, by rw [← add_field _ _ 10 (by omega)]; exact hc 10 _ rfl, by rw [← add_field _ _ 11 (by omega)]; exact hc 11 _ rfl, by rw [← add_field _ _ 12 (by omega)]; exact hc 12 _ rfl, by rw [← add_field _ _ 13 (by omega)]; exact hc 13 _ rfl, l5, g5, l9, g9, l12, g12, l13, g13⟩
structure S70 where
  f0 : Int
  f1 : ByteArray
  f2 : Int
  f3 : (List Int)
def z70 : S70 := ⟨(0 : Int), (⟨#[]⟩ : ByteArray), (0 : Int), ([] : List Int)⟩
def k70 : Kd S70 := Kd.iso (Kd.pair (Kd.int .i64) (Kd.pair Kd.string (Kd.pair (Kd.int .i64) (Kd.slice 74 (Kd.int .u64))))) (fun x : S70 => (x.f0, x.f1, x.f2, x.f3))
theorem k70_open {w : World} {x : S70} {cs : List Value} (h : k70.K w x cs) : ∃ A3 c3, cs = [.int .i64 x.f0, .string x.f1, .int .i64 x.f2, .slice A3 x.f3.length c3] ∧ x.f3.length ≤ c3 ∧ (Kd.int .u64).C w A3 x.f3.length x.f3 := by
  obtain ⟨_, _, rfl, rfl, ⟨_, _, rfl, rfl, ⟨_, _, rfl, rfl, ⟨A3, c3, rfl, l3, g3⟩⟩⟩⟩ := h
  exact ⟨A3, c3, rfl, l3, g3⟩
theorem k70_mkM (w : World) (base : Nat) (ok : Nat → Prop) (x : S70) {v3 : Value} (g3 : (Kd.int .u64).R 74 w base ok v3 x.f3) : k70.M w base ok x [.int .i64 x.f0, .string x.f1, .int .i64 x.f2, v3] := ⟨[.int .i64 x.f0], [.string x.f1, .int .i64 x.f2, v3], rfl, rfl, ⟨[.string x.f1], [.int .i64 x.f2, v3], rfl, rfl, ⟨[.int .i64 x.f2], [v3], rfl, rfl, ⟨v3, rfl, g3⟩⟩⟩⟩
def rd_T70 (xs : List S70) (i : Int) : S70 := xs.getD i.toNat z70
theorem at_T70 {w : World} {A : Option Addr} {n : Nat} {xs : List S70} (h : Kd.C k70 w A n xs) (i : Int) (h0 : 0 ≤ i) (h1 : i < n) : ∃ ad A3 c3, A = some ad ∧ w.cell? (ad.add (i.toNat * 4)) = some (.int .i64 (rd_T70 xs i).f0) ∧ w.cell? ⟨(ad.add (i.toNat * 4)).block, (ad.add (i.toNat * 4)).off + 1, none⟩ = some (.string (rd_T70 xs i).f1) ∧ w.cell? ⟨(ad.add (i.toNat * 4)).block, (ad.add (i.toNat * 4)).off + 2, none⟩ = some (.int .i64 (rd_T70 xs i).f2) ∧ w.cell? ⟨(ad.add (i.toNat * 4)).block, (ad.add (i.toNat * 4)).off + 3, none⟩ = some (.slice A3 (rd_T70 xs i).f3.length c3) ∧ (rd_T70 xs i).f3.length ≤ c3 ∧ (Kd.int .u64).C w A3 (rd_T70 xs i).f3.length (rd_T70 xs i).f3 := by
  obtain ⟨ad, c, e, _, hK, hc0⟩ := Kd.C_get h z70 i h0 h1
  have hc : ∀ j u, c[j]? = some u → w.cell? (ad.add (i.toNat * 4 + j)) = some u := hc0
  obtain ⟨A3, c3, rfl, l3, g3⟩ := k70_open hK
  exact ⟨ad, A3, c3, e, hc 0 _ rfl, by rw [← add_field _ _ 1 (by omega)]; exact hc 1 _ rfl, by rw [← add_field _ _ 2 (by omega)]; exact hc 2 _ rfl, by rw [← add_field _ _ 3 (by omega)]; exact hc 3 _ rfl, l3, g3⟩
end Go.Proofs.YtfigjpehecibeaaGreat.L
end
