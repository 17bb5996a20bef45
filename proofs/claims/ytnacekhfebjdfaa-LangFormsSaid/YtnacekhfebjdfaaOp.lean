import Derived.Test.YtnacekhfebjdfaaWMore
import Derived.Deep.Slices
import Derived.SizedLaws
set_option linter.unusedVariables false
set_option linter.unusedSimpArgs false
namespace Go.Proofs.Ytnacekhfebjdfaa.Op
open Go.RowKit Go.ChangeShapes Go.WideShapes Go.Deep Go.Proofs.YtnacekhfebjdfaaW.PrintWords

/-- What a measure of data must be: it counts values and letters, each where it is met. -/
structure Bulk {H : Type} (B : DataW H → Nat) : Prop where
  str : ∀ l, l.length + 1 ≤ B (.lit (.string l))
  one : ∀ d, 1 ≤ B d
  slice : ∀ es ss, (es.map B).sum + 1 ≤ B (.slice es ss)
  agg : ∀ ps, (ps.map B).sum + 1 ≤ B (.agg ps)

/-- Whatever reads as data of this type is a value of this kind. -/
def Opens {H : Type} (enc : TypeId × Value → H) (P : Program) (w : World) (B : DataW H → Nat) {α : Type} (fuel : Nat) (t : TypeId) (k : Kd α) (good : α → Prop) (bulk : α → Nat) : Prop :=
  ∀ cs x, DataW.trod enc P w 0 (fun _ => true) true fuel t cs = some x → (x.1.weights P t).all (· ≤ reachBytes) = true → ∃ v, k.K w v cs ∧ good v ∧ bulk v ≤ B x.1

section
variable {H : Type} {enc : TypeId × Value → H} {P : Program} {w : World} {B : DataW H → Nat} {fuel : Nat} {t e : TypeId}

theorem opens_int (hB : Bulk B) {k : IntKind} (ht : P.underlying t = some (.int k)) : Opens enc P w B fuel t (Kd.int k) (fun n => (Lit.int k n).wf = true) (fun _ => 1) := by
  intro cs x h _
  obtain ⟨n, rfl, rfl, hw⟩ := DataW.trod_int ht h
  exact ⟨n, rfl, hw, hB.one _⟩
theorem opens_bool (hB : Bulk B) (ht : P.underlying t = some .bool) : Opens enc P w B fuel t Kd.bool (fun _ => True) (fun _ => 1) := by
  intro cs x h _
  obtain ⟨n, rfl, rfl⟩ := DataW.trod_bool ht h
  exact ⟨n, rfl, trivial, hB.one _⟩
theorem opens_string (hB : Bulk B) (ht : P.underlying t = some .string) : Opens enc P w B fuel t Kd.string (fun s => s.size ≤ 140737488351232) (fun s => s.size + 1) := by
  intro cs x h hs
  obtain ⟨s, rfl, rfl, _⟩ := DataW.trod_string ht h
  refine ⟨s, rfl, ?_, ?_⟩
  · have z := of_decide_eq_true (List.all_eq_true.1 hs s.data.toList.length (by simp [DataW.weights]))
    simpa [reachBytes] using z
  · have := hB.str s.data.toList
    simpa using this

theorem all_weights {ds : List (DataW H)} (h : (DataW.weightsAll P e ds).all (· ≤ reachBytes) = true) {d : DataW H} (hd : d ∈ ds) : (d.weights P e).all (· ≤ reachBytes) = true := by
  induction ds with
  | nil => cases hd
  | cons a r ih =>
    rw [DataW.weightsAll, List.all_append, Bool.and_eq_true] at h
    rcases List.mem_cons.1 hd with rfl | hd
    · exact h.1
    · exact ih h.2 hd

/-- Values by their place: a list of them. -/
theorem list_of {α β : Type} (ds : List β) (p : Nat → β → α → Prop) (b : α → Nat) (B : β → Nat) (h : ∀ i d, ds[i]? = some d → ∃ v, p i d v ∧ b v ≤ B d) :
    ∃ vs : List α, vs.length = ds.length ∧ (∀ i d v, ds[i]? = some d → vs[i]? = some v → p i d v) ∧ (vs.map b).sum ≤ (ds.map B).sum := by
  induction ds generalizing p with
  | nil => exact ⟨[], rfl, fun i d v h => by simp at h, by simp⟩
  | cons d r ih =>
    obtain ⟨v, hv, hb⟩ := h 0 d rfl
    obtain ⟨vs, h1, h2, h3⟩ := ih (fun i => p (i + 1)) (fun i d hd => h (i + 1) d (by simpa using hd))
    refine ⟨v :: vs, by simp [h1], fun i d' v' hd hv' => ?_, by simp; omega⟩
    cases i with
    | zero => simp at hd hv'; subst hd; subst hv'; exact hv
    | succ i => exact h2 i d' v' (by simpa using hd) (by simpa using hv')

theorem opens_slice (hB : Bulk B) {α : Type} {k : Kd α} {good : α → Prop} {bulk : α → Nat} {n bytes : Nat} (ht : P.underlying t = some (.slice e)) (hc : P.cellsOf e = k.sz) (hy : P.bytesOf e = bytes) (hpos : 0 < bytes)
    (he : ∀ m, m < fuel → Opens enc P w B m e k good bulk) :
    Opens enc P w B fuel t (Kd.slice n k) (fun xs => xs.length * bytes ≤ 140737488351232 ∧ ∀ x ∈ xs, good x) (fun xs => (xs.map bulk).sum + 1) := by
  intro cs x h hs
  rcases DataW.trod_slice ht h with ⟨rfl, rfl⟩ | ⟨a, len, cap, elems, rest, m, rfl, rfl, rfl, hb, hl, hm, hlen, hel, _, _⟩
  · exact ⟨[], ⟨none, 0, rfl, Nat.le_refl _, Kd.C_nil _ _⟩, ⟨by simp, fun x hx => by cases hx⟩, hB.one _⟩
  · have hw : ((elems.map (·.1)).length + (rest.map (·.1)).length) * P.bytesOf e ≤ reachBytes ∧ (DataW.weightsAll P e (elems.map (·.1))).all (· ≤ reachBytes) = true := by
      simp only [DataW.weights, ht] at hs
      rw [List.all_cons, Bool.and_eq_true, List.all_append, Bool.and_eq_true] at hs
      exact ⟨of_decide_eq_true hs.1, hs.2.1⟩
    obtain ⟨vs, h1, h2, h3⟩ := list_of elems (fun i d v => ∃ cs', w.cells? 0 (a.add (i * P.cellsOf e)) (P.cellsOf e) = some cs' ∧ k.K w v cs' ∧ good v) bulk (fun d => B d.1) (by
      intro i d hd
      have hi : i < len := by rw [← hlen]; exact (List.getElem?_eq_some_iff.1 hd).1
      have hx := hel i hi
      rw [hd] at hx
      obtain ⟨cs', g1, g2⟩ := Option.bind_eq_some_iff.1 hx
      obtain ⟨v, g3, g4, g5⟩ := he m (Nat.lt_succ_self m) cs' d g2 (all_weights hw.2 (List.mem_map.2 ⟨d, List.mem_of_getElem? hd, rfl⟩))
      exact ⟨v, ⟨cs', g1, g3, g4⟩, g5⟩)
    have hvl : vs.length = len := by rw [h1, hlen]
    have hsz : len * bytes ≤ 140737488351232 := by
      have z := hw.1
      rw [hy, List.length_map, hlen] at z
      refine Nat.le_trans (Nat.mul_le_mul_right _ (Nat.le_add_right _ _)) (Nat.le_trans z ?_)
      simp [reachBytes]
    refine ⟨vs, ⟨some a, cap, by rw [hvl], by rw [hvl]; exact hl, rfl, ?_, fun _ => ⟨a, rfl, ?_⟩⟩, ⟨by rw [hvl]; exact hsz, ?_⟩, ?_⟩
    · rw [hvl]
      have : len ≤ len * bytes := Nat.le_mul_of_pos_right _ hpos
      omega
    · intro j p hp
      have hj : j < vs.length := (List.getElem?_eq_some_iff.1 hp).1
      obtain ⟨cs', g1, g2, _⟩ := h2 j _ p (List.getElem?_eq_getElem (by rw [← h1]; exact hj)) hp
      obtain ⟨_, g4, g5⟩ := World.cells?_some g1
      rw [hc] at g4 g5
      refine ⟨cs', g4, g2, fun i u hu => ?_⟩
      have hi : i < cs'.length := (List.getElem?_eq_some_iff.1 hu).1
      have g6 := g5 i (by omega)
      rw [Go.Deep.add_add] at g6
      rw [g6, hu]
    · intro x hx
      obtain ⟨j, hj, rfl⟩ := List.getElem_of_mem hx
      obtain ⟨_, _, _, g⟩ := h2 j _ _ (List.getElem?_eq_getElem (by rw [← h1]; exact hj)) (List.getElem?_eq_getElem hj)
      exact g
    · have z := hB.slice (elems.map (·.1)) (rest.map (·.1))
      have e2 : (elems.map fun d => B d.1).sum = ((elems.map (·.1)).map B).sum := by rw [List.map_map]; rfl
      show (vs.map bulk).sum + 1 ≤ B (.slice (elems.map (·.1)) (rest.map (·.1)))
      omega

/-- Fields of a struct, from a place on: type and offset of each; their kinds in line. -/
def OpensF {H : Type} (enc : TypeId × Value → H) (P : Program) (w : World) (B : DataW H → Nat) {β : Type} (n total o : Nat) (fs : List (TypeId × Nat)) (k : Kd β) (good : β → Prop) (bulk : β → Nat) : Prop :=
  ∀ (cs : List Value) (xs : List (DataW H × List MemPlace)), cs.length = total → xs.length = fs.length → (∀ (i : Nat) (f : TypeId × Nat), fs[i]? = some f → DataW.trod enc P w 0 (fun _ => true) true n f.1 ((cs.drop f.2).take (P.cellsOf f.1)) = xs[i]?) →
    (DataW.weightsEach P (fs.map (·.1)) (xs.map (·.1))).all (· ≤ reachBytes) = true → ∃ v, k.K w v (cs.drop o) ∧ good v ∧ bulk v ≤ (xs.map fun d => B d.1).sum

theorem opensF_last {α : Type} {k : Kd α} {good : α → Prop} {bulk : α → Nat} {n total o : Nat} {f : TypeId} (hf : Opens enc P w B n f k good bulk) (ho : total ≤ o + P.cellsOf f) : OpensF enc P w B n total o [(f, o)] k good bulk := by
  intro cs xs hl hx ht hw
  match xs, hx with
  | [x], _ =>
    have h0 := ht 0 (f, o) rfl
    simp only [List.getElem?_cons_zero] at h0
    rw [List.take_of_length_le (by rw [List.length_drop]; omega)] at h0
    simp only [List.map_cons, List.map_nil, DataW.weightsEach, List.append_nil] at hw
    obtain ⟨v, g1, g2, g3⟩ := hf _ _ h0 hw
    exact ⟨v, g1, g2, by simpa using g3⟩

theorem opensF_cons {α β : Type} {k : Kd α} {k2 : Kd β} {good : α → Prop} {bulk : α → Nat} {good2 : β → Prop} {bulk2 : β → Nat} {n total o o2 : Nat} {f : TypeId} {fs : List (TypeId × Nat)} (hf : Opens enc P w B n f k good bulk) (ho : o + P.cellsOf f = o2)
    (h2 : OpensF enc P w B n total o2 fs k2 good2 bulk2) : OpensF enc P w B n total o ((f, o) :: fs) (Kd.pair k k2) (fun v => good v.1 ∧ good2 v.2) (fun v => bulk v.1 + bulk2 v.2) := by
  intro cs xs hl hx ht hw
  match xs, hx with
  | x :: xs, hx =>
    have h0 := ht 0 (f, o) rfl
    simp only [List.getElem?_cons_zero] at h0
    simp only [List.map_cons, DataW.weightsEach, List.all_append, Bool.and_eq_true] at hw
    obtain ⟨v, g1, g2, g3⟩ := hf _ _ h0 hw.1
    obtain ⟨v2, g4, g5, g6⟩ := h2 cs xs hl (by simpa using hx) (fun i f' hf' => by simpa using ht (i + 1) f' (by simpa using hf')) hw.2
    refine ⟨(v, v2), ⟨_, _, ?_, g1, g4⟩, ⟨g2, g5⟩, by simp; omega⟩
    rw [← ho, ← List.drop_drop, List.take_append_drop]

theorem opens_struct (hB : Bulk B) {β : Type} {fa : Array Field} {fs : List (TypeId × Nat)} {k : Kd β} {good : β → Prop} {bulk : β → Nat} (ht : P.underlying t = some (.struct fa)) (hfs : fa.toList.map (fun f => (f.type, f.offset)) = fs)
    (h : ∀ n, n < fuel → OpensF enc P w B n (P.cellsOf t) 0 fs k good bulk) : Opens enc P w B fuel t k good (fun v => bulk v + 1) := by
  intro cs x hx hw
  obtain ⟨xs, n, rfl, rfl, hl, hxl, hf⟩ := DataW.trod_struct ht hx
  simp only [DataW.weights, ht] at hw
  have hmt : fa.toList.map (·.type) = fs.map (·.1) := by rw [← hfs, List.map_map]; rfl
  rw [hmt] at hw
  obtain ⟨v, g1, g2, g3⟩ := h n (Nat.lt_succ_self n) cs xs hl (by rw [hxl, ← hfs]; simp) (fun i f hif => by
    rw [← hfs, List.getElem?_map] at hif
    obtain ⟨f0, hf0, rfl⟩ := Option.map_eq_some_iff.1 hif
    exact hf i f0 (by simpa using hf0)) hw
  refine ⟨v, by simpa using g1, g2, ?_⟩
  have z := hB.agg (xs.map (·.1))
  have e2 : (xs.map fun d => B d.1).sum = ((xs.map (·.1)).map B).sum := by rw [List.map_map]; rfl
  show bulk v + 1 ≤ B (.agg (xs.map (·.1)))
  omega

/-- A Lean structure of its fields. -/
theorem opens_iso {α β : Type} {k : Kd α} {good : α → Prop} {bulk : α → Nat} {f : β → α} (g : α → β) (hg : ∀ a, f (g a) = a) (h : Opens enc P w B fuel t k good bulk) : Opens enc P w B fuel t (Kd.iso k f) (fun b => good (f b)) (fun b => bulk (f b)) := by
  intro cs x hx hw
  obtain ⟨v, g1, g2, g3⟩ := h cs x hx hw
  exact ⟨g v, by show k.K w (f (g v)) cs; rw [hg]; exact g1, by show good (f (g v)); rw [hg]; exact g2, by show bulk (f (g v)) ≤ _; rw [hg]; exact g3⟩
theorem opens_weaken {α : Type} {k : Kd α} {good good2 : α → Prop} {bulk bulk2 : α → Nat} (h : Opens enc P w B fuel t k good bulk) (hg : ∀ a, good a → good2 a) (hb : ∀ a, bulk2 a ≤ bulk a) : Opens enc P w B fuel t k good2 bulk2 := by
  intro cs x hx hw
  obtain ⟨v, g1, g2, g3⟩ := h cs x hx hw
  exact ⟨v, g1, hg v g2, Nat.le_trans (hb v) g3⟩
theorem opens_kd {α : Type} {k k2 : Kd α} {good : α → Prop} {bulk : α → Nat} (h : Opens enc P w B fuel t k good bulk) (hk : ∀ a cs, k.K w a cs → k2.K w a cs) : Opens enc P w B fuel t k2 good bulk := by
  intro cs x hx hw
  obtain ⟨v, g1, g2, g3⟩ := h cs x hx hw
  exact ⟨v, hk v cs g1, g2, g3⟩
theorem weights_at {ts : List TypeId} {ds : List (DataW H)} {j : Nat} {d : DataW H} (h : (DataW.weightsEach P ts ds).all (· ≤ reachBytes) = true) (ht : ts[j]? = some t) (hd : ds[j]? = some d) : (d.weights P t).all (· ≤ reachBytes) = true :=
  List.all_eq_true.2 fun n hn => List.all_eq_true.1 h n (DataW.weights_mem_each ht hd n hn)
end
end Go.Proofs.Ytnacekhfebjdfaa.Op
