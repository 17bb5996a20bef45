/- A statement's tree is of the form: what is said. -/
import Derived.Test.YtnacekhfebjdfaaLe
namespace Go.Proofs.Ytnacekhfebjdfaa.L
open Go.RowKit Go.Proofs.YtnacekhfebjdfaaW.PrintWords Go.Proofs.YtnacekhfebjdfaaW.PrintLast Go.Proofs.YtnacekhfebjdfaaW.PrintMore Go.Proofs.Ytnacekhfebjdfaa.Gr
set_option linter.unusedVariables false
set_option linter.unusedSimpArgs false

/-- A statement's own fields are of the form. -/
def stOwn (x : S39) : Bool := decide (1 ≤ x.f0) && decide (x.f0 ≤ 5) && (if x.f0 = 3 then x.f1.toList.isEmpty else namedB x.f1) && (if x.f0 = 2 then exB x.f2 else noneB x.f2) && (if x.f0 ≤ 3 then exB x.f3 else noneB x.f3) && (if x.f0 = 4 then true else x.f4 == 0 && x.f5 == 0) && (if x.f0 = 3 ∨ x.f0 = 4 then true else x.f6.isEmpty) && (if x.f0 = 3 then true else x.f7.isEmpty)
mutual
def stB : S39 → Bool
  | ⟨a, b, c, d, e, f, g, h⟩ => stOwn ⟨a, b, c, d, e, f, g, h⟩ && bdB g && bdB h
def bdB : List S39 → Bool
  | [] => true
  | x :: r => stB x && bdB r
end
theorem bdB_all (l : List S39) : bdB l = l.all stB := by
  induction l with
  | nil => rfl
  | cons x r ih => rw [bdB, ih, List.all_cons]
theorem stB_eq (x : S39) : stB x = (stOwn x && bdB x.f6 && bdB x.f7) := by
  obtain ⟨a, b, c, d, e, f, g, h⟩ := x
  rw [stB]
theorem named_empty {s : ByteArray} (h : s.toList = []) : namedB s = false := by
  have h2 : s.size = 0 := by rw [Lib.toList_data, Array.toList_eq_nil_iff] at h; show s.data.size = 0; rw [h]; rfl
  unfold namedB nmB
  rw [h2]; rfl
/-- What a walk through a body says. -/
def BodyC (f : FuncId) (l : List S39) : Prop := ∀ (A : Option Addr) (c : Nat) (w' : World), k39.C w' A l.length l → l.length ≤ c → Calls Try.prog f #[.slice A l.length c] w' fun e w'' => e = .returned (.bool (bdB l)) ∧ Below w'.heap.size w' w''
/-- A step into the worlds that have grown. -/
theorem wp_begin_grown {w : World} {p : World → Prop} (h : ∀ g : G w, p g.W) : p w := h ⟨w, Below.refl _ _⟩

theorem wp_grown {P : Program} {c : Code} {Q : Exit → Act → World → Prop} {a : Act} {w : World} (h : ∀ g : G w, c.wp P Q a g.W) : c.wp P Q a w := h ⟨w, Below.refl _ _⟩
theorem named_v {s : ByteArray} {v : Bool} (h : namedB s = v) (w : World) : Calls Try.prog 9 #[.string s] w fun e w' => e = .returned (.bool v) ∧ Below w.heap.size w w' := h ▸ named_calls s w
theorem refName_v {s : ByteArray} {v : Bool} (h : namedB s = v) (w : World) : Calls Try.prog 12 #[.string s] w fun e w' => e = .returned (.bool v) ∧ Below w.heap.size w w' := h ▸ refName_calls s w
theorem none_v {x : S37} {v : Bool} (h : noneB x = v) (A : Option Addr) (c : Nat) (w : World) (hc : k37.C w A x.f3.length x.f3) (hl : x.f3.length ≤ c) : Calls Try.prog 20 #[.agg #[.int .i64 x.f0, .int .u64 x.f1, .string x.f2, .slice A x.f3.length c]] w fun e w' => e = .returned (.bool v) ∧ Below w.heap.size w w' := h ▸ none_calls x A c w hc hl
theorem refNone_v {x : S37} {v : Bool} (h : noneB x = v) (A : Option Addr) (c : Nat) (w : World) (hc : k37.C w A x.f3.length x.f3) (hl : x.f3.length ≤ c) : Calls Try.prog 23 #[.agg #[.int .i64 x.f0, .int .u64 x.f1, .string x.f2, .slice A x.f3.length c]] w fun e w' => e = .returned (.bool v) ∧ Below w.heap.size w w' := h ▸ refNone_calls x A c w hc hl
theorem exprForm_v {x : S37} {v : Bool} (h : exB x = v) (A : Option Addr) (c : Nat) (w : World) (hc : k37.C w A x.f3.length x.f3) (hl : x.f3.length ≤ c) : Calls Try.prog 19 #[.agg #[.int .i64 x.f0, .int .u64 x.f1, .string x.f2, .slice A x.f3.length c]] w fun e w' => e = .returned (.bool v) ∧ Below w.heap.size w w' := h ▸ exprForm_calls _ x (Nat.le_refl _) A c w hc hl
theorem refExprForm_v {x : S37} {v : Bool} (h : exB x = v) (A : Option Addr) (c : Nat) (w : World) (hc : k37.C w A x.f3.length x.f3) (hl : x.f3.length ≤ c) : Calls Try.prog 22 #[.agg #[.int .i64 x.f0, .int .u64 x.f1, .string x.f2, .slice A x.f3.length c]] w fun e w' => e = .returned (.bool v) ∧ Below w.heap.size w w' := h ▸ refExprForm_calls _ x (Nat.le_refl _) A c w hc hl
theorem body_v {f : FuncId} {l : List S39} (hb : BodyC f l) {v : Bool} (h : bdB l = v) (A : Option Addr) (c : Nat) (w' : World) (hc : k39.C w' A l.length l) (hl : l.length ≤ c) : Calls Try.prog f #[.slice A l.length c] w' fun e w'' => e = .returned (.bool v) ∧ Below w'.heap.size w' w'' := h ▸ hb A c w' hc hl
end Go.Proofs.Ytnacekhfebjdfaa.L
