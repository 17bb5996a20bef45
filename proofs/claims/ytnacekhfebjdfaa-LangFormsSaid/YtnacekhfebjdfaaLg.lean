/- Statements and bodies, by their size. -/
import Derived.Test.YtnacekhfebjdfaaLf
import Derived.Test.YtnacekhfebjdfaaLsAlt
import Derived.Test.YtnacekhfebjdfaaLsAgt
import Derived.Test.YtnacekhfebjdfaaLsA1
import Derived.Test.YtnacekhfebjdfaaLsA2
import Derived.Test.YtnacekhfebjdfaaLsA3
import Derived.Test.YtnacekhfebjdfaaLsA4
import Derived.Test.YtnacekhfebjdfaaLsA5
import Derived.Test.YtnacekhfebjdfaaLsBlt
import Derived.Test.YtnacekhfebjdfaaLsBgt
import Derived.Test.YtnacekhfebjdfaaLsB1
import Derived.Test.YtnacekhfebjdfaaLsB2
import Derived.Test.YtnacekhfebjdfaaLsB3
import Derived.Test.YtnacekhfebjdfaaLsB4
import Derived.Test.YtnacekhfebjdfaaLsB5
namespace Go.Proofs.Ytnacekhfebjdfaa.L
open Go.RowKit Go.Proofs.YtnacekhfebjdfaaW.PrintWords Go.Proofs.YtnacekhfebjdfaaW.PrintLast Go.Proofs.YtnacekhfebjdfaaW.PrintMore Go.Proofs.Ytnacekhfebjdfaa.Gr
set_option linter.unusedVariables false
set_option linter.unusedSimpArgs false

theorem kinds (a : Int) : a < 1 ∨ (¬ a < 1 ∧ a > 5) ∨ a = 1 ∨ a = 2 ∨ a = 3 ∨ a = 4 ∨ a = 5 := by omega

theorem stmtForm_walk (x : S39) (ih : ∀ l, l = x.f6 ∨ l = x.f7 → BodyC 11 l) : StmtC 16 x := by
  intro A5 c5 A9 c9 A12 c12 A13 c13 w l5 g5 l9 g9 l12 g12 l13 g13
  have L := Aside0.mk (And.intro l5 (And.intro l9 (And.intro l12 l13)))
  have H := Aside0.mk (And.intro g5 (And.intro g9 (And.intro g12 g13)))
  have IH := Aside0.mk ih
  rw [stB_eq]
  obtain ⟨a, b, cc, d, e, f, g, hh⟩ := x
  simp only at *
  rcases kinds a with h | ⟨h, h'⟩ | rfl | rfl | rfl | rfl | rfl
  · exact stmtForm_klt a h b cc d e f g hh w L H IH
  · exact stmtForm_kgt a h h' b cc d e f g hh w L H IH
  · exact stmtForm_k1 b cc d e f g hh w L H IH
  · exact stmtForm_k2 b cc d e f g hh w L H IH
  · exact stmtForm_k3 b cc d e f g hh w L H IH
  · exact stmtForm_k4 b cc d e f g hh w L H IH
  · exact stmtForm_k5 b cc d e f g hh w L H IH
theorem refStmtForm_walk (x : S39) (ih : ∀ l, l = x.f6 ∨ l = x.f7 → BodyC 14 l) : StmtC 18 x := by
  intro A5 c5 A9 c9 A12 c12 A13 c13 w l5 g5 l9 g9 l12 g12 l13 g13
  have L := Aside0.mk (And.intro l5 (And.intro l9 (And.intro l12 l13)))
  have H := Aside0.mk (And.intro g5 (And.intro g9 (And.intro g12 g13)))
  have IH := Aside0.mk ih
  rw [stB_eq]
  obtain ⟨a, b, cc, d, e, f, g, hh⟩ := x
  simp only at *
  rcases kinds a with h | ⟨h, h'⟩ | rfl | rfl | rfl | rfl | rfl
  · exact refStmtForm_klt a h b cc d e f g hh w L H IH
  · exact refStmtForm_kgt a h h' b cc d e f g hh w L H IH
  · exact refStmtForm_k1 b cc d e f g hh w L H IH
  · exact refStmtForm_k2 b cc d e f g hh w L H IH
  · exact refStmtForm_k3 b cc d e f g hh w L H IH
  · exact refStmtForm_k4 b cc d e f g hh w L H IH
  · exact refStmtForm_k5 b cc d e f g hh w L H IH

theorem st_size {x y : S39} {l : List S39} {n : Nat} (hl : l = x.f6 ∨ l = x.f7) (hy : y ∈ l) (h : SizeOf.sizeOf x ≤ n + 1) : SizeOf.sizeOf y ≤ n := by
  have := List.sizeOf_lt_of_mem hy
  obtain ⟨a, b, cc, d, e, f, g, hh⟩ := x
  simp at h
  simp only at hl
  rcases hl with rfl | rfl <;> omega
theorem stmtForm_all : ∀ (n : Nat) (x : S39), SizeOf.sizeOf x ≤ n → StmtC 16 x := by
  intro n
  induction n with
  | zero => intro x h; obtain ⟨a, b, c, l⟩ := x; simp at h
  | succ n ih =>
    intro x h
    refine stmtForm_walk x fun l hl A c w' hc hlc => ?_
    rw [bdB_all]
    exact bodyForm_walk l A c w' hc hlc fun y hy => ih y (st_size hl hy h)
theorem refStmtForm_all : ∀ (n : Nat) (x : S39), SizeOf.sizeOf x ≤ n → StmtC 18 x := by
  intro n
  induction n with
  | zero => intro x h; obtain ⟨a, b, c, l⟩ := x; simp at h
  | succ n ih =>
    intro x h
    refine refStmtForm_walk x fun l hl A c w' hc hlc => ?_
    rw [bdB_all]
    exact stmtsForm_walk l A c w' hc hlc fun y hy => ih y (st_size hl hy h)
theorem bodyForm_calls (l : List S39) : BodyC 11 l := fun A c w' hc hl => by
  rw [bdB_all]; exact bodyForm_walk l A c w' hc hl fun y _ => stmtForm_all _ y (Nat.le_refl _)
theorem stmtsForm_calls (l : List S39) : BodyC 14 l := fun A c w' hc hl => by
  rw [bdB_all]; exact stmtsForm_walk l A c w' hc hl fun y _ => refStmtForm_all _ y (Nat.le_refl _)
end Go.Proofs.Ytnacekhfebjdfaa.L
