/- A statement's tree is of the form: the walk; printed by wip's st.py. -/
import Derived.Test.YtnacekhfebjdfaaLd0
namespace Go.Proofs.Ytnacekhfebjdfaa.L
open Go.RowKit Go.Proofs.YtnacekhfebjdfaaW.PrintWords Go.Proofs.YtnacekhfebjdfaaW.PrintLast Go.Proofs.YtnacekhfebjdfaaW.PrintMore Go.Proofs.Ytnacekhfebjdfaa.Gr
set_option linter.unusedVariables false
set_option linter.unusedSimpArgs false
attribute [local go_sem] G.cell
set_option maxHeartbeats 1500000 in
set_option maxRecDepth 100000 in
theorem refStmtForm_klt (a : Int) (h1 : a < 1) (b : ByteArray) (cc d : S37) (e f : Int) (g hh : List S39) {A5 : Option Addr} {c5 : Nat} {A9 : Option Addr} {c9 : Nat} {A12 : Option Addr} {c12 : Nat} {A13 : Option Addr} {c13 : Nat} (w : World)
    (L : Aside0 (cc.f3.length ≤ c5 ∧ d.f3.length ≤ c9 ∧ g.length ≤ c12 ∧ hh.length ≤ c13)) (H : Aside0 (k37.C w A5 cc.f3.length cc.f3 ∧ k37.C w A9 d.f3.length d.f3 ∧ k39.C w A12 g.length g ∧ k39.C w A13 hh.length hh))
    (IH : Aside0 (∀ l, l = g ∨ l = hh → BodyC 14 l)) :
    Calls Try.prog 18 #[.agg #[.int .i64 a, .string b, .int .i64 cc.f0, .int .u64 cc.f1, .string cc.f2, .slice A5 cc.f3.length c5, .int .i64 d.f0, .int .u64 d.f1, .string d.f2, .slice A9 d.f3.length c9, .int .u64 e, .int .u64 f, .slice A12 g.length c12, .slice A13 hh.length c13]] w fun e' w' => e' = .returned (.bool (stOwn ⟨a, b, cc, d, e, f, g, hh⟩ && bdB g && bdB hh)) ∧ Below w.heap.size w w' := by
  have gout : ∀ {o : Obj} (g : G (w.alloc o)), Below w.heap.size w g.W := fun g => ((Below.refl _ _).alloc (Nat.le_refl _) _).trans (g.below.mono (by simp))
  have h0 : stOwn ⟨a, b, cc, d, e, f, g, hh⟩ = false := by simp [stOwn]; omega
  rw [h0]
  have e2 : (a == 2) = false := by simp; omega
  have e3 : (a == 3) = false := by simp; omega
  have e4 : (a == 4) = false := by simp; omega
  clear h0
  go_enter Try.func18, Try.ntmps18
  go_upto_region 1 with (fail)
  refine wp_grown ?_
  intro gg
  go_wp2_with fail
  go_ret
  exact ⟨ret_bool2 (by simp), gout _⟩
end Go.Proofs.Ytnacekhfebjdfaa.L
