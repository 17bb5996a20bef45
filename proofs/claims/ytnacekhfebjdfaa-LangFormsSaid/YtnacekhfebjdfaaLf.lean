/- Bodies: joint with statements, by their size. -/
import Derived.Test.YtnacekhfebjdfaaLd0
namespace Go.Proofs.Ytnacekhfebjdfaa.L
open Go.RowKit Go.Proofs.YtnacekhfebjdfaaW.PrintWords Go.Proofs.YtnacekhfebjdfaaW.PrintLast Go.Proofs.YtnacekhfebjdfaaW.PrintMore Go.Proofs.Ytnacekhfebjdfaa.Gr
set_option linter.unusedVariables false
set_option linter.unusedSimpArgs false
attribute [local go_sem] G.cell

/-- What a walk through a statement says. -/
def StmtC (f : FuncId) (x : S39) : Prop := ∀ (A5 : Option Addr) (c5 : Nat) (A9 : Option Addr) (c9 : Nat) (A12 : Option Addr) (c12 : Nat) (A13 : Option Addr) (c13 : Nat) (w : World),
    x.f2.f3.length ≤ c5 → k37.C w A5 x.f2.f3.length x.f2.f3 → x.f3.f3.length ≤ c9 → k37.C w A9 x.f3.f3.length x.f3.f3 → x.f6.length ≤ c12 → k39.C w A12 x.f6.length x.f6 → x.f7.length ≤ c13 → k39.C w A13 x.f7.length x.f7 →
    Calls Try.prog f #[.agg #[.int .i64 x.f0, .string x.f1, .int .i64 x.f2.f0, .int .u64 x.f2.f1, .string x.f2.f2, .slice A5 x.f2.f3.length c5, .int .i64 x.f3.f0, .int .u64 x.f3.f1, .string x.f3.f2, .slice A9 x.f3.f3.length c9, .int .u64 x.f4, .int .u64 x.f5, .slice A12 x.f6.length c12, .slice A13 x.f7.length c13]] w fun e w' => e = .returned (.bool (stB x)) ∧ Below w.heap.size w w'

theorem st_all_has_no {l : List S39} {y : S39} (h : y ∈ l) (hn : stB y = false) : false = l.all stB := by
  symm
  rw [List.all_eq_false]
  exact ⟨y, h, by rw [hn]; decide⟩
theorem st_all_have {l : List S39} (h : ∀ j, j < l.length → stB (rd_T39 l (j : Int)) = true) : true = l.all stB := by
  symm
  rw [List.all_eq_true]
  intro y hy
  obtain ⟨j, hj, rfl⟩ := List.getElem_of_mem hy
  have := h j hj
  unfold rd_T39 at this
  rwa [Int.toNat_natCast, List.getD_eq_getElem?_getD, List.getElem?_eq_getElem hj] at this
theorem rd39_mem {l : List S39} {k : Nat} (hlt : k < l.length) : rd_T39 l (k : Int) ∈ l := by
  unfold rd_T39; rw [Int.toNat_natCast, List.getD_eq_getElem?_getD, List.getElem?_eq_getElem hlt]; exact List.getElem_mem _

theorem G.ball {w : World} (g : G w) (o : Obj) : Below w.heap.size w (g.W.alloc o) := g.below.alloc g.below.size o
theorem call_of_alloc {P : Program} {f : FuncId} {args : Array Value} {w : World} {g : G w} {o : Obj} {v : Value} (h : Calls P f args (g.W.alloc o) fun e w' => e = .returned v ∧ Below (g.W.alloc o).heap.size (g.W.alloc o) w') :
    Calls P f args (g.W.alloc o) fun e w'' => e = .returned v ∧ ∃ g' : G w, w'' = g'.W :=
  h.mono fun _ w' ⟨he, hb⟩ => ⟨he, ⟨⟨w', (G.ball g o).trans (hb.mono (G.ball g o).size)⟩, rfl⟩⟩

set_option maxHeartbeats 4000000 in
set_option maxRecDepth 100000 in
theorem bodyForm_walk (l : List S39) (A : Option Addr) (c : Nat) (w : World) (hc : k39.C w A l.length l) (hl : l.length ≤ c) (ih : ∀ x ∈ l, StmtC 16 x) :
    Calls Try.prog 11 #[.slice A l.length c] w fun e w' => e = .returned (.bool (l.all stB)) ∧ Below w.heap.size w w' := by
  have IH := Aside0.mk ih
  have HC := Aside0.mk hc
  have hlm := hc.2.1
  clear ih hc
  go_enter Try.func11, Try.ntmps11
  go_wp2
  go_loopw [7] (fun i W => ∃ (k : Nat) (g : G w), i = .int .i64 k ∧ W = g.W ∧ k ≤ l.length ∧ Aside0 (∀ j, j < k → stB (rd_T39 l (j : Int)) = true)) (fun i _ => l.length - (intOf i).toNat)
  case atStart => exact ⟨0, ⟨w, Below.refl _ _⟩, rfl, rfl, Nat.zero_le _, ⟨fun j hj => absurd hj (Nat.not_lt_zero _)⟩⟩
  case round =>
    obtain ⟨k, g, rfl, rfl, hk, HK⟩ := hrel
    by_cases hlt : k < l.length
    · obtain ⟨ad, A5, c5, A9, c9, A12, c12, A13, c13, e1, q0, q1, q2, q3, q4, q5, q6, q7, q8, q9, q10, q11, q12, q13, l5, g5, l9, g9, l12, g12, l13, g13⟩ := at_T39 HC.out (k : Int) (Int.natCast_nonneg _) (by omega)
      cases e1
      rw [Int.toNat_natCast] at q0 q1 q2 q3 q4 q5 q6 q7 q8 q9 q10 q11 q12 q13
      replace q0 := (g.below.cell (World.block_lt_of_cell? w _ q0)).trans q0
      replace q1 := (g.below.cell (World.block_lt_of_cell? w _ q1)).trans q1
      replace q2 := (g.below.cell (World.block_lt_of_cell? w _ q2)).trans q2
      replace q3 := (g.below.cell (World.block_lt_of_cell? w _ q3)).trans q3
      replace q4 := (g.below.cell (World.block_lt_of_cell? w _ q4)).trans q4
      replace q5 := (g.below.cell (World.block_lt_of_cell? w _ q5)).trans q5
      replace q6 := (g.below.cell (World.block_lt_of_cell? w _ q6)).trans q6
      replace q7 := (g.below.cell (World.block_lt_of_cell? w _ q7)).trans q7
      replace q8 := (g.below.cell (World.block_lt_of_cell? w _ q8)).trans q8
      replace q9 := (g.below.cell (World.block_lt_of_cell? w _ q9)).trans q9
      replace q10 := (g.below.cell (World.block_lt_of_cell? w _ q10)).trans q10
      replace q11 := (g.below.cell (World.block_lt_of_cell? w _ q11)).trans q11
      replace q12 := (g.below.cell (World.block_lt_of_cell? w _ q12)).trans q12
      replace q13 := (g.below.cell (World.block_lt_of_cell? w _ q13)).trans q13
      have hi1 : (k : Int) < (l.length : Int) := by omega
      have K := Aside0.mk (And.intro l5 (And.intro g5 (And.intro l9 (And.intro g9 (And.intro l12 (And.intro g12 (And.intro l13 g13)))))))
      clear l5 g5 l9 g9 l12 g12 l13 g13
      have MEM := Aside0.mk (rd39_mem hlt)
      rcases bcases (stB (rd_T39 l (k : Int))) with hy | hy
      all_goals
        have HY := Aside0.mk hy
        clear hy
        go_wp2_with fail
        refine (call_of_alloc (IH.out _ MEM.out A5 c5 A9 c9 A12 c12 A13 c13 _ K.out.1 (Kd.C_below K.out.2.1 (G.ball g _)) K.out.2.2.1 (Kd.C_below K.out.2.2.2.1 (G.ball g _)) K.out.2.2.2.2.1 (Kd.C_below K.out.2.2.2.2.2.1 (G.ball g _)) K.out.2.2.2.2.2.2.1 (Kd.C_below K.out.2.2.2.2.2.2.2 (G.ball g _)))).mono ?_
        rw [HY.out]
        rintro _ _ ⟨rfl, gg, rfl⟩
        go_wp2
      · refine ⟨⟨k + 1, gg, by go_num, rfl, by omega, ⟨fun j hj => ?_⟩⟩, by simp [intOf]; omega⟩
        by_cases hj2 : j = k
        · rw [hj2]; exact HY.out
        · exact HK.out j (by omega)
      · go_ret
        exact ⟨ret_bool2 (st_all_has_no MEM.out HY.out), gg.below⟩
    · go_wp2
      go_ret
      exact ⟨ret_bool2 (st_all_have (fun j hj => HK.out j (by omega))), g.below⟩

set_option maxHeartbeats 4000000 in
set_option maxRecDepth 100000 in
theorem stmtsForm_walk (l : List S39) (A : Option Addr) (c : Nat) (w : World) (hc : k39.C w A l.length l) (hl : l.length ≤ c) (ih : ∀ x ∈ l, StmtC 18 x) :
    Calls Try.prog 14 #[.slice A l.length c] w fun e w' => e = .returned (.bool (l.all stB)) ∧ Below w.heap.size w w' := by
  have IH := Aside0.mk ih
  have HC := Aside0.mk hc
  have hlm := hc.2.1
  clear ih hc
  go_enter Try.func14, Try.ntmps14
  go_wp2
  go_loopw [3] (fun i W => ∃ (k : Nat) (g : G w), i = .int .i64 k ∧ W = g.W ∧ k ≤ l.length ∧ Aside0 (∀ j, j < k → stB (rd_T39 l (j : Int)) = true)) (fun i _ => l.length - (intOf i).toNat)
  case atStart => exact ⟨0, ⟨w, Below.refl _ _⟩, rfl, rfl, Nat.zero_le _, ⟨fun j hj => absurd hj (Nat.not_lt_zero _)⟩⟩
  case round =>
    obtain ⟨k, g, rfl, rfl, hk, HK⟩ := hrel
    by_cases hlt : k < l.length
    · obtain ⟨ad, A5, c5, A9, c9, A12, c12, A13, c13, e1, q0, q1, q2, q3, q4, q5, q6, q7, q8, q9, q10, q11, q12, q13, l5, g5, l9, g9, l12, g12, l13, g13⟩ := at_T39 HC.out (k : Int) (Int.natCast_nonneg _) (by omega)
      cases e1
      rw [Int.toNat_natCast] at q0 q1 q2 q3 q4 q5 q6 q7 q8 q9 q10 q11 q12 q13
      replace q0 := (g.below.cell (World.block_lt_of_cell? w _ q0)).trans q0
      replace q1 := (g.below.cell (World.block_lt_of_cell? w _ q1)).trans q1
      replace q2 := (g.below.cell (World.block_lt_of_cell? w _ q2)).trans q2
      replace q3 := (g.below.cell (World.block_lt_of_cell? w _ q3)).trans q3
      replace q4 := (g.below.cell (World.block_lt_of_cell? w _ q4)).trans q4
      replace q5 := (g.below.cell (World.block_lt_of_cell? w _ q5)).trans q5
      replace q6 := (g.below.cell (World.block_lt_of_cell? w _ q6)).trans q6
      replace q7 := (g.below.cell (World.block_lt_of_cell? w _ q7)).trans q7
      replace q8 := (g.below.cell (World.block_lt_of_cell? w _ q8)).trans q8
      replace q9 := (g.below.cell (World.block_lt_of_cell? w _ q9)).trans q9
      replace q10 := (g.below.cell (World.block_lt_of_cell? w _ q10)).trans q10
      replace q11 := (g.below.cell (World.block_lt_of_cell? w _ q11)).trans q11
      replace q12 := (g.below.cell (World.block_lt_of_cell? w _ q12)).trans q12
      replace q13 := (g.below.cell (World.block_lt_of_cell? w _ q13)).trans q13
      have hi1 : (k : Int) < (l.length : Int) := by omega
      have K := Aside0.mk (And.intro l5 (And.intro g5 (And.intro l9 (And.intro g9 (And.intro l12 (And.intro g12 (And.intro l13 g13)))))))
      clear l5 g5 l9 g9 l12 g12 l13 g13
      have MEM := Aside0.mk (rd39_mem hlt)
      rcases bcases (stB (rd_T39 l (k : Int))) with hy | hy
      all_goals
        have HY := Aside0.mk hy
        clear hy
        go_wp2_with fail
        refine (call_of (IH.out _ MEM.out A5 c5 A9 c9 A12 c12 A13 c13 _ K.out.1 (Kd.C_below K.out.2.1 g.below) K.out.2.2.1 (Kd.C_below K.out.2.2.2.1 g.below) K.out.2.2.2.2.1 (Kd.C_below K.out.2.2.2.2.2.1 g.below) K.out.2.2.2.2.2.2.1 (Kd.C_below K.out.2.2.2.2.2.2.2 g.below))).mono ?_
        rw [HY.out]
        rintro _ _ ⟨rfl, gg, rfl⟩
        go_wp2
      · refine ⟨⟨k + 1, gg, by go_num, rfl, by omega, ⟨fun j hj => ?_⟩⟩, by simp [intOf]; omega⟩
        by_cases hj2 : j = k
        · rw [hj2]; exact HY.out
        · exact HK.out j (by omega)
      · go_ret
        exact ⟨ret_bool2 (st_all_has_no MEM.out HY.out), gg.below⟩
    · go_wp2
      go_ret
      exact ⟨ret_bool2 (st_all_have (fun j hj => HK.out j (by omega))), g.below⟩
end Go.Proofs.Ytnacekhfebjdfaa.L
