import Derived.Test.YtfcahachdpjfoaaRw
namespace Go.Proofs.Ytfcahachdpjfoaa.Pure
open Go.RowKit Go.Proofs.Ytfcahachdpjfoaa.PRunDiffers Go.Proofs.YtfcahachdpjfoaaW.PrintWords Go.Proofs.YtfcahachdpjfoaaW.PrintLast Go.Proofs.YtfcahachdpjfoaaW.PrintMore
set_option linter.unusedVariables false
set_option linter.unusedSimpArgs false

theorem differ_same (a b : List S62) (ha : a.length < 5864062014805) (hb : b.length < 5864062014805) (m : Nat) (hm : m = min a.length b.length) :
    ∀ (d i k : Nat), i + d = m → 2 * d + 3 < k → ∃ r, run_Differ.l0 k a b (m : Int) (m : Int) (i : Int) = some r ∧ cadenceref17_Differ.l0 k a b (i : Int) = some r := by
  intro d
  induction d with
  | zero =>
    intro i k hi hk
    obtain ⟨k, rfl⟩ : ∃ q, k = q + 2 := ⟨k - 2, by omega⟩
    rw [run_Differ.l0, if_neg (by omega), cadenceref17_Differ.l0]
    by_cases e : (a.length : Int) = (b.length : Int)
    · rw [if_pos e, if_neg (by omega), decide_eq_false (by omega), cadenceref17_Differ.j1, if_neg (by decide)]
      exact ⟨_, rfl, rfl⟩
    · rw [if_neg e]
      have hi : i = m := by omega
      subst hi
      refine ⟨((i : Int), true), rfl, ?_⟩
      by_cases c : (i : Int) < (a.length : Int)
      · rw [if_pos c, cadenceref17_Differ.j1, if_pos rfl, if_neg (by omega), if_pos (by omega)]
      · rw [if_neg c, decide_eq_true (by omega), cadenceref17_Differ.j1, if_pos rfl, if_pos (by omega)]
  | succ d ih =>
    intro i k hi hk
    obtain ⟨k, rfl⟩ : ∃ q, k = q + 2 := ⟨k - 2, by omega⟩
    have hw : wrap64 ((i : Int) + 1) = ((i + 1 : Nat) : Int) := by unfold wrap64; omega
    have g1 : (i : Int) < (m : Int) := by omega
    have g2 : 0 ≤ (i : Int) := by omega
    have g3 : (i : Int) < (a.length : Int) := by omega
    have g4 : (i : Int) < (b.length : Int) := by omega
    rw [run_Differ.l0, if_pos g1, if_pos g2, if_pos g3, if_pos g4, cadenceref17_Differ.l0, if_pos g3, cadenceref17_Differ.j1, if_pos rfl, if_neg (show ¬ (i : Int) ≥ (a.length : Int) by omega), if_neg (show ¬ (i : Int) ≥ (b.length : Int) by omega), if_pos g2, if_pos g3, if_pos g4, hw]
    split
    · exact ⟨_, rfl, rfl⟩
    · obtain ⟨r, h1, h2⟩ := ih (i + 1) k (by omega) (by omega)
      have h3 := (run_Differ.mono_l k) a b (m : Int) (m : Int) ((i + 1 : Nat) : Int) r h1
      exact ⟨r, h3, h2⟩

theorem RunDiffers (a b : List S62) (ha : a.length < 5864062014805) (hb : b.length < 5864062014805) : ∃ k, cadencelaw17_RunDiffers.f k a b = some true := by
  obtain ⟨r, h1, h2⟩ := differ_same a b ha hb _ rfl (min a.length b.length) 0 (2 * min a.length b.length + 4) (by omega) (by omega)
  refine ⟨2 * min a.length b.length + 4, ?_⟩
  have hmn : mn (a.length : Int) (b.length : Int) = ((min a.length b.length : Nat) : Int) := by unfold mn; split <;> omega
  unfold cadencelaw17_RunDiffers.f run_Differ.f cadenceref17_Differ.f
  simp only [Option.bind_some, List.nil_append, List.length_nil, Nat.zero_add]
  rw [if_pos ha, if_pos hb, hmn]
  rw [show (0 : Int) = ((0 : Nat) : Int) from rfl, h1, h2]
  simp
end Go.Proofs.Ytfcahachdpjfoaa.Pure
