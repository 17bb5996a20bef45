/- A program is of the form. -/
import Derived.Test.YtnacekhfebjdfaaLg
import Derived.Test.YtnacekhfebjdfaaLh
namespace Go.Proofs.Ytnacekhfebjdfaa.L
open Go.RowKit Go.Proofs.YtnacekhfebjdfaaW.PrintWords Go.Proofs.YtnacekhfebjdfaaW.PrintLast Go.Proofs.YtnacekhfebjdfaaW.PrintMore Go.Proofs.Ytnacekhfebjdfaa.Gr
set_option linter.unusedVariables false
set_option linter.unusedSimpArgs false
attribute [local go_sem] G.cell

def formB (nm : ByteArray) (wd ln : Int) (ds : List S31) (bd : List S39) : Bool := namedB nm && decide (0 ≤ wd) && decide (0 ≤ ln) && (ds.all dcB && bdB bd)
section
variable {nm : ByteArray} {wd ln : Int} {ds : List S31} {bd : List S39}
theorem form_no1 (h : namedB nm = false) : formB nm wd ln ds bd = false := by unfold formB; rw [h]; rfl
theorem form_no2 (h : wd < 0) : formB nm wd ln ds bd = false := by unfold formB; rw [decide_eq_false (show ¬ 0 ≤ wd by omega)]; simp
theorem form_no3 (h : ln < 0) : formB nm wd ln ds bd = false := by unfold formB; rw [decide_eq_false (show ¬ 0 ≤ ln by omega)]; simp
theorem form_yes (h1 : namedB nm = true) (h2 : 0 ≤ wd) (h3 : 0 ≤ ln) : formB nm wd ln ds bd = (ds.all dcB && bdB bd) := by unfold formB; rw [h1, decide_eq_true h2, decide_eq_true h3]; simp
end
theorem dc_all_has_no {l : List S31} {y : S31} (h : y ∈ l) (hn : dcB y = false) : l.all dcB = false := by
  rw [List.all_eq_false]
  exact ⟨y, h, by rw [hn]; decide⟩
theorem rd31_mem {l : List S31} {k : Nat} (hlt : k < l.length) : rd_T31 l (k : Int) ∈ l := by
  unfold rd_T31; rw [Int.toNat_natCast, List.getD_eq_getElem?_getD, List.getElem?_eq_getElem hlt]; exact List.getElem_mem _
theorem dc_all_have {l : List S31} (h : ∀ j, j < l.length → dcB (rd_T31 l (j : Int)) = true) : l.all dcB = true := by
  rw [List.all_eq_true]
  intro y hy
  obtain ⟨j, hj, rfl⟩ := List.getElem_of_mem hy
  have := h j hj
  unfold rd_T31 at this
  rwa [Int.toNat_natCast, List.getD_eq_getElem?_getD, List.getElem?_eq_getElem hj] at this

set_option maxHeartbeats 4000000 in
set_option maxRecDepth 100000 in
theorem Form_walk (nm : ByteArray) (wd ln : Int) (ds : List S31) (bd : List S39) (A3 : Option Addr) (c3 : Nat) (A4 : Option Addr) (c4 : Nat) (w : World) (hd : k31.C w A3 ds.length ds) (hld : ds.length ≤ c3) (hb : k39.C w A4 bd.length bd) (hlb : bd.length ≤ c4) :
    Calls Try.prog 7 #[.agg #[.string nm, .int .i64 wd, .int .i64 ln, .slice A3 ds.length c3, .slice A4 bd.length c4]] w fun e w' => e = .returned (.bool (formB nm wd ln ds bd)) ∧ Below w.heap.size w w' := by
  have gout : ∀ {o : Obj} (g : G (w.alloc o)), Below w.heap.size w g.W := fun g => ((Below.refl _ _).alloc (Nat.le_refl _) _).trans (g.below.mono (by simp))
  have goutA : ∀ {o : Obj} (g : G (w.alloc o)) (o' : Obj), Below w.heap.size w (g.W.alloc o') := fun g o' => (gout g).alloc (gout g).size o'
  have hlm := hd.2.1
  have HD := Aside0.mk hd
  have HB := Aside0.mk hb
  have HLB := Aside0.mk hlb
  clear hd hb hlb
  go_enter Try.func7, Try.ntmps7
  go_upto_region 1 with (fail)
  refine wp_grown ?_
  intro gg
  go_wp2_with fail
  rcases bcases (namedB nm) with h1 | h1
  all_goals
    refine (call_of (g := gg) (named_v h1 gg.W)).mono ?_
    rintro _ _ ⟨rfl, gg, rfl⟩
  · rcases Int.lt_or_le wd 0 with h2 | h2
    · go_wp2_with fail
      go_ret
      exact ⟨ret_bool2 (form_no2 h2).symm, gout _⟩
    rcases Int.lt_or_le ln 0 with h3 | h3
    · have h2' : ¬ wd < 0 := by omega
      go_wp2_with fail
      go_ret
      exact ⟨ret_bool2 (form_no3 h3).symm, gout _⟩
    · have h2' : ¬ wd < 0 := by omega
      have h3' : ¬ ln < 0 := by omega
      have FY := Aside0.mk (form_yes (ds := ds) (bd := bd) h1 h2 h3)
      clear h2 h3
      go_wp2
      clear h1 h2' h3'
      go_loopw [22] (fun i W => ∃ (k : Nat) (g : G (gw gg)), i = .int .i64 k ∧ W = g.W ∧ k ≤ ds.length ∧ Aside0 (∀ j, j < k → dcB (rd_T31 ds (j : Int)) = true)) (fun i _ => ds.length - (intOf i).toNat)
      case atStart => exact ⟨0, gg, rfl, rfl, Nat.zero_le _, ⟨fun j hj => absurd hj (Nat.not_lt_zero _)⟩⟩
      case round =>
        obtain ⟨k, g, rfl, rfl, hk, HK⟩ := hrel
        by_cases hlt : k < ds.length
        · obtain ⟨ad, A3', c3', e1, q0, q1, q2, q3, l3, g3⟩ := at_T31 HD.out (k : Int) (Int.natCast_nonneg _) (by omega)
          cases e1
          rw [Int.toNat_natCast] at q0 q1 q2 q3
          replace q0 := ((gout g).cell (World.block_lt_of_cell? w _ q0)).trans q0
          replace q1 := ((gout g).cell (World.block_lt_of_cell? w _ q1)).trans q1
          replace q2 := ((gout g).cell (World.block_lt_of_cell? w _ q2)).trans q2
          replace q3 := ((gout g).cell (World.block_lt_of_cell? w _ q3)).trans q3
          have hi1 : (k : Int) < (ds.length : Int) := by omega
          have MEM := Aside0.mk (rd31_mem hlt)
          rcases bcases (dcB (rd_T31 ds (k : Int))) with hy | hy
          all_goals
            have HY := Aside0.mk hy
            clear hy
            go_wp2_with fail
            refine (call_of_alloc (g := g) (declForm_calls (rd_T31 ds (k : Int)) A3' c3' _)).mono ?_
            rw [HY.out]
            rintro _ _ ⟨rfl, gg, rfl⟩
            go_wp2
          · refine ⟨⟨k + 1, gg, by go_num, rfl, by omega, ⟨fun j hj => ?_⟩⟩, by simp [intOf]; omega⟩
            by_cases hj2 : j = k
            · rw [hj2]; exact HY.out
            · exact HK.out j (by omega)
          · go_ret
            exact ⟨ret_bool2 (by rw [FY.out, dc_all_has_no MEM.out HY.out]; rfl), gout _⟩
        · have hall := Aside0.mk (dc_all_have (fun j hj => HK.out j (by omega)))
          clear HK
          go_wp2_with fail
          refine (call_of (g := g) (bodyForm_calls bd A4 c4 _ (Kd.C_below HB.out (gout g)) HLB.out)).mono ?_
          rintro _ _ ⟨rfl, gg, rfl⟩
          go_wp2
          go_ret
          exact ⟨ret_bool2 (by rw [FY.out, hall.out]; rfl), gout _⟩
  · go_wp2_with fail
    go_ret
    exact ⟨ret_bool2 (form_no1 h1).symm, gout _⟩
set_option maxHeartbeats 4000000 in
set_option maxRecDepth 100000 in
theorem refForm_walk (nm : ByteArray) (wd ln : Int) (ds : List S31) (bd : List S39) (A3 : Option Addr) (c3 : Nat) (A4 : Option Addr) (c4 : Nat) (w : World) (hd : k31.C w A3 ds.length ds) (hld : ds.length ≤ c3) (hb : k39.C w A4 bd.length bd) (hlb : bd.length ≤ c4) :
    Calls Try.prog 8 #[.agg #[.string nm, .int .i64 wd, .int .i64 ln, .slice A3 ds.length c3, .slice A4 bd.length c4]] w fun e w' => e = .returned (.bool (formB nm wd ln ds bd)) ∧ Below w.heap.size w w' := by
  have gout : ∀ {o : Obj} (g : G (w.alloc o)), Below w.heap.size w g.W := fun g => ((Below.refl _ _).alloc (Nat.le_refl _) _).trans (g.below.mono (by simp))
  have goutA : ∀ {o : Obj} (g : G (w.alloc o)) (o' : Obj), Below w.heap.size w (g.W.alloc o') := fun g o' => (gout g).alloc (gout g).size o'
  have hlm := hd.2.1
  have HD := Aside0.mk hd
  have HB := Aside0.mk hb
  have HLB := Aside0.mk hlb
  clear hd hb hlb
  go_enter Try.func8, Try.ntmps8
  go_upto_region 1 with (fail)
  refine wp_grown ?_
  intro gg
  go_wp2_with fail
  rcases bcases (namedB nm) with h1 | h1
  all_goals
    refine (call_of (g := gg) (refName_v h1 gg.W)).mono ?_
    rintro _ _ ⟨rfl, gg, rfl⟩
  · rcases Int.lt_or_le wd 0 with h2 | h2
    · go_wp2_with fail
      go_ret
      exact ⟨ret_bool2 (form_no2 h2).symm, gout _⟩
    rcases Int.lt_or_le ln 0 with h3 | h3
    · have h2' : ¬ wd < 0 := by omega
      go_wp2_with fail
      go_ret
      exact ⟨ret_bool2 (form_no3 h3).symm, gout _⟩
    · have h2' : ¬ wd < 0 := by omega
      have h3' : ¬ ln < 0 := by omega
      have FY := Aside0.mk (form_yes (ds := ds) (bd := bd) h1 h2 h3)
      clear h2 h3
      go_wp2
      clear h1 h2' h3'
      go_loopw [3] (fun i W => ∃ (k : Nat) (g : G (gw gg)), i = .int .i64 k ∧ W = g.W ∧ k ≤ ds.length ∧ Aside0 (∀ j, j < k → dcB (rd_T31 ds (j : Int)) = true)) (fun i _ => ds.length - (intOf i).toNat)
      case atStart => exact ⟨0, gg, rfl, rfl, Nat.zero_le _, ⟨fun j hj => absurd hj (Nat.not_lt_zero _)⟩⟩
      case round =>
        obtain ⟨k, g, rfl, rfl, hk, HK⟩ := hrel
        by_cases hlt : k < ds.length
        · obtain ⟨ad, A3', c3', e1, q0, q1, q2, q3, l3, g3⟩ := at_T31 HD.out (k : Int) (Int.natCast_nonneg _) (by omega)
          cases e1
          rw [Int.toNat_natCast] at q0 q1 q2 q3
          replace q0 := ((gout g).cell (World.block_lt_of_cell? w _ q0)).trans q0
          replace q1 := ((gout g).cell (World.block_lt_of_cell? w _ q1)).trans q1
          replace q2 := ((gout g).cell (World.block_lt_of_cell? w _ q2)).trans q2
          replace q3 := ((gout g).cell (World.block_lt_of_cell? w _ q3)).trans q3
          have hi1 : (k : Int) < (ds.length : Int) := by omega
          have MEM := Aside0.mk (rd31_mem hlt)
          rcases bcases (dcB (rd_T31 ds (k : Int))) with hy | hy
          all_goals
            have HY := Aside0.mk hy
            clear hy
            go_wp2_with fail
            refine (call_of (g := g) (refDeclForm_calls (rd_T31 ds (k : Int)) A3' c3' _)).mono ?_
            rw [HY.out]
            rintro _ _ ⟨rfl, gg, rfl⟩
            go_wp2
          · refine ⟨⟨k + 1, gg, by go_num, rfl, by omega, ⟨fun j hj => ?_⟩⟩, by simp [intOf]; omega⟩
            by_cases hj2 : j = k
            · rw [hj2]; exact HY.out
            · exact HK.out j (by omega)
          · go_ret
            exact ⟨ret_bool2 (by rw [FY.out, dc_all_has_no MEM.out HY.out]; rfl), gout _⟩
        · have hall := Aside0.mk (dc_all_have (fun j hj => HK.out j (by omega)))
          clear HK
          go_wp2_with fail
          refine (call_of (g := g) (stmtsForm_calls bd A4 c4 _ (Kd.C_below HB.out (gout g)) HLB.out)).mono ?_
          rintro _ _ ⟨rfl, gg, rfl⟩
          go_wp2
          go_ret
          exact ⟨ret_bool2 (by rw [FY.out, hall.out]; rfl), gout _⟩
  · go_wp2_with fail
    go_ret
    exact ⟨ret_bool2 (form_no1 h1).symm, gout _⟩

set_option maxHeartbeats 4000000 in
set_option maxRecDepth 100000 in
theorem law_walk (nm : ByteArray) (wd ln : Int) (ds : List S31) (bd : List S39) (A3 : Option Addr) (c3 : Nat) (A4 : Option Addr) (c4 : Nat) (w : World) (hd : k31.C w A3 ds.length ds) (hld : ds.length ≤ c3) (hb : k39.C w A4 bd.length bd) (hlb : bd.length ≤ c4) :
    Calls Try.prog 4 #[.agg #[.string nm, .int .i64 wd, .int .i64 ln, .slice A3 ds.length c3, .slice A4 bd.length c4]] w fun e w' => e = .returned (.bool true) ∧ Below w.heap.size w w' := by
  have gout : ∀ {o : Obj} (g : G (w.alloc o)), Below w.heap.size w g.W := fun g => ((Below.refl _ _).alloc (Nat.le_refl _) _).trans (g.below.mono (by simp))
  have HD := Aside0.mk hd
  have HB := Aside0.mk hb
  clear hd hb
  go_enter Try.func4, Try.ntmps4
  go_upto_region 1 with (fail)
  refine wp_region_grown (by kernel_rfl) (by kernel_rfl) ?_
  repeat (go_big_quiet_step (first | (go_at_call 7; exact call_of (Form_walk nm wd ln ds bd A3 c3 A4 c4 _ (Kd.C_below HD.out (gout _)) hld (Kd.C_below HB.out (gout _)) hlb)) | (go_at_call 8; exact call_of (refForm_walk nm wd ln ds bd A3 c3 A4 c4 _ (Kd.C_below HD.out (gout _)) hld (Kd.C_below HB.out (gout _)) hlb))))
  refine wpQuiet_nil ?_
  rintro _ ⟨g, rfl⟩
  go_wp2
  go_ret
  exact ⟨ret_bool2 (by simp), gout _⟩
end Go.Proofs.Ytnacekhfebjdfaa.L
