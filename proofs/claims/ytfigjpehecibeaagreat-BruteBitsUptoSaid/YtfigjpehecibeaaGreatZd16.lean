/- Texts joined by a program of mine: Uj Uk. -/
import Derived.Test.YtfigjpehecibeaaGreatZd15
section
namespace Go.Proofs.YtfigjpehecibeaaGreat.L
open Go.RowKit Go.Proofs.YtfigjpehecibeaaGreatW.PrintWords Go.Proofs.YtfigjpehecibeaaGreatW.PrintLast Go.Proofs.YtfigjpehecibeaaGreatW.PrintMore Go.Proofs.YtfigjpehecibeaaGreat.Gr
set_option linter.unusedVariables false
set_option linter.unusedSimpArgs false
attribute [local go_sem] G.cell
theorem ret_pb {a c : Int} {b d : Bool} (h1 : a = c) (h2 : b = d) : Ending.returned (.tuple #[.int .i64 a, .bool b]) = .returned (.tuple #[.int .i64 c, .bool d]) := by rw [h1, h2]
set_option maxHeartbeats 1000000 in
set_option maxRecDepth 100000 in
theorem things1_calls {R : Th → Prop} {f : Th → Bool} (nm : ByteArray) (wd ln : Int) (ds : List S70) (bd : List S119) (A3 : Option Addr) (c3 : Nat) (A4 : Option Addr) (c4 : Nat) (b1 : Nat) (W : World) (hp : ProgAt W ds bd A3 c3 A4 c4) (hform : bdB bd = true) (hdl : ds.length ≤ 1048576) (hbb : Ot.bulkTs bd ≤ 1048576) (hR : ∀ t ∈ things ds bd, R t)
    (hW : ∀ X b2, Below W.heap.size W X → X.heap[b2]? = some (.cells #[.string nm, .int .i64 wd, .int .i64 ln, .slice A3 ds.length c3, .slice A4 bd.length c4] 25 (0, 0)) → WrongOK X (.pointer (some ⟨b1, 0, none⟩)) (.pointer (some ⟨b2, 0, none⟩)) R f) (r : Int × Bool) (hr : r = firstS f (things ds bd)) :
    Calls Tryz.prog 249 #[.agg #[.string nm, .int .i64 wd, .int .i64 ln, .slice A3 ds.length c3, .slice A4 bd.length c4], .pointer (some ⟨b1, 0, none⟩)] W fun e w' => e = .returned (.tuple #[.int .i64 r.1, .bool r.2]) ∧ Below W.heap.size W w' := by
  have hmf : ∀ (fn : Fn) (first cap : Array Value) (w : World), (Instr.makeFunc fn first cap).run Tryz.prog w = .ok (.func fn first cap) w := fun _ _ _ _ => rfl
  have gout : ∀ {o : Obj} (g : G (W.alloc o)), Below W.heap.size W g.W := fun g => ((Below.refl _ _).alloc (Nat.le_refl _) _).trans (g.below.mono (by simp))
  have HP := Aside0.mk hp
  have HR := Aside0.mk hr
  have HZ := Aside0.mk (And.intro hform (And.intro hdl (And.intro hbb hR)))
  have HW := Aside0.mk hW
  clear hp hr hform hdl hbb hR hW
  go_enter Tryz.func249, Tryz.ntmps249
  go_upto_region 1 with (fail)
  refine wp_grown0 ?_
  intro gg
  have HBX := Aside0.mk (show gg.W.heap[W.heap.size]? = some (.cells #[.string nm, .int .i64 wd, .int .i64 ln, .slice A3 ds.length c3, .slice A4 bd.length c4] 25 (0, 0)) from blk_below (blk_new _ _) gg.below)
  go_wp2_with fail
  have F := first_calls (HW.out gg.W W.heap.size (gout gg) HBX.out) nm wd ln ds bd A3 c3 A4 c4 gg.W (HP.out.below (gout gg)) HZ.out.1 HZ.out.2.1 HZ.out.2.2.1 HZ.out.2.2.2 (Below.refl _ _)
  rw [← HR.out] at F
  refine (call_of (g := gg) F).mono ?_
  clear F
  rintro _ _ ⟨rfl, gg, rfl⟩
  go_wp2_with fail
  go_ret2
  exact ⟨rfl, gout _⟩
set_option maxHeartbeats 1000000 in
set_option maxRecDepth 100000 in
theorem whole44_calls (nm : ByteArray) (wd ln : Int) (ds : List S70) (bd : List S119) (A3 : Option Addr) (c3 : Nat) (A4 : Option Addr) (c4 : Nat) (b1 : Nat) (W : World) (hb1 : W.heap[b1]? = some (.cells #[.func (.func 75) #[] #[]] 33 (0, 0))) (b : Bool)
    (hc : ∀ X, Below W.heap.size W X → Calls Tryz.prog 75 #[.agg #[.string nm, .int .i64 wd, .int .i64 ln, .slice A3 ds.length c3, .slice A4 bd.length c4]] X fun e w' => e = .returned (.bool b) ∧ Below X.heap.size X w') :
    Calls Tryz.prog 246 #[.agg #[.string nm, .int .i64 wd, .int .i64 ln, .slice A3 ds.length c3, .slice A4 bd.length c4], .pointer (some ⟨b1, 0, none⟩)] W fun e w' => e = .returned (.tuple #[.int .i64 (-1), .bool (!b)]) ∧ Below W.heap.size W w' := by
  have gout : ∀ {o : Obj} (g : G (W.alloc o)), Below W.heap.size W g.W := fun g => ((Below.refl _ _).alloc (Nat.le_refl _) _).trans (g.below.mono (by simp))
  have HC := Aside0.mk hc
  have l1 := blk_lt hb1
  have y0 : W.cell? ⟨b1, 0, none⟩ = some (.func (.func 75) #[] #[]) := (blk_cell hb1 0).trans rfl
  clear hc hb1
  go_enter Tryz.func246, Tryz.ntmps246
  go_upto_region 1 with (fail)
  refine wp_grown0 ?_
  intro gg
  go_wp2_with fail
  refine (call_of (g := gg) (HC.out gg.W (gout gg))).mono ?_
  rintro _ _ ⟨rfl, gg, rfl⟩
  go_wp2_with fail
  go_ret2
  exact ⟨rfl, gout _⟩
set_option maxHeartbeats 1000000 in
set_option maxRecDepth 100000 in
theorem whole45_calls (nm : ByteArray) (wd ln : Int) (ds : List S70) (bd : List S119) (A3 : Option Addr) (c3 : Nat) (A4 : Option Addr) (c4 : Nat) (b1 : Nat) (W : World) (hb1 : W.heap[b1]? = some (.cells #[.func (.func 175) #[] #[]] 33 (0, 0))) (b : Bool)
    (hc : ∀ X, Below W.heap.size W X → Calls Tryz.prog 175 #[.agg #[.string nm, .int .i64 wd, .int .i64 ln, .slice A3 ds.length c3, .slice A4 bd.length c4]] X fun e w' => e = .returned (.bool b) ∧ Below X.heap.size X w') :
    Calls Tryz.prog 246 #[.agg #[.string nm, .int .i64 wd, .int .i64 ln, .slice A3 ds.length c3, .slice A4 bd.length c4], .pointer (some ⟨b1, 0, none⟩)] W fun e w' => e = .returned (.tuple #[.int .i64 (-1), .bool (!b)]) ∧ Below W.heap.size W w' := by
  have gout : ∀ {o : Obj} (g : G (W.alloc o)), Below W.heap.size W g.W := fun g => ((Below.refl _ _).alloc (Nat.le_refl _) _).trans (g.below.mono (by simp))
  have HC := Aside0.mk hc
  have l1 := blk_lt hb1
  have y0 : W.cell? ⟨b1, 0, none⟩ = some (.func (.func 175) #[] #[]) := (blk_cell hb1 0).trans rfl
  clear hc hb1
  go_enter Tryz.func246, Tryz.ntmps246
  go_upto_region 1 with (fail)
  refine wp_grown0 ?_
  intro gg
  go_wp2_with fail
  refine (call_of (g := gg) (HC.out gg.W (gout gg))).mono ?_
  rintro _ _ ⟨rfl, gg, rfl⟩
  go_wp2_with fail
  go_ret2
  exact ⟨rfl, gout _⟩
set_option maxHeartbeats 1000000 in
set_option maxRecDepth 100000 in
theorem whole47_calls (nm : ByteArray) (wd ln : Int) (ds : List S70) (bd : List S119) (A3 : Option Addr) (c3 : Nat) (A4 : Option Addr) (c4 : Nat) (b1 : Nat) (W : World) (hb1 : W.heap[b1]? = some (.cells #[.func (.func 177) #[] #[]] 33 (0, 0))) (b : Bool)
    (hc : ∀ X, Below W.heap.size W X → Calls Tryz.prog 177 #[.agg #[.string nm, .int .i64 wd, .int .i64 ln, .slice A3 ds.length c3, .slice A4 bd.length c4]] X fun e w' => e = .returned (.bool b) ∧ Below X.heap.size X w') :
    Calls Tryz.prog 246 #[.agg #[.string nm, .int .i64 wd, .int .i64 ln, .slice A3 ds.length c3, .slice A4 bd.length c4], .pointer (some ⟨b1, 0, none⟩)] W fun e w' => e = .returned (.tuple #[.int .i64 (-1), .bool (!b)]) ∧ Below W.heap.size W w' := by
  have gout : ∀ {o : Obj} (g : G (W.alloc o)), Below W.heap.size W g.W := fun g => ((Below.refl _ _).alloc (Nat.le_refl _) _).trans (g.below.mono (by simp))
  have HC := Aside0.mk hc
  have l1 := blk_lt hb1
  have y0 : W.cell? ⟨b1, 0, none⟩ = some (.func (.func 177) #[] #[]) := (blk_cell hb1 0).trans rfl
  clear hc hb1
  go_enter Tryz.func246, Tryz.ntmps246
  go_upto_region 1 with (fail)
  refine wp_grown0 ?_
  intro gg
  go_wp2_with fail
  refine (call_of (g := gg) (HC.out gg.W (gout gg))).mono ?_
  rintro _ _ ⟨rfl, gg, rfl⟩
  go_wp2_with fail
  go_ret2
  exact ⟨rfl, gout _⟩
set_option maxHeartbeats 1000000 in
set_option maxRecDepth 100000 in
theorem whole48_calls (nm : ByteArray) (wd ln : Int) (ds : List S70) (bd : List S119) (A3 : Option Addr) (c3 : Nat) (A4 : Option Addr) (c4 : Nat) (b1 : Nat) (W : World) (hb1 : W.heap[b1]? = some (.cells #[.func (.func 178) #[] #[]] 33 (0, 0))) (b : Bool)
    (hc : ∀ X, Below W.heap.size W X → Calls Tryz.prog 178 #[.agg #[.string nm, .int .i64 wd, .int .i64 ln, .slice A3 ds.length c3, .slice A4 bd.length c4]] X fun e w' => e = .returned (.bool b) ∧ Below X.heap.size X w') :
    Calls Tryz.prog 246 #[.agg #[.string nm, .int .i64 wd, .int .i64 ln, .slice A3 ds.length c3, .slice A4 bd.length c4], .pointer (some ⟨b1, 0, none⟩)] W fun e w' => e = .returned (.tuple #[.int .i64 (-1), .bool (!b)]) ∧ Below W.heap.size W w' := by
  have gout : ∀ {o : Obj} (g : G (W.alloc o)), Below W.heap.size W g.W := fun g => ((Below.refl _ _).alloc (Nat.le_refl _) _).trans (g.below.mono (by simp))
  have HC := Aside0.mk hc
  have l1 := blk_lt hb1
  have y0 : W.cell? ⟨b1, 0, none⟩ = some (.func (.func 178) #[] #[]) := (blk_cell hb1 0).trans rfl
  clear hc hb1
  go_enter Tryz.func246, Tryz.ntmps246
  go_upto_region 1 with (fail)
  refine wp_grown0 ?_
  intro gg
  go_wp2_with fail
  refine (call_of (g := gg) (HC.out gg.W (gout gg))).mono ?_
  rintro _ _ ⟨rfl, gg, rfl⟩
  go_wp2_with fail
  go_ret2
  exact ⟨rfl, gout _⟩
set_option maxHeartbeats 1000000 in
set_option maxRecDepth 100000 in
theorem whole58_calls (nm : ByteArray) (wd ln : Int) (ds : List S70) (bd : List S119) (A3 : Option Addr) (c3 : Nat) (A4 : Option Addr) (c4 : Nat) (b1 : Nat) (W : World) (hb1 : W.heap[b1]? = some (.cells #[.func (.func 188) #[] #[]] 33 (0, 0))) (b : Bool)
    (hc : ∀ X, Below W.heap.size W X → Calls Tryz.prog 188 #[.agg #[.string nm, .int .i64 wd, .int .i64 ln, .slice A3 ds.length c3, .slice A4 bd.length c4]] X fun e w' => e = .returned (.bool b) ∧ Below X.heap.size X w') :
    Calls Tryz.prog 246 #[.agg #[.string nm, .int .i64 wd, .int .i64 ln, .slice A3 ds.length c3, .slice A4 bd.length c4], .pointer (some ⟨b1, 0, none⟩)] W fun e w' => e = .returned (.tuple #[.int .i64 (-1), .bool (!b)]) ∧ Below W.heap.size W w' := by
  have gout : ∀ {o : Obj} (g : G (W.alloc o)), Below W.heap.size W g.W := fun g => ((Below.refl _ _).alloc (Nat.le_refl _) _).trans (g.below.mono (by simp))
  have HC := Aside0.mk hc
  have l1 := blk_lt hb1
  have y0 : W.cell? ⟨b1, 0, none⟩ = some (.func (.func 188) #[] #[]) := (blk_cell hb1 0).trans rfl
  clear hc hb1
  go_enter Tryz.func246, Tryz.ntmps246
  go_upto_region 1 with (fail)
  refine wp_grown0 ?_
  intro gg
  go_wp2_with fail
  refine (call_of (g := gg) (HC.out gg.W (gout gg))).mono ?_
  rintro _ _ ⟨rfl, gg, rfl⟩
  go_wp2_with fail
  go_ret2
  exact ⟨rfl, gout _⟩
set_option maxHeartbeats 1000000 in
set_option maxRecDepth 100000 in
theorem whole71_calls (nm : ByteArray) (wd ln : Int) (ds : List S70) (bd : List S119) (A3 : Option Addr) (c3 : Nat) (A4 : Option Addr) (c4 : Nat) (b1 : Nat) (W : World) (hb1 : W.heap[b1]? = some (.cells #[.func (.func 201) #[] #[]] 33 (0, 0))) (b : Bool)
    (hc : ∀ X, Below W.heap.size W X → Calls Tryz.prog 201 #[.agg #[.string nm, .int .i64 wd, .int .i64 ln, .slice A3 ds.length c3, .slice A4 bd.length c4]] X fun e w' => e = .returned (.bool b) ∧ Below X.heap.size X w') :
    Calls Tryz.prog 246 #[.agg #[.string nm, .int .i64 wd, .int .i64 ln, .slice A3 ds.length c3, .slice A4 bd.length c4], .pointer (some ⟨b1, 0, none⟩)] W fun e w' => e = .returned (.tuple #[.int .i64 (-1), .bool (!b)]) ∧ Below W.heap.size W w' := by
  have gout : ∀ {o : Obj} (g : G (W.alloc o)), Below W.heap.size W g.W := fun g => ((Below.refl _ _).alloc (Nat.le_refl _) _).trans (g.below.mono (by simp))
  have HC := Aside0.mk hc
  have l1 := blk_lt hb1
  have y0 : W.cell? ⟨b1, 0, none⟩ = some (.func (.func 201) #[] #[]) := (blk_cell hb1 0).trans rfl
  clear hc hb1
  go_enter Tryz.func246, Tryz.ntmps246
  go_upto_region 1 with (fail)
  refine wp_grown0 ?_
  intro gg
  go_wp2_with fail
  refine (call_of (g := gg) (HC.out gg.W (gout gg))).mono ?_
  rintro _ _ ⟨rfl, gg, rfl⟩
  go_wp2_with fail
  go_ret2
  exact ⟨rfl, gout _⟩
end Go.Proofs.YtfigjpehecibeaaGreat.L
end
section
namespace Go.Proofs.YtfigjpehecibeaaGreat.L
open Go.RowKit Go.Proofs.YtfigjpehecibeaaGreatW.PrintWords Go.Proofs.YtfigjpehecibeaaGreatW.PrintLast Go.Proofs.YtfigjpehecibeaaGreatW.PrintMore Go.Proofs.YtfigjpehecibeaaGreat.Gr
set_option linter.unusedVariables false
set_option linter.unusedSimpArgs false
attribute [local go_sem] G.cell
def firstD (f : Nat → Bool) (n : Nat) : Int × Bool := match firstN n f with
  | some i => ((i : Int), true)
  | none => (0, false)
set_option maxHeartbeats 1000000 in
set_option maxRecDepth 100000 in
theorem decls50_calls (nm : ByteArray) (wd ln : Int) (ds : List S70) (bd : List S119) (A3 : Option Addr) (c3 : Nat) (A4 : Option Addr) (c4 : Nat) (b1 : Nat) (W : World) (hlm : ds.length ≤ 1048576) (hb1 : W.heap[b1]? = some (.cells #[.func (.func 180) #[] #[]] 55 (0, 0))) (f : Nat → Bool)
    (hc : ∀ X i, Below W.heap.size W X → i < ds.length → Calls Tryz.prog 180 #[.agg #[.string nm, .int .i64 wd, .int .i64 ln, .slice A3 ds.length c3, .slice A4 bd.length c4], .int .i64 (i : Int)] X fun e w' => e = .returned (.bool (f i)) ∧ Below X.heap.size X w') (r : Int × Bool) (hr : r = firstD f ds.length) :
    Calls Tryz.prog 247 #[.agg #[.string nm, .int .i64 wd, .int .i64 ln, .slice A3 ds.length c3, .slice A4 bd.length c4], .pointer (some ⟨b1, 0, none⟩)] W fun e w' => e = .returned (.tuple #[.int .i64 r.1, .bool r.2]) ∧ Below W.heap.size W w' := by
  have gout : ∀ {o : Obj} (g : G (W.alloc o)), Below W.heap.size W g.W := fun g => ((Below.refl _ _).alloc (Nat.le_refl _) _).trans (g.below.mono (by simp))
  have HC := Aside0.mk hc
  have HR := Aside0.mk hr
  have l1 := blk_lt hb1
  have y0 : W.cell? ⟨b1, 0, none⟩ = some (.func (.func 180) #[] #[]) := (blk_cell hb1 0).trans rfl
  clear hc hb1 hr
  go_enter Tryz.func247, Tryz.ntmps247
  go_upto_region 1 with (fail)
  refine wp_grown0 ?_
  intro gg
  have goutW : ∀ (g : G (gw0 gg)), Below W.heap.size W g.W := fun g => gout g
  go_wp2_with fail
  go_loopw [9] (fun i X => ∃ (k : Nat) (g : G (gw0 gg)), i = .int .i64 k ∧ X = g.W ∧ k ≤ ds.length ∧ Aside0 (∀ j, j < k → f j = false)) (fun i _ => ds.length - (intOf i).toNat)
  case atStart => exact ⟨0, gg, rfl, rfl, Nat.zero_le _, ⟨fun j hj => absurd hj (Nat.not_lt_zero _)⟩⟩
  case round =>
    obtain ⟨k, gx, rfl, rfl, hk, HK⟩ := hrel
    by_cases hlt : k < ds.length
    · have hk1 : (k : Int) < (ds.length : Int) := by omega
      go_wp2_with fail
      refine (call_of (g := gx) (HC.out gx.W k (goutW gx) hlt)).mono ?_
      rintro _ _ ⟨rfl, g2, rfl⟩
      cases hf : f k
      · have HF := Aside0.mk hf
        clear hf
        go_wp2_with fail
        exact ⟨⟨k + 1, g2, by go_num, rfl, by omega, ⟨fun j hj => (Decidable.em (j = k)).elim (fun h => h ▸ HF.out) (fun h => HK.out j (by omega))⟩⟩, by simp [intOf]; omega⟩
      · have HF := Aside0.mk hf
        clear hf
        go_wp2_with fail
        go_ret2
        have e : r = ((k : Int), true) := by rw [HR.out]; unfold firstD; rw [firstN_some hlt HF.out HK.out]
        exact ⟨ret_pb (by rw [e]) (by rw [e]), goutW _⟩
    · have hk1 : ¬ (k : Int) < (ds.length : Int) := by omega
      go_wp2_with fail
      go_ret2
      have e : r = (0, false) := by rw [HR.out]; unfold firstD; rw [firstN_none fun j hj => HK.out j (by omega)]
      exact ⟨ret_pb (by rw [e]) (by rw [e]), goutW _⟩
set_option maxHeartbeats 1000000 in
set_option maxRecDepth 100000 in
theorem decls52_calls (nm : ByteArray) (wd ln : Int) (ds : List S70) (bd : List S119) (A3 : Option Addr) (c3 : Nat) (A4 : Option Addr) (c4 : Nat) (b1 : Nat) (W : World) (hlm : ds.length ≤ 1048576) (hb1 : W.heap[b1]? = some (.cells #[.func (.func 182) #[] #[]] 55 (0, 0))) (f : Nat → Bool)
    (hc : ∀ X i, Below W.heap.size W X → i < ds.length → Calls Tryz.prog 182 #[.agg #[.string nm, .int .i64 wd, .int .i64 ln, .slice A3 ds.length c3, .slice A4 bd.length c4], .int .i64 (i : Int)] X fun e w' => e = .returned (.bool (f i)) ∧ Below X.heap.size X w') (r : Int × Bool) (hr : r = firstD f ds.length) :
    Calls Tryz.prog 247 #[.agg #[.string nm, .int .i64 wd, .int .i64 ln, .slice A3 ds.length c3, .slice A4 bd.length c4], .pointer (some ⟨b1, 0, none⟩)] W fun e w' => e = .returned (.tuple #[.int .i64 r.1, .bool r.2]) ∧ Below W.heap.size W w' := by
  have gout : ∀ {o : Obj} (g : G (W.alloc o)), Below W.heap.size W g.W := fun g => ((Below.refl _ _).alloc (Nat.le_refl _) _).trans (g.below.mono (by simp))
  have HC := Aside0.mk hc
  have HR := Aside0.mk hr
  have l1 := blk_lt hb1
  have y0 : W.cell? ⟨b1, 0, none⟩ = some (.func (.func 182) #[] #[]) := (blk_cell hb1 0).trans rfl
  clear hc hb1 hr
  go_enter Tryz.func247, Tryz.ntmps247
  go_upto_region 1 with (fail)
  refine wp_grown0 ?_
  intro gg
  have goutW : ∀ (g : G (gw0 gg)), Below W.heap.size W g.W := fun g => gout g
  go_wp2_with fail
  go_loopw [9] (fun i X => ∃ (k : Nat) (g : G (gw0 gg)), i = .int .i64 k ∧ X = g.W ∧ k ≤ ds.length ∧ Aside0 (∀ j, j < k → f j = false)) (fun i _ => ds.length - (intOf i).toNat)
  case atStart => exact ⟨0, gg, rfl, rfl, Nat.zero_le _, ⟨fun j hj => absurd hj (Nat.not_lt_zero _)⟩⟩
  case round =>
    obtain ⟨k, gx, rfl, rfl, hk, HK⟩ := hrel
    by_cases hlt : k < ds.length
    · have hk1 : (k : Int) < (ds.length : Int) := by omega
      go_wp2_with fail
      refine (call_of (g := gx) (HC.out gx.W k (goutW gx) hlt)).mono ?_
      rintro _ _ ⟨rfl, g2, rfl⟩
      cases hf : f k
      · have HF := Aside0.mk hf
        clear hf
        go_wp2_with fail
        exact ⟨⟨k + 1, g2, by go_num, rfl, by omega, ⟨fun j hj => (Decidable.em (j = k)).elim (fun h => h ▸ HF.out) (fun h => HK.out j (by omega))⟩⟩, by simp [intOf]; omega⟩
      · have HF := Aside0.mk hf
        clear hf
        go_wp2_with fail
        go_ret2
        have e : r = ((k : Int), true) := by rw [HR.out]; unfold firstD; rw [firstN_some hlt HF.out HK.out]
        exact ⟨ret_pb (by rw [e]) (by rw [e]), goutW _⟩
    · have hk1 : ¬ (k : Int) < (ds.length : Int) := by omega
      go_wp2_with fail
      go_ret2
      have e : r = (0, false) := by rw [HR.out]; unfold firstD; rw [firstN_none fun j hj => HK.out j (by omega)]
      exact ⟨ret_pb (by rw [e]) (by rw [e]), goutW _⟩
set_option maxHeartbeats 1000000 in
set_option maxRecDepth 100000 in
theorem decls53_calls (nm : ByteArray) (wd ln : Int) (ds : List S70) (bd : List S119) (A3 : Option Addr) (c3 : Nat) (A4 : Option Addr) (c4 : Nat) (b1 : Nat) (W : World) (hlm : ds.length ≤ 1048576) (hb1 : W.heap[b1]? = some (.cells #[.func (.func 183) #[] #[]] 55 (0, 0))) (f : Nat → Bool)
    (hc : ∀ X i, Below W.heap.size W X → i < ds.length → Calls Tryz.prog 183 #[.agg #[.string nm, .int .i64 wd, .int .i64 ln, .slice A3 ds.length c3, .slice A4 bd.length c4], .int .i64 (i : Int)] X fun e w' => e = .returned (.bool (f i)) ∧ Below X.heap.size X w') (r : Int × Bool) (hr : r = firstD f ds.length) :
    Calls Tryz.prog 247 #[.agg #[.string nm, .int .i64 wd, .int .i64 ln, .slice A3 ds.length c3, .slice A4 bd.length c4], .pointer (some ⟨b1, 0, none⟩)] W fun e w' => e = .returned (.tuple #[.int .i64 r.1, .bool r.2]) ∧ Below W.heap.size W w' := by
  have gout : ∀ {o : Obj} (g : G (W.alloc o)), Below W.heap.size W g.W := fun g => ((Below.refl _ _).alloc (Nat.le_refl _) _).trans (g.below.mono (by simp))
  have HC := Aside0.mk hc
  have HR := Aside0.mk hr
  have l1 := blk_lt hb1
  have y0 : W.cell? ⟨b1, 0, none⟩ = some (.func (.func 183) #[] #[]) := (blk_cell hb1 0).trans rfl
  clear hc hb1 hr
  go_enter Tryz.func247, Tryz.ntmps247
  go_upto_region 1 with (fail)
  refine wp_grown0 ?_
  intro gg
  have goutW : ∀ (g : G (gw0 gg)), Below W.heap.size W g.W := fun g => gout g
  go_wp2_with fail
  go_loopw [9] (fun i X => ∃ (k : Nat) (g : G (gw0 gg)), i = .int .i64 k ∧ X = g.W ∧ k ≤ ds.length ∧ Aside0 (∀ j, j < k → f j = false)) (fun i _ => ds.length - (intOf i).toNat)
  case atStart => exact ⟨0, gg, rfl, rfl, Nat.zero_le _, ⟨fun j hj => absurd hj (Nat.not_lt_zero _)⟩⟩
  case round =>
    obtain ⟨k, gx, rfl, rfl, hk, HK⟩ := hrel
    by_cases hlt : k < ds.length
    · have hk1 : (k : Int) < (ds.length : Int) := by omega
      go_wp2_with fail
      refine (call_of (g := gx) (HC.out gx.W k (goutW gx) hlt)).mono ?_
      rintro _ _ ⟨rfl, g2, rfl⟩
      cases hf : f k
      · have HF := Aside0.mk hf
        clear hf
        go_wp2_with fail
        exact ⟨⟨k + 1, g2, by go_num, rfl, by omega, ⟨fun j hj => (Decidable.em (j = k)).elim (fun h => h ▸ HF.out) (fun h => HK.out j (by omega))⟩⟩, by simp [intOf]; omega⟩
      · have HF := Aside0.mk hf
        clear hf
        go_wp2_with fail
        go_ret2
        have e : r = ((k : Int), true) := by rw [HR.out]; unfold firstD; rw [firstN_some hlt HF.out HK.out]
        exact ⟨ret_pb (by rw [e]) (by rw [e]), goutW _⟩
    · have hk1 : ¬ (k : Int) < (ds.length : Int) := by omega
      go_wp2_with fail
      go_ret2
      have e : r = (0, false) := by rw [HR.out]; unfold firstD; rw [firstN_none fun j hj => HK.out j (by omega)]
      exact ⟨ret_pb (by rw [e]) (by rw [e]), goutW _⟩
set_option maxHeartbeats 1000000 in
set_option maxRecDepth 100000 in
theorem decls54_calls (nm : ByteArray) (wd ln : Int) (ds : List S70) (bd : List S119) (A3 : Option Addr) (c3 : Nat) (A4 : Option Addr) (c4 : Nat) (b1 : Nat) (W : World) (hlm : ds.length ≤ 1048576) (hb1 : W.heap[b1]? = some (.cells #[.func (.func 184) #[] #[]] 55 (0, 0))) (f : Nat → Bool)
    (hc : ∀ X i, Below W.heap.size W X → i < ds.length → Calls Tryz.prog 184 #[.agg #[.string nm, .int .i64 wd, .int .i64 ln, .slice A3 ds.length c3, .slice A4 bd.length c4], .int .i64 (i : Int)] X fun e w' => e = .returned (.bool (f i)) ∧ Below X.heap.size X w') (r : Int × Bool) (hr : r = firstD f ds.length) :
    Calls Tryz.prog 247 #[.agg #[.string nm, .int .i64 wd, .int .i64 ln, .slice A3 ds.length c3, .slice A4 bd.length c4], .pointer (some ⟨b1, 0, none⟩)] W fun e w' => e = .returned (.tuple #[.int .i64 r.1, .bool r.2]) ∧ Below W.heap.size W w' := by
  have gout : ∀ {o : Obj} (g : G (W.alloc o)), Below W.heap.size W g.W := fun g => ((Below.refl _ _).alloc (Nat.le_refl _) _).trans (g.below.mono (by simp))
  have HC := Aside0.mk hc
  have HR := Aside0.mk hr
  have l1 := blk_lt hb1
  have y0 : W.cell? ⟨b1, 0, none⟩ = some (.func (.func 184) #[] #[]) := (blk_cell hb1 0).trans rfl
  clear hc hb1 hr
  go_enter Tryz.func247, Tryz.ntmps247
  go_upto_region 1 with (fail)
  refine wp_grown0 ?_
  intro gg
  have goutW : ∀ (g : G (gw0 gg)), Below W.heap.size W g.W := fun g => gout g
  go_wp2_with fail
  go_loopw [9] (fun i X => ∃ (k : Nat) (g : G (gw0 gg)), i = .int .i64 k ∧ X = g.W ∧ k ≤ ds.length ∧ Aside0 (∀ j, j < k → f j = false)) (fun i _ => ds.length - (intOf i).toNat)
  case atStart => exact ⟨0, gg, rfl, rfl, Nat.zero_le _, ⟨fun j hj => absurd hj (Nat.not_lt_zero _)⟩⟩
  case round =>
    obtain ⟨k, gx, rfl, rfl, hk, HK⟩ := hrel
    by_cases hlt : k < ds.length
    · have hk1 : (k : Int) < (ds.length : Int) := by omega
      go_wp2_with fail
      refine (call_of (g := gx) (HC.out gx.W k (goutW gx) hlt)).mono ?_
      rintro _ _ ⟨rfl, g2, rfl⟩
      cases hf : f k
      · have HF := Aside0.mk hf
        clear hf
        go_wp2_with fail
        exact ⟨⟨k + 1, g2, by go_num, rfl, by omega, ⟨fun j hj => (Decidable.em (j = k)).elim (fun h => h ▸ HF.out) (fun h => HK.out j (by omega))⟩⟩, by simp [intOf]; omega⟩
      · have HF := Aside0.mk hf
        clear hf
        go_wp2_with fail
        go_ret2
        have e : r = ((k : Int), true) := by rw [HR.out]; unfold firstD; rw [firstN_some hlt HF.out HK.out]
        exact ⟨ret_pb (by rw [e]) (by rw [e]), goutW _⟩
    · have hk1 : ¬ (k : Int) < (ds.length : Int) := by omega
      go_wp2_with fail
      go_ret2
      have e : r = (0, false) := by rw [HR.out]; unfold firstD; rw [firstN_none fun j hj => HK.out j (by omega)]
      exact ⟨ret_pb (by rw [e]) (by rw [e]), goutW _⟩
set_option maxHeartbeats 1000000 in
set_option maxRecDepth 100000 in
theorem c45_calls (nm : ByteArray) (wd ln : Int) (ds : List S70) (bd : List S119) (A3 : Option Addr) (c3 : Nat) (A4 : Option Addr) (c4 : Nat) (W : World)  (b : Bool) (hb : b = widthB wd) :
    Calls Tryz.prog 175 #[.agg #[.string nm, .int .i64 wd, .int .i64 ln, .slice A3 ds.length c3, .slice A4 bd.length c4]] W fun e w' => e = .returned (.bool b) ∧ Below W.heap.size W w' := by
  have gout : ∀ {o : Obj} (g : G (W.alloc o)), Below W.heap.size W g.W := fun g => ((Below.refl _ _).alloc (Nat.le_refl _) _).trans (g.below.mono (by simp))
  have HR := Aside0.mk hb
  clear hb
  go_enter Tryz.func175, Tryz.ntmps175
  go_upto_region 1 with (fail)
  refine wp_grown0 ?_
  intro gg
  by_cases h : wd ≥ 4
  · have H := Aside0.mk h
    go_wp2_with fail
    refine (call_of (g := gg) (wpower_calls wd 64 gg.W (by decide) _ rfl)).mono ?_
    rintro _ _ ⟨rfl, gg, rfl⟩
    go_wp2_with fail
    go_ret
    refine ⟨ret_bool2 ?_, gout _⟩
    rw [HR.out]
    have h4 := H.out
    by_cases h64 : wd ≤ 64
    · rw [decide_eq_true h64, Bool.true_and]
      unfold pow2B widthB
      have e1 : (wd == 1) = false := by simp; omega
      have e2 : (wd == 2) = false := by simp; omega
      have e3 : (wd == 128) = false := by simp; omega
      have e4 : (wd == 256) = false := by simp; omega
      rw [e1, e2, e3, e4]
      simp
    · rw [decide_eq_false h64, Bool.false_and]
      unfold widthB
      have e1 : (wd == 4) = false := by simp; omega
      have e2 : (wd == 8) = false := by simp; omega
      have e3 : (wd == 16) = false := by simp; omega
      have e4 : (wd == 32) = false := by simp; omega
      have e5 : (wd == 64) = false := by simp; omega
      rw [e1, e2, e3, e4, e5]
      rfl
  · have H := Aside0.mk h
    go_wp2_with fail
    go_ret
    refine ⟨ret_bool2 ?_, gout _⟩
    rw [HR.out]
    have h4 := H.out
    unfold widthB
    have e1 : (wd == 4) = false := by simp; omega
    have e2 : (wd == 8) = false := by simp; omega
    have e3 : (wd == 16) = false := by simp; omega
    have e4 : (wd == 32) = false := by simp; omega
    have e5 : (wd == 64) = false := by simp; omega
    rw [e1, e2, e3, e4, e5]
    rfl
set_option maxHeartbeats 1000000 in
set_option maxRecDepth 100000 in
theorem c47_calls (nm : ByteArray) (wd ln : Int) (ds : List S70) (bd : List S119) (A3 : Option Addr) (c3 : Nat) (A4 : Option Addr) (c4 : Nat) (W : World)  (b : Bool) (hb : b = pow2B ln) :
    Calls Tryz.prog 177 #[.agg #[.string nm, .int .i64 wd, .int .i64 ln, .slice A3 ds.length c3, .slice A4 bd.length c4]] W fun e w' => e = .returned (.bool b) ∧ Below W.heap.size W w' := by
  have gout : ∀ {o : Obj} (g : G (W.alloc o)), Below W.heap.size W g.W := fun g => ((Below.refl _ _).alloc (Nat.le_refl _) _).trans (g.below.mono (by simp))
  have HR := Aside0.mk hb
  clear hb
  go_enter Tryz.func177, Tryz.ntmps177
  go_upto_region 1 with (fail)
  refine wp_grown0 ?_
  intro gg
  go_wp2_with fail
  refine (call_of (g := gg) (wpower_calls ln 256 gg.W (by decide) b (by
    rw [HR.out]
    by_cases h : ln ≤ 256
    · rw [decide_eq_true h, Bool.true_and]
    · rw [decide_eq_false h, Bool.false_and, pow_out (.inr (by omega))]))).mono ?_
  rintro _ _ ⟨rfl, gg, rfl⟩
  go_wp2_with fail
  go_ret
  exact ⟨rfl, gout _⟩
set_option maxHeartbeats 1000000 in
set_option maxRecDepth 100000 in
theorem c48_calls (nm : ByteArray) (wd ln : Int) (ds : List S70) (bd : List S119) (A3 : Option Addr) (c3 : Nat) (A4 : Option Addr) (c4 : Nat) (W : World) (hlm : ds.length ≤ 1048576) (b : Bool) (hb : b = decide (ds.length ≤ 256)) :
    Calls Tryz.prog 178 #[.agg #[.string nm, .int .i64 wd, .int .i64 ln, .slice A3 ds.length c3, .slice A4 bd.length c4]] W fun e w' => e = .returned (.bool b) ∧ Below W.heap.size W w' := by
  have gout : ∀ {o : Obj} (g : G (W.alloc o)), Below W.heap.size W g.W := fun g => ((Below.refl _ _).alloc (Nat.le_refl _) _).trans (g.below.mono (by simp))
  have HR := Aside0.mk hb
  clear hb
  go_enter Tryz.func178, Tryz.ntmps178
  go_upto_region 1 with (fail)
  refine wp_grown0 ?_
  intro gg
  by_cases h : ds.length ≤ 256
  · have h' : (ds.length : Int) ≤ 256 := by omega
    have H := Aside0.mk h
    clear h
    go_wp2_with fail
    go_ret
    exact ⟨ret_bool2 (by rw [HR.out, decide_eq_true H.out]), gout _⟩
  · have h' : ¬ (ds.length : Int) ≤ 256 := by omega
    have H := Aside0.mk h
    clear h
    go_wp2_with fail
    go_ret
    exact ⟨ret_bool2 (by rw [HR.out, decide_eq_false (by have := H.out; omega)]), gout _⟩
end Go.Proofs.YtfigjpehecibeaaGreat.L
end
