/- Texts joined by a program of mine: Wq Wv10 Wv11 Wv12 Wv13 Wv14. -/
import Derived.Test.YtfigjpehecibeaaGreatZd8
section
namespace Go.Proofs.YtfigjpehecibeaaGreat.L
open Go.RowKit Go.Proofs.YtfigjpehecibeaaGreatW.PrintWords Go.Proofs.YtfigjpehecibeaaGreatW.PrintLast Go.Proofs.YtfigjpehecibeaaGreatW.PrintMore Go.Proofs.YtfigjpehecibeaaGreat.Gr
set_option linter.unusedVariables false
set_option linter.unusedSimpArgs false
attribute [local go_sem] G.cell
structure ProgAt (w : World) (ds : List S70) (bd : List S119) (A3 : Option Addr) (c3 : Nat) (A4 : Option Addr) (c4 : Nat) : Prop where
  hd : k70.C w A3 ds.length ds
  hld : ds.length ≤ c3
  hb : k119.C w A4 bd.length bd
  hlb : bd.length ≤ c4
theorem ProgAt.below {w w' : World} {ds : List S70} {bd : List S119} {A3 : Option Addr} {c3 : Nat} {A4 : Option Addr} {c4 : Nat} (h : ProgAt w ds bd A3 c3 A4 c4) (hb : Below w.heap.size w w') : ProgAt w' ds bd A3 c3 A4 c4 := ⟨Kd.C_below h.hd hb, h.hld, Kd.C_below h.hb hb, h.hlb⟩
theorem held_in {w W : World} {a : Addr} {v : Value} (h : Below w.heap.size w W) (q : w.cell? a = some v) : W.cell? a = some v := (h.cell (World.block_lt_of_cell? w a q)).trans q
theorem mkG_ex {w w' : World} (h : Below w.heap.size w w') : ∃ g : G w, g.W = w' := ⟨⟨w', h⟩, rfl⟩
theorem in_v {l : List ByteArray} {s : ByteArray} {b : Bool} (h : hasS l s = b) (A : Option Addr) (c : Nat) (w : World) (hc : Kd.string.C w A l.length l) (hl : l.length ≤ c) :
    Calls Tryz.prog 131 #[.slice A l.length c, .string s] w fun e w' => e = .returned (.bool b) ∧ Below w.heap.size w w' := by
  have hlm := hc.2.1
  exact (cadenceref16_in.calls (l.length + 1) A c l s b w hc hl (by unfold cadenceref16_in.f; exact (in_eq l.length (l.length + 1) 0 l s (by omega) (by omega) (by omega) (fun j hj => absurd hj (Nat.not_lt_zero _))).trans (by rw [h]))).mono fun _ _ ⟨he, hd⟩ => ⟨he, hd.below⟩
theorem Decl_v {nm : ByteArray} {wd ln : Int} {ds : List S70} {bd : List S119} {A3 : Option Addr} {c3 : Nat} {A4 : Option Addr} {c4 : Nat} {w : World} (hp : ProgAt w ds bd A3 c3 A4 c4) {s : ByteArray} {r : Int} (h : findI ds s = r) :
    Calls Tryz.prog 225 #[(.agg #[.string nm, .int .i64 wd, .int .i64 ln, .slice A3 ds.length c3, .slice A4 bd.length c4]), .string s] w fun e w' => e = .returned (.int .i64 r) ∧ Below w.heap.size w w' := by
  have hlm := hp.hd.2.1
  exact cadenceref16_Decl.calls (ds.length + 1) nm wd ln A3 c3 ds A4 c4 bd s r w hp.hd hp.hld hp.hb hp.hlb (by unfold cadenceref16_Decl.f; exact (Decl_eq ds.length (ds.length + 1) 0 ds s nm wd ln bd (by omega) (by omega) (by omega) (fun j hj => absurd hj (Nat.not_lt_zero _))).trans (by rw [h]))
theorem fits_v {wd z : Int} {b : Bool} (h : fitsB wd z = b) (h0 : 0 ≤ wd) (h1 : 0 ≤ z) (w : World) : Calls Tryz.prog 226 #[.int .i64 wd, .int .u64 z] w fun e w' => e = .returned (.bool b) ∧ Below w.heap.size w w' :=
  (cadenceref16_fits.calls wd z b w ((fits_eq wd z h0 h1).trans (by rw [h]))).mono fun _ _ ⟨he, hd⟩ => ⟨he, hd.below⟩
def kindW (d : S70) (x : TV) : Bool := if x.is = 2 then (if x.e.f0 = 2 then d.f2 == 0 else d.f2 != 0) else if x.s.f0 = 2 then d.f2 != 0 && d.f0 != 3 else d.f2 == 0
theorem bf {z a : Int} (h : ¬ z = a) : (z == a) = false := by simpa using h
set_option maxHeartbeats 2000000 in
set_option maxRecDepth 100000 in
theorem kind_in (nm : ByteArray) (wd ln : Int) (ds : List S70) (bd : List S119) (A3 : Option Addr) (c3 : Nat) (A4 : Option Addr) (c4 : Nat) (x : TV) {A5 : Option Addr} {c5 : Nat} {A9 : Option Addr} {c9 : Nat} {A12 : Option Addr} {c12 : Nat} {A13 : Option Addr} {c13 : Nat} {A19 : Option Addr} {c19 : Nat} {A21 : Option Addr} {c21 : Nat} (s : ByteArray) (w : World)
    (hlo : Kd.string.C w A21 x.loops.length x.loops) (hll : x.loops.length ≤ c21) (hh : hasS x.loops s = true) :
    Calls Tryz.prog 228 #[(.agg #[.string nm, .int .i64 wd, .int .i64 ln, .slice A3 ds.length c3, .slice A4 bd.length c4]), (.agg #[.int .i64 x.is, .int .i64 x.d, .int .i64 x.s.f0, .string x.s.f1, .int .i64 x.s.f2.f0, .int .u64 x.s.f2.f1, .string x.s.f2.f2, .slice A5 x.s.f2.f3.length c5, .int .i64 x.s.f3.f0, .int .u64 x.s.f3.f1, .string x.s.f3.f2, .slice A9 x.s.f3.f3.length c9, .int .u64 x.s.f4, .int .u64 x.s.f5, .slice A12 x.s.f6.length c12, .slice A13 x.s.f7.length c13, .int .i64 x.e.f0, .int .u64 x.e.f1, .string x.e.f2, .slice A19 x.e.f3.length c19, .int .i64 x.deep, .slice A21 x.loops.length c21]), .string s] w fun e w' => e = .returned (.bool (x.is == 2 && x.e.f0 == 2)) ∧ Below w.heap.size w w' := by
  have gout : ∀ {o o' : Obj} (g : G ((w.alloc o).alloc o')), Below w.heap.size w g.W := fun g => (((Below.refl _ _).alloc (Nat.le_refl _) _).alloc (by simp) _).trans (g.below.mono (by simp; omega))
  have HLO := Aside0.mk hlo
  clear hlo
  go_enter Tryz.func228, Tryz.ntmps228
  go_upto_region 1 with (fail)
  refine wp_grown0 ?_
  intro gg
  go_wp2_with fail
  refine (call_of (g := gg) (in_v hh A21 c21 gg.W (Kd.C_below HLO.out (gout gg)) hll)).mono ?_
  rintro _ _ ⟨rfl, gg, rfl⟩
  rcases bcases (x.is == 2) with h1 | h1
  · rcases bcases (x.e.f0 == 2) with h2 | h2
    · go_wp2_with fail
      go_ret
      exact ⟨by rw [h1, h2]; rfl, gout _⟩
    · go_wp2_with fail
      go_ret
      exact ⟨by rw [h1, h2]; rfl, gout _⟩
  · go_wp2_with fail
    go_ret
    exact ⟨by rw [h1]; rfl, gout _⟩
set_option maxHeartbeats 2000000 in
set_option maxRecDepth 100000 in
theorem kind_decl (nm : ByteArray) (wd ln : Int) (ds : List S70) (bd : List S119) (A3 : Option Addr) (c3 : Nat) (A4 : Option Addr) (c4 : Nat) (x : TV) {A5 : Option Addr} {c5 : Nat} {A9 : Option Addr} {c9 : Nat} {A12 : Option Addr} {c12 : Nat} {A13 : Option Addr} {c13 : Nat} {A19 : Option Addr} {c19 : Nat} {A21 : Option Addr} {c21 : Nat} (s : ByteArray) (w : World) (hp : ProgAt w ds bd A3 c3 A4 c4)
    (hlo : Kd.string.C w A21 x.loops.length x.loops) (hll : x.loops.length ≤ c21) (hh : hasS x.loops s = false) (i : Nat) (hi : i < ds.length) (hfi : findI ds s = (i : Int)) :
    Calls Tryz.prog 228 #[(.agg #[.string nm, .int .i64 wd, .int .i64 ln, .slice A3 ds.length c3, .slice A4 bd.length c4]), (.agg #[.int .i64 x.is, .int .i64 x.d, .int .i64 x.s.f0, .string x.s.f1, .int .i64 x.s.f2.f0, .int .u64 x.s.f2.f1, .string x.s.f2.f2, .slice A5 x.s.f2.f3.length c5, .int .i64 x.s.f3.f0, .int .u64 x.s.f3.f1, .string x.s.f3.f2, .slice A9 x.s.f3.f3.length c9, .int .u64 x.s.f4, .int .u64 x.s.f5, .slice A12 x.s.f6.length c12, .slice A13 x.s.f7.length c13, .int .i64 x.e.f0, .int .u64 x.e.f1, .string x.e.f2, .slice A19 x.e.f3.length c19, .int .i64 x.deep, .slice A21 x.loops.length c21]), .string s] w fun e w' => e = .returned (.bool (kindW (rd_T70 ds (i : Int)) x)) ∧ Below w.heap.size w w' := by
  have gout : ∀ {o o' : Obj} (g : G ((w.alloc o).alloc o')), Below w.heap.size w g.W := fun g => (((Below.refl _ _).alloc (Nat.le_refl _) _).alloc (by simp) _).trans (g.below.mono (by simp; omega))
  obtain ⟨adr, A9d, c9d, e1, q0, q1, q2, q3, l9, g9⟩ := at_T70 hp.hd (i : Int) (Int.natCast_nonneg _) (by omega)
  have hlm := hp.hd.2.1
  cases e1
  rw [Int.toNat_natCast] at q0 q1 q2 q3
  have hi1 : (i : Int) < (ds.length : Int) := by omega
  have HLO := Aside0.mk hlo
  have PAt := Aside0.mk hp
  clear hlo hp l9 g9
  go_enter Tryz.func228, Tryz.ntmps228
  go_upto_region 1 with (fail)
  refine wp_grown0 ?_
  intro gg
  have goutW : ∀ (g : G (gw0 gg)), Below w.heap.size w g.W := fun g => gout g
  go_wp2_with fail
  refine (call_of (g := gg) (in_v hh A21 c21 gg.W (Kd.C_below HLO.out (gout gg)) hll)).mono ?_
  rintro _ _ ⟨rfl, gg, rfl⟩
  go_upto_region 3 with (fail)
  have r0 : ∀ g' : G (gw0 gg), g'.W.cell? (adr.add (i * 4)) = some (.int .i64 (rd_T70 ds (i : Int)).f0) := fun g' => held_in (goutW g') q0
  have r1 : ∀ g' : G (gw0 gg), g'.W.cell? ⟨(adr.add (i * 4)).block, (adr.add (i * 4)).off + 1, none⟩ = some (.string (rd_T70 ds (i : Int)).f1) := fun g' => held_in (goutW g') q1
  have r2 : ∀ g' : G (gw0 gg), g'.W.cell? ⟨(adr.add (i * 4)).block, (adr.add (i * 4)).off + 2, none⟩ = some (.int .i64 (rd_T70 ds (i : Int)).f2) := fun g' => held_in (goutW g') q2
  have r3 : ∀ g' : G (gw0 gg), g'.W.cell? ⟨(adr.add (i * 4)).block, (adr.add (i * 4)).off + 3, none⟩ = some (.slice A9d (rd_T70 ds (i : Int)).f3.length c9d) := fun g' => held_in (goutW g') q3
  refine start_ (n := 9) (S := fun w' => ∃ g' : G _, w' = g'.W) (ds := []) #[false, false, false, false, false, false, false, false, false] (by kernel_rfl) rfl rfl ⟨mkG (gg.2.drew), rfl⟩ (fun hHeld => ?_)
  obtain ⟨gd, hgd⟩ := hHeld
  rw [hgd]
  clear hgd
  refine pure_ (i := 0) (N := some 21) (v := ?_) (a' := ?_) #[true, false, false, false, false, false, false, false, false] rfl rfl (by kernel_rfl) (fun _ _ _ h => h) (Or.inl ⟨by rfl, ?_⟩) ?_ ?_
  rotate_left
  · intro w'
    go_simp
    with_reducible rfl
  rotate_left
  · simp only [Act.put, List.setIfInBounds_toArray, List.set_cons_zero, List.set_cons_succ, i64_w, i32_w]
    rfl
  refine pure_ (i := 3) (N := some 24) (v := ?_) (a' := ?_) #[true, false, false, true, false, false, false, false, false] rfl rfl (by kernel_rfl) (fun _ _ _ h => h) (Or.inl ⟨by rfl, ?_⟩) ?_ ?_
  rotate_left
  · intro w'
    go_simp
    with_reducible rfl
  rotate_left
  · simp only [Act.put, List.setIfInBounds_toArray, List.set_cons_zero, List.set_cons_succ, i64_w, i32_w]
    rfl
  refine take_ (i := 1) (N := some 22) (v := ?_) (a' := ?_) #[true, true, false, true, false, false, false, false, false] rfl rfl (by kernel_rfl) (fun _ _ _ h => h) (Or.inl ⟨by rfl, ?_⟩) ⟨gd, rfl⟩ ?_ ?_
  rotate_left
  · rintro w' ⟨g', rfl⟩
    go_simp
    with_reducible rfl
  rotate_left
  · simp only [Act.put, List.setIfInBounds_toArray, List.set_cons_zero, List.set_cons_succ, i64_w, i32_w]
    rfl
  refine take_ (i := 2) (N := some 23) (v := ?_) (a' := ?_) #[true, true, true, true, false, false, false, false, false] rfl rfl (by kernel_rfl) (fun _ _ _ h => h) (Or.inl ⟨by rfl, ?_⟩) ⟨gd, rfl⟩ ?_ ?_
  rotate_left
  · rintro w' ⟨g', rfl⟩
    go_simp
    with_reducible rfl
  rotate_left
  · simp only [Act.put, List.setIfInBounds_toArray, List.set_cons_zero, List.set_cons_succ, i64_w, i32_w]
    rfl
  refine join_ (σ := Nat) 1 #[true, true, true, true, true, true, true, true, false] (fun b => [(25, .int .i64 (i : Int)), (26, .pointer (some (adr.add (i * 4)))), (27, .agg #[.int .i64 (rd_T70 ds (i : Int)).f0, .string (rd_T70 ds (i : Int)).f1, .int .i64 (rd_T70 ds (i : Int)).f2, .slice A9d (rd_T70 ds (i : Int)).f3.length c9d]), (7, .pointer (some ⟨b, 0, none⟩))]) (fun b w' => ∃ g : G (gw0 gg), w' = g.W ∧ g.W.heap[b]? = some (.cells #[.int .i64 0, .string (⟨#[]⟩ : ByteArray), .int .i64 0, .slice none 0 0] 70 (0, 0)) ∧ (gw0 gg).heap.size ≤ b) ?_ (fun hJ => ?_)
  rotate_left
  · refine two_ (i := 4) (j := 7) (Ni := some 25) (Nj := some 7) #[true, true, true, true, true, false, false, false, false] #[true, true, true, true, false, false, false, true, false] rfl rfl rfl rfl (by kernel_rfl) (by simp) (by simp) ?_ ?_
    · intro K hK
      refine goes_ Tryz.func225 (by kernel_rfl) rfl #[(.agg #[.string nm, .int .i64 wd, .int .i64 ln, .slice (some adr) ds.length c3, .slice A4 bd.length c4]), .string s] (by rfl) rfl rfl (by (try simp only [List.map_toArray, List.map_cons, List.map_nil]); first | done | rfl) ?_
      refine (Decl_v (PAt.out.below (goutW gd)) hfi).mono ?_
      rintro _ w9 ⟨rfl, hb⟩
      refine ⟨_, rfl, ?_⟩
      obtain ⟨gd, rfl⟩ : ∃ g' : G _, w9 = g'.W := ⟨mkG (gd.below.trans (hb.mono gd.below.size)), rfl⟩
      clear hb
      refine hK.out _ _ ⟨gd, rfl⟩ (fun _ => ?_)
      clear hK K
      refine norm_ (a' := ?_) ?_ ?_
      rotate_left
      · show Act.put _ (some 25) _ = _
        simp only [Act.put, List.setIfInBounds_toArray, List.set_cons_zero, List.set_cons_succ, i64_w, i32_w]
        rfl
      refine pure_ (i := 5) (N := some 26) (v := ?_) (a' := ?_) #[true, true, true, true, true, true, false, false, false] rfl rfl (by kernel_rfl) (fun _ _ _ h => h) (Or.inl ⟨by rfl, ?_⟩) ?_ ?_
      rotate_left
      · intro w'
        go_simp
        with_reducible rfl
      rotate_left
      · simp only [Act.put, List.setIfInBounds_toArray, List.set_cons_zero, List.set_cons_succ, i64_w, i32_w]
        rfl
      refine take_ (i := 6) (N := some 27) (v := ?_) (a' := ?_) #[true, true, true, true, true, true, true, false, false] rfl rfl (by kernel_rfl) (fun _ _ _ h => h) (Or.inl ⟨by rfl, ?_⟩) ⟨gd, rfl⟩ ?_ ?_
      rotate_left
      · rintro w' ⟨g', rfl⟩
        go_simp
        with_reducible rfl
      rotate_left
      · simp only [Act.put, List.setIfInBounds_toArray, List.set_cons_zero, List.set_cons_succ, i64_w, i32_w]
        rfl
      refine one_ (i := 7) (N := some 7) #[true, true, true, true, true, true, true, true, false] rfl rfl (by kernel_rfl) (by simp) (fun K hK => ?_)
      refine box_step ?hg (N := 7) ?hd (cs := #[.int .i64 0, .string (⟨#[]⟩ : ByteArray), .int .i64 0, .slice none 0 0]) (t := 70) ?hr ?_; (case hd => rfl); (case hg => rfl); (case hr => first | (go_simp; done) | (go_simp; rfl))
      intro b7 hb7 w7 hbx hbl
      have hbx := Aside0.mk hbx
      have hle : (gw0 gg).heap.size ≤ b7 := by rw [hb7]; exact gd.below.size
      clear hb7
      obtain ⟨gd, rfl⟩ : ∃ g' : G _, w7 = g'.W := ⟨mkG (gd.below.trans (hbl.mono gd.below.size)), rfl⟩
      clear hbl
      refine hK.out _ _ ⟨gd, rfl⟩ (fun _ => ?_)
      clear hK K
      refine norm_ (a' := ?_) ?_ ?_
      rotate_left
      · show Act.put _ (some 7) _ = _
        simp only [Act.put, List.setIfInBounds_toArray, List.set_cons_zero, List.set_cons_succ, i64_w, i32_w]
        rfl
      exact norm_ (by first | (simp only [putAll, Act.put, List.setIfInBounds_toArray, List.set_cons_zero, List.set_cons_succ]; done) | (simp only [putAll, Act.put, List.setIfInBounds_toArray, List.set_cons_zero, List.set_cons_succ]; rfl)) (hJ b7 _ ⟨_, rfl, hbx.out, hle⟩)
    · intro K hK
      refine box_step ?hg (N := 7) ?hd (cs := #[.int .i64 0, .string (⟨#[]⟩ : ByteArray), .int .i64 0, .slice none 0 0]) (t := 70) ?hr ?_; (case hd => rfl); (case hg => rfl); (case hr => first | (go_simp; done) | (go_simp; rfl))
      intro b7 hb7 w7 hbx hbl
      have hbx := Aside0.mk hbx
      have hle : (gw0 gg).heap.size ≤ b7 := by rw [hb7]; exact gd.below.size
      clear hb7
      obtain ⟨gd, rfl⟩ : ∃ g' : G _, w7 = g'.W := ⟨mkG (gd.below.trans (hbl.mono gd.below.size)), rfl⟩
      clear hbl
      refine hK.out _ _ ⟨gd, rfl⟩ (fun _ => ?_)
      clear hK K
      refine norm_ (a' := ?_) ?_ ?_
      rotate_left
      · show Act.put _ (some 7) _ = _
        simp only [Act.put, List.setIfInBounds_toArray, List.set_cons_zero, List.set_cons_succ, i64_w, i32_w]
        rfl
      refine one_ (i := 4) (N := some 25) #[true, true, true, true, true, false, false, true, false] rfl rfl (by kernel_rfl) (by simp) (fun K hK => ?_)
      refine goes_ Tryz.func225 (by kernel_rfl) rfl #[(.agg #[.string nm, .int .i64 wd, .int .i64 ln, .slice (some adr) ds.length c3, .slice A4 bd.length c4]), .string s] (by rfl) rfl rfl (by (try simp only [List.map_toArray, List.map_cons, List.map_nil]); first | done | rfl) ?_
      refine (Decl_v (PAt.out.below (goutW gd)) hfi).mono ?_
      rintro _ w9 ⟨rfl, hb⟩
      refine ⟨_, rfl, ?_⟩
      have HBX := Aside0.mk (blk_below hbx.out hb)
      obtain ⟨gd, rfl⟩ : ∃ g' : G _, w9 = g'.W := ⟨mkG (gd.below.trans (hb.mono gd.below.size)), rfl⟩
      clear hb
      refine hK.out _ _ ⟨gd, rfl⟩ (fun _ => ?_)
      clear hK K
      refine norm_ (a' := ?_) ?_ ?_
      rotate_left
      · show Act.put _ (some 25) _ = _
        simp only [Act.put, List.setIfInBounds_toArray, List.set_cons_zero, List.set_cons_succ, i64_w, i32_w]
        rfl
      refine pure_ (i := 5) (N := some 26) (v := ?_) (a' := ?_) #[true, true, true, true, true, true, false, true, false] rfl rfl (by kernel_rfl) (fun _ _ _ h => h) (Or.inl ⟨by rfl, ?_⟩) ?_ ?_
      rotate_left
      · intro w'
        go_simp
        with_reducible rfl
      rotate_left
      · simp only [Act.put, List.setIfInBounds_toArray, List.set_cons_zero, List.set_cons_succ, i64_w, i32_w]
        rfl
      refine take_ (i := 6) (N := some 27) (v := ?_) (a' := ?_) #[true, true, true, true, true, true, true, true, false] rfl rfl (by kernel_rfl) (fun _ _ _ h => h) (Or.inl ⟨by rfl, ?_⟩) ⟨gd, rfl⟩ ?_ ?_
      rotate_left
      · rintro w' ⟨g', rfl⟩
        go_simp
        with_reducible rfl
      rotate_left
      · simp only [Act.put, List.setIfInBounds_toArray, List.set_cons_zero, List.set_cons_succ, i64_w, i32_w]
        rfl
      exact norm_ (by first | (simp only [putAll, Act.put, List.setIfInBounds_toArray, List.set_cons_zero, List.set_cons_succ]; done) | (simp only [putAll, Act.put, List.setIfInBounds_toArray, List.set_cons_zero, List.set_cons_succ]; rfl)) (hJ b7 _ ⟨_, rfl, HBX.out, hle⟩)
  rintro b7 _ ⟨gd, rfl, hbx, hle⟩
  refine norm_ (a' := ?_) ?_ ?_
  rotate_left
  · simp only [putAll, Act.put, List.setIfInBounds_toArray, List.set_cons_zero, List.set_cons_succ]
    rfl
  refine one_ (i := 8) (N := none) #[true, true, true, true, true, true, true, true, true] rfl rfl (by kernel_rfl) (by simp) (fun K hK => ?_)
  have s0 : gd.W.cell? ⟨b7, 0, none⟩ = some (.int .i64 0) := (blk_cell hbx 0).trans rfl
  have s1 : gd.W.cell? ⟨b7, 1, none⟩ = some (.string (⟨#[]⟩ : ByteArray)) := (blk_cell hbx 1).trans rfl
  have s2 : gd.W.cell? ⟨b7, 2, none⟩ = some (.int .i64 0) := (blk_cell hbx 2).trans rfl
  have s3 : gd.W.cell? ⟨b7, 3, none⟩ = some (.slice none 0 0) := (blk_cell hbx 3).trans rfl
  have f0 := blk_frozen hbx 0
  have f1 := blk_frozen hbx 1
  have f2 := blk_frozen hbx 2
  have f3 := blk_frozen hbx 3
  have hp := Aside0.mk (blk_put (blk_put (blk_put (blk_put hbx 0 (.int .i64 (rd_T70 ds (i : Int)).f0) rfl) 1 (.string (rd_T70 ds (i : Int)).f1) rfl) 2 (.int .i64 (rd_T70 ds (i : Int)).f2) rfl) 3 (.slice A9d (rd_T70 ds (i : Int)).f3.length c9d) rfl)
  have hq := Aside0.mk ((((gd.below.setCell (p := ⟨b7, 0, none⟩) hle (.int .i64 (rd_T70 ds (i : Int)).f0)).setCell (p := ⟨b7, 1, none⟩) hle (.string (rd_T70 ds (i : Int)).f1)).setCell (p := ⟨b7, 2, none⟩) hle (.int .i64 (rd_T70 ds (i : Int)).f2)).setCell (p := ⟨b7, 3, none⟩) hle (.slice A9d (rd_T70 ds (i : Int)).f3.length c9d))
  refine skip_ (w1 := ?_) (by rfl) rfl ?_ ?_
  rotate_left
  · go_simp
    rfl
  refine hK.out _ _ ⟨mkG hq.out, rfl⟩ (fun _ => ?_)
  clear hK K s0 s1 s2 s3 f0 f1 f2 f3 hbx
  refine done_ (by kernel_rfl) ?_
  have c0 : _ = some (Value.int .i64 (rd_T70 ds (i : Int)).f0) := (blk_cell hp.out 0).trans rfl
  have c2 : _ = some (Value.int .i64 (rd_T70 ds (i : Int)).f2) := (blk_cell hp.out 2).trans rfl
  obtain ⟨g3, hg3⟩ := mkG_ex hq.out
  rw [← hg3] at c0 c2 ⊢
  clear hg3 hp hq r0 r1 r2 r3 q0 q1 q2 q3 hfi
  have t0 : g3.W.cell? ⟨w.heap.size + 1, 0, none⟩ = some (.int .i64 x.is) := by go_simp
  by_cases h1 : x.is = 2
  · by_cases h2 : x.e.f0 = 2
    · go_wp2_with fail
      go_ret
      exact ⟨ret_bool2 (by simp [kindW, h1, h2]), goutW _⟩
    · have b2 := bf h2
      go_wp2_with fail
      go_ret
      exact ⟨ret_bool2 (by simp [kindW, h1, h2, bne]), goutW _⟩
  · have b1 := bf h1
    by_cases h2 : x.s.f0 = 2
    · by_cases h3 : (rd_T70 ds (i : Int)).f2 = 0
      · go_wp2_with fail
        go_ret
        exact ⟨ret_bool2 (by simp [kindW, h1, h2, h3]), goutW _⟩
      · have b3 := bf h3
        go_wp2_with fail
        go_ret
        exact ⟨ret_bool2 (by simp [kindW, h1, h2, h3, bne]), goutW _⟩
    · have b2 := bf h2
      go_wp2_with fail
      go_ret
      exact ⟨ret_bool2 (by simp [kindW, h1, h2]), goutW _⟩
end Go.Proofs.YtfigjpehecibeaaGreat.L
end
section
namespace Go.Proofs.YtfigjpehecibeaaGreat.L
open Go.RowKit Go.Proofs.YtfigjpehecibeaaGreatW.PrintWords Go.Proofs.YtfigjpehecibeaaGreatW.PrintLast Go.Proofs.YtfigjpehecibeaaGreatW.PrintMore Go.Proofs.YtfigjpehecibeaaGreat.Gr
set_option linter.unusedVariables false
set_option linter.unusedSimpArgs false
attribute [local go_sem] G.cell
theorem ret_int {a b : Int} (h : a = b) : Ending.returned (.int .i64 a) = .returned (.int .i64 b) := by rw [h]
def viol10 (x : TV) : Bool := decide (64 < x.deep)
set_option maxHeartbeats 4000000 in
set_option maxRecDepth 100000 in
theorem viol10_calls (nm : ByteArray) (wd ln : Int) (ds : List S70) (bd : List S119) (A3 : Option Addr) (c3 : Nat) (A4 : Option Addr) (c4 : Nat) (x : TV) {A5 : Option Addr} {c5 : Nat} {A9 : Option Addr} {c9 : Nat} {A12 : Option Addr} {c12 : Nat} {A13 : Option Addr} {c13 : Nat} {A19 : Option Addr} {c19 : Nat} {A21 : Option Addr} {c21 : Nat} (w : World) (hp : ProgAt w ds bd A3 c3 A4 c4)
    (hlo : Kd.string.C w A21 x.loops.length x.loops) (hll : x.loops.length ≤ c21) (hx : x.is = 0 ∨ x.is = 1 ∨ x.is = 2) (r : Int) (hr : r = if viol10 x = true then 152 else 0) :
    Calls Tryz.prog 146 #[(.agg #[.string nm, .int .i64 wd, .int .i64 ln, .slice A3 ds.length c3, .slice A4 bd.length c4]), (.agg #[.int .i64 x.is, .int .i64 x.d, .int .i64 x.s.f0, .string x.s.f1, .int .i64 x.s.f2.f0, .int .u64 x.s.f2.f1, .string x.s.f2.f2, .slice A5 x.s.f2.f3.length c5, .int .i64 x.s.f3.f0, .int .u64 x.s.f3.f1, .string x.s.f3.f2, .slice A9 x.s.f3.f3.length c9, .int .u64 x.s.f4, .int .u64 x.s.f5, .slice A12 x.s.f6.length c12, .slice A13 x.s.f7.length c13, .int .i64 x.e.f0, .int .u64 x.e.f1, .string x.e.f2, .slice A19 x.e.f3.length c19, .int .i64 x.deep, .slice A21 x.loops.length c21]), .int .i64 10] w fun e w' => e = .returned (.int .i64 r) ∧ Below w.heap.size w w' := by
  have gout : ∀ {o o' : Obj} (g : G ((w.alloc o).alloc o')), Below w.heap.size w g.W := fun g => (((Below.refl _ _).alloc (Nat.le_refl _) _).alloc (by simp) _).trans (g.below.mono (by simp; omega))
  have HLO := Aside0.mk hlo
  have PAt := Aside0.mk hp
  have HXX := Aside0.mk hx
  have HR := Aside0.mk hr
  clear hlo hp hx hr
  go_enter Tryz.func146, Tryz.ntmps146
  go_upto_region 1 with (fail)
  refine wp_grown0 ?_
  intro gg
  have goutW : ∀ (g : G (gw0 gg)), Below w.heap.size w g.W := fun g => gout g
  have HBK := Aside0.mk (show ∀ g : G (gw0 gg), g.W.heap[w.heap.size + 1]? = some (.cells #[.int .i64 x.is, .int .i64 x.d, .int .i64 x.s.f0, .string x.s.f1, .int .i64 x.s.f2.f0, .int .u64 x.s.f2.f1, .string x.s.f2.f2, .slice A5 x.s.f2.f3.length c5, .int .i64 x.s.f3.f0, .int .u64 x.s.f3.f1, .string x.s.f3.f2, .slice A9 x.s.f3.f3.length c9, .int .u64 x.s.f4, .int .u64 x.s.f5, .slice A12 x.s.f6.length c12, .slice A13 x.s.f7.length c13, .int .i64 x.e.f0, .int .u64 x.e.f1, .string x.e.f2, .slice A19 x.e.f3.length c19, .int .i64 x.deep, .slice A21 x.loops.length c21] 125 (0, 0)) from fun g => (g.below.block _ (by simp [gw0])).trans (heap_alloc2_new w _ _))
  go_wp2_with (refine wpList_load_row rfl 125 (.tmp 4) rfl (w.heap.size + 1) rfl 125 #[.int .i64 x.is, .int .i64 x.d, .int .i64 x.s.f0, .string x.s.f1, .int .i64 x.s.f2.f0, .int .u64 x.s.f2.f1, .string x.s.f2.f2, .slice A5 x.s.f2.f3.length c5, .int .i64 x.s.f3.f0, .int .u64 x.s.f3.f1, .string x.s.f3.f2, .slice A9 x.s.f3.f3.length c9, .int .u64 x.s.f4, .int .u64 x.s.f5, .slice A12 x.s.f6.length c12, .slice A13 x.s.f7.length c13, .int .i64 x.e.f0, .int .u64 x.e.f1, .string x.e.f2, .slice A19 x.e.f3.length c19, .int .i64 x.deep, .slice A21 x.loops.length c21] (0, 0) _ (HBK.out gg) Tryz.underlying125 rfl (by kernel_rfl) ?_)
  refine (call_of (g := gg) (names_calls x gg.W HXX.out)).mono ?_
  rintro _ _ ⟨rfl, gg, rfl⟩
  rcases bcases (x.is == 1) with i1 | i1
  · rcases bcases (x.s.f0 == 4) with s4 | s4
    · rcases Int.lt_or_le 64 x.deep with d | d
      · go_wp2_with fail
        go_ret
        exact ⟨ret_int (by rw [HR.out]; simp [viol10, d]), goutW _⟩
      · have d' : ¬ 64 < x.deep := by omega
        go_wp2_with fail
        go_ret
        exact ⟨ret_int (by rw [HR.out]; simp [viol10, d']), goutW _⟩
    · rcases Int.lt_or_le 64 x.deep with d | d
      · go_wp2_with fail
        go_ret
        exact ⟨ret_int (by rw [HR.out]; simp [viol10, d]), goutW _⟩
      · have d' : ¬ 64 < x.deep := by omega
        go_wp2_with fail
        go_ret
        exact ⟨ret_int (by rw [HR.out]; simp [viol10, d']), goutW _⟩
  · rcases Int.lt_or_le 64 x.deep with d | d
    · go_wp2_with fail
      go_ret
      exact ⟨ret_int (by rw [HR.out]; simp [viol10, d]), goutW _⟩
    · have d' : ¬ 64 < x.deep := by omega
      go_wp2_with fail
      go_ret
      exact ⟨ret_int (by rw [HR.out]; simp [viol10, d']), goutW _⟩
end Go.Proofs.YtfigjpehecibeaaGreat.L
end
section
namespace Go.Proofs.YtfigjpehecibeaaGreat.L
open Go.RowKit Go.Proofs.YtfigjpehecibeaaGreatW.PrintWords Go.Proofs.YtfigjpehecibeaaGreatW.PrintLast Go.Proofs.YtfigjpehecibeaaGreatW.PrintMore Go.Proofs.YtfigjpehecibeaaGreat.Gr
set_option linter.unusedVariables false
set_option linter.unusedSimpArgs false
attribute [local go_sem] G.cell
def viol11 (ds : List S70) (x : TV) : Bool := (useV x).2 && !hasS x.loops (useV x).1 && decide (findI ds (useV x).1 < 0)
theorem ret_int11 {a b : Int} (h : a = b) : Ending.returned (.int .i64 a) = .returned (.int .i64 b) := by rw [h]
set_option maxHeartbeats 4000000 in
set_option maxRecDepth 100000 in
theorem viol11_calls (nm : ByteArray) (wd ln : Int) (ds : List S70) (bd : List S119) (A3 : Option Addr) (c3 : Nat) (A4 : Option Addr) (c4 : Nat) (x : TV) {A5 : Option Addr} {c5 : Nat} {A9 : Option Addr} {c9 : Nat} {A12 : Option Addr} {c12 : Nat} {A13 : Option Addr} {c13 : Nat} {A19 : Option Addr} {c19 : Nat} {A21 : Option Addr} {c21 : Nat} (w : World) (hp : ProgAt w ds bd A3 c3 A4 c4)
    (hlo : Kd.string.C w A21 x.loops.length x.loops) (hll : x.loops.length ≤ c21) (hx : x.is = 0 ∨ x.is = 1 ∨ x.is = 2) (r : Int) (hr : r = if viol11 ds x = true then 161 else 0) :
    Calls Tryz.prog 146 #[(.agg #[.string nm, .int .i64 wd, .int .i64 ln, .slice A3 ds.length c3, .slice A4 bd.length c4]), (.agg #[.int .i64 x.is, .int .i64 x.d, .int .i64 x.s.f0, .string x.s.f1, .int .i64 x.s.f2.f0, .int .u64 x.s.f2.f1, .string x.s.f2.f2, .slice A5 x.s.f2.f3.length c5, .int .i64 x.s.f3.f0, .int .u64 x.s.f3.f1, .string x.s.f3.f2, .slice A9 x.s.f3.f3.length c9, .int .u64 x.s.f4, .int .u64 x.s.f5, .slice A12 x.s.f6.length c12, .slice A13 x.s.f7.length c13, .int .i64 x.e.f0, .int .u64 x.e.f1, .string x.e.f2, .slice A19 x.e.f3.length c19, .int .i64 x.deep, .slice A21 x.loops.length c21]), .int .i64 11] w fun e w' => e = .returned (.int .i64 r) ∧ Below w.heap.size w w' := by
  have gout : ∀ {o o' : Obj} (g : G ((w.alloc o).alloc o')), Below w.heap.size w g.W := fun g => (((Below.refl _ _).alloc (Nat.le_refl _) _).alloc (by simp) _).trans (g.below.mono (by simp; omega))
  have HLO := Aside0.mk hlo
  have PAt := Aside0.mk hp
  have HXX := Aside0.mk hx
  have HR := Aside0.mk hr
  clear hlo hp hx hr
  go_enter Tryz.func146, Tryz.ntmps146
  go_upto_region 1 with (fail)
  refine wp_grown0 ?_
  intro gg
  have goutW : ∀ (g : G (gw0 gg)), Below w.heap.size w g.W := fun g => gout g
  have HBK := Aside0.mk (show ∀ g : G (gw0 gg), g.W.heap[w.heap.size + 1]? = some (.cells #[.int .i64 x.is, .int .i64 x.d, .int .i64 x.s.f0, .string x.s.f1, .int .i64 x.s.f2.f0, .int .u64 x.s.f2.f1, .string x.s.f2.f2, .slice A5 x.s.f2.f3.length c5, .int .i64 x.s.f3.f0, .int .u64 x.s.f3.f1, .string x.s.f3.f2, .slice A9 x.s.f3.f3.length c9, .int .u64 x.s.f4, .int .u64 x.s.f5, .slice A12 x.s.f6.length c12, .slice A13 x.s.f7.length c13, .int .i64 x.e.f0, .int .u64 x.e.f1, .string x.e.f2, .slice A19 x.e.f3.length c19, .int .i64 x.deep, .slice A21 x.loops.length c21] 125 (0, 0)) from fun g => (g.below.block _ (by simp [gw0])).trans (heap_alloc2_new w _ _))
  go_wp2_with (refine wpList_load_row rfl 125 (.tmp 4) rfl (w.heap.size + 1) rfl 125 #[.int .i64 x.is, .int .i64 x.d, .int .i64 x.s.f0, .string x.s.f1, .int .i64 x.s.f2.f0, .int .u64 x.s.f2.f1, .string x.s.f2.f2, .slice A5 x.s.f2.f3.length c5, .int .i64 x.s.f3.f0, .int .u64 x.s.f3.f1, .string x.s.f3.f2, .slice A9 x.s.f3.f3.length c9, .int .u64 x.s.f4, .int .u64 x.s.f5, .slice A12 x.s.f6.length c12, .slice A13 x.s.f7.length c13, .int .i64 x.e.f0, .int .u64 x.e.f1, .string x.e.f2, .slice A19 x.e.f3.length c19, .int .i64 x.deep, .slice A21 x.loops.length c21] (0, 0) _ (HBK.out gg) Tryz.underlying125 rfl (by kernel_rfl) ?_)
  refine (call_of (g := gg) (names_calls x gg.W HXX.out)).mono ?_
  rintro _ _ ⟨rfl, gg, rfl⟩
  rcases bcases (x.is == 1) with i1 | i1
  · rcases bcases (x.s.f0 == 4) with s4 | s4
    · rcases bcases (useV x).2 with u2 | u2
      · go_wp2_with fail
        rcases bcases (hasS x.loops (useV x).1) with hh | hh
        · refine (call_of (g := gg) (in_v hh A21 c21 gg.W (Kd.C_below HLO.out (goutW gg)) hll)).mono ?_
          rintro _ _ ⟨rfl, gg, rfl⟩
          go_wp2_with fail
          go_ret
          exact ⟨ret_int11 (by rw [HR.out]; simp [viol11, u2, hh]), goutW _⟩
        · refine (call_of (g := gg) (in_v hh A21 c21 gg.W (Kd.C_below HLO.out (goutW gg)) hll)).mono ?_
          rintro _ _ ⟨rfl, gg, rfl⟩
          go_wp2_with fail
          refine (call_of (g := gg) (Decl_v (PAt.out.below (goutW gg)) rfl)).mono ?_
          rintro _ _ ⟨rfl, gg, rfl⟩
          rcases Int.lt_or_le (findI ds (useV x).1) 0 with d | d
          · go_wp2_with fail
            go_ret
            exact ⟨ret_int11 (by rw [HR.out]; simp [viol11, u2, hh, d]), goutW _⟩
          · have d' : ¬ findI ds (useV x).1 < 0 := by omega
            go_wp2_with fail
            go_ret
            exact ⟨ret_int11 (by rw [HR.out]; simp [viol11, u2, hh, d']), goutW _⟩
      · go_wp2_with fail
        go_ret
        exact ⟨ret_int11 (by rw [HR.out]; simp [viol11, u2]), goutW _⟩
    · rcases bcases (useV x).2 with u2 | u2
      · go_wp2_with fail
        rcases bcases (hasS x.loops (useV x).1) with hh | hh
        · refine (call_of (g := gg) (in_v hh A21 c21 gg.W (Kd.C_below HLO.out (goutW gg)) hll)).mono ?_
          rintro _ _ ⟨rfl, gg, rfl⟩
          go_wp2_with fail
          go_ret
          exact ⟨ret_int11 (by rw [HR.out]; simp [viol11, u2, hh]), goutW _⟩
        · refine (call_of (g := gg) (in_v hh A21 c21 gg.W (Kd.C_below HLO.out (goutW gg)) hll)).mono ?_
          rintro _ _ ⟨rfl, gg, rfl⟩
          go_wp2_with fail
          refine (call_of (g := gg) (Decl_v (PAt.out.below (goutW gg)) rfl)).mono ?_
          rintro _ _ ⟨rfl, gg, rfl⟩
          rcases Int.lt_or_le (findI ds (useV x).1) 0 with d | d
          · go_wp2_with fail
            go_ret
            exact ⟨ret_int11 (by rw [HR.out]; simp [viol11, u2, hh, d]), goutW _⟩
          · have d' : ¬ findI ds (useV x).1 < 0 := by omega
            go_wp2_with fail
            go_ret
            exact ⟨ret_int11 (by rw [HR.out]; simp [viol11, u2, hh, d']), goutW _⟩
      · go_wp2_with fail
        go_ret
        exact ⟨ret_int11 (by rw [HR.out]; simp [viol11, u2]), goutW _⟩
  · rcases bcases (useV x).2 with u2 | u2
    · go_wp2_with fail
      rcases bcases (hasS x.loops (useV x).1) with hh | hh
      · refine (call_of (g := gg) (in_v hh A21 c21 gg.W (Kd.C_below HLO.out (goutW gg)) hll)).mono ?_
        rintro _ _ ⟨rfl, gg, rfl⟩
        go_wp2_with fail
        go_ret
        exact ⟨ret_int11 (by rw [HR.out]; simp [viol11, u2, hh]), goutW _⟩
      · refine (call_of (g := gg) (in_v hh A21 c21 gg.W (Kd.C_below HLO.out (goutW gg)) hll)).mono ?_
        rintro _ _ ⟨rfl, gg, rfl⟩
        go_wp2_with fail
        refine (call_of (g := gg) (Decl_v (PAt.out.below (goutW gg)) rfl)).mono ?_
        rintro _ _ ⟨rfl, gg, rfl⟩
        rcases Int.lt_or_le (findI ds (useV x).1) 0 with d | d
        · go_wp2_with fail
          go_ret
          exact ⟨ret_int11 (by rw [HR.out]; simp [viol11, u2, hh, d]), goutW _⟩
        · have d' : ¬ findI ds (useV x).1 < 0 := by omega
          go_wp2_with fail
          go_ret
          exact ⟨ret_int11 (by rw [HR.out]; simp [viol11, u2, hh, d']), goutW _⟩
    · go_wp2_with fail
      go_ret
      exact ⟨ret_int11 (by rw [HR.out]; simp [viol11, u2]), goutW _⟩
end Go.Proofs.YtfigjpehecibeaaGreat.L
end
section
namespace Go.Proofs.YtfigjpehecibeaaGreat.L
open Go.RowKit Go.Proofs.YtfigjpehecibeaaGreatW.PrintWords Go.Proofs.YtfigjpehecibeaaGreatW.PrintLast Go.Proofs.YtfigjpehecibeaaGreatW.PrintMore Go.Proofs.YtfigjpehecibeaaGreat.Gr
set_option linter.unusedVariables false
set_option linter.unusedSimpArgs false
attribute [local go_sem] G.cell
def kindV (ds : List S70) (x : TV) (s : ByteArray) : Bool := if hasS x.loops s = true then x.is == 2 && x.e.f0 == 2 else kindW (rd_T70 ds (findI ds s)) x
def viol12 (ds : List S70) (x : TV) : Bool := (useV x).2 && !kindV ds x (useV x).1
theorem kind_v (nm : ByteArray) (wd ln : Int) (ds : List S70) (bd : List S119) (A3 : Option Addr) (c3 : Nat) (A4 : Option Addr) (c4 : Nat) (x : TV) {A5 : Option Addr} {c5 : Nat} {A9 : Option Addr} {c9 : Nat} {A12 : Option Addr} {c12 : Nat} {A13 : Option Addr} {c13 : Nat} {A19 : Option Addr} {c19 : Nat} {A21 : Option Addr} {c21 : Nat} (s : ByteArray) (w : World) (hp : ProgAt w ds bd A3 c3 A4 c4)
    (hlo : Kd.string.C w A21 x.loops.length x.loops) (hll : x.loops.length ≤ c21) (hk : hasS x.loops s = false → ∃ i : Nat, i < ds.length ∧ findI ds s = (i : Int)) {b : Bool} (hb : kindV ds x s = b) :
    Calls Tryz.prog 228 #[(.agg #[.string nm, .int .i64 wd, .int .i64 ln, .slice A3 ds.length c3, .slice A4 bd.length c4]), (.agg #[.int .i64 x.is, .int .i64 x.d, .int .i64 x.s.f0, .string x.s.f1, .int .i64 x.s.f2.f0, .int .u64 x.s.f2.f1, .string x.s.f2.f2, .slice A5 x.s.f2.f3.length c5, .int .i64 x.s.f3.f0, .int .u64 x.s.f3.f1, .string x.s.f3.f2, .slice A9 x.s.f3.f3.length c9, .int .u64 x.s.f4, .int .u64 x.s.f5, .slice A12 x.s.f6.length c12, .slice A13 x.s.f7.length c13, .int .i64 x.e.f0, .int .u64 x.e.f1, .string x.e.f2, .slice A19 x.e.f3.length c19, .int .i64 x.deep, .slice A21 x.loops.length c21]), .string s] w fun e w' => e = .returned (.bool b) ∧ Below w.heap.size w w' := by
  subst hb
  unfold kindV
  rcases bcases (hasS x.loops s) with h | h
  · rw [if_pos h]
    exact kind_in nm wd ln ds bd A3 c3 A4 c4 x s w hlo hll h
  · rw [if_neg (by simp [h])]
    obtain ⟨i, hi, he⟩ := hk h
    rw [he]
    exact kind_decl nm wd ln ds bd A3 c3 A4 c4 x s w hp hlo hll h i hi he
theorem ret_int12 {a b : Int} (h : a = b) : Ending.returned (.int .i64 a) = .returned (.int .i64 b) := by rw [h]
set_option maxHeartbeats 4000000 in
set_option maxRecDepth 100000 in
theorem viol12_calls (nm : ByteArray) (wd ln : Int) (ds : List S70) (bd : List S119) (A3 : Option Addr) (c3 : Nat) (A4 : Option Addr) (c4 : Nat) (x : TV) {A5 : Option Addr} {c5 : Nat} {A9 : Option Addr} {c9 : Nat} {A12 : Option Addr} {c12 : Nat} {A13 : Option Addr} {c13 : Nat} {A19 : Option Addr} {c19 : Nat} {A21 : Option Addr} {c21 : Nat} (w : World) (hp : ProgAt w ds bd A3 c3 A4 c4)
    (hlo : Kd.string.C w A21 x.loops.length x.loops) (hll : x.loops.length ≤ c21) (hx : x.is = 0 ∨ x.is = 1 ∨ x.is = 2)
    (hk : (useV x).2 = true → hasS x.loops (useV x).1 = false → ∃ i : Nat, i < ds.length ∧ findI ds (useV x).1 = (i : Int)) (r : Int) (hr : r = if viol12 ds x = true then 162 else 0) :
    Calls Tryz.prog 146 #[(.agg #[.string nm, .int .i64 wd, .int .i64 ln, .slice A3 ds.length c3, .slice A4 bd.length c4]), (.agg #[.int .i64 x.is, .int .i64 x.d, .int .i64 x.s.f0, .string x.s.f1, .int .i64 x.s.f2.f0, .int .u64 x.s.f2.f1, .string x.s.f2.f2, .slice A5 x.s.f2.f3.length c5, .int .i64 x.s.f3.f0, .int .u64 x.s.f3.f1, .string x.s.f3.f2, .slice A9 x.s.f3.f3.length c9, .int .u64 x.s.f4, .int .u64 x.s.f5, .slice A12 x.s.f6.length c12, .slice A13 x.s.f7.length c13, .int .i64 x.e.f0, .int .u64 x.e.f1, .string x.e.f2, .slice A19 x.e.f3.length c19, .int .i64 x.deep, .slice A21 x.loops.length c21]), .int .i64 12] w fun e w' => e = .returned (.int .i64 r) ∧ Below w.heap.size w w' := by
  have gout : ∀ {o o' : Obj} (g : G ((w.alloc o).alloc o')), Below w.heap.size w g.W := fun g => (((Below.refl _ _).alloc (Nat.le_refl _) _).alloc (by simp) _).trans (g.below.mono (by simp; omega))
  have HLO := Aside0.mk hlo
  have PAt := Aside0.mk hp
  have HXX := Aside0.mk hx
  have HR := Aside0.mk hr
  clear hlo hp hx hr
  go_enter Tryz.func146, Tryz.ntmps146
  go_upto_region 1 with (fail)
  refine wp_grown0 ?_
  intro gg
  have goutW : ∀ (g : G (gw0 gg)), Below w.heap.size w g.W := fun g => gout g
  have HBK := Aside0.mk (show ∀ g : G (gw0 gg), g.W.heap[w.heap.size + 1]? = some (.cells #[.int .i64 x.is, .int .i64 x.d, .int .i64 x.s.f0, .string x.s.f1, .int .i64 x.s.f2.f0, .int .u64 x.s.f2.f1, .string x.s.f2.f2, .slice A5 x.s.f2.f3.length c5, .int .i64 x.s.f3.f0, .int .u64 x.s.f3.f1, .string x.s.f3.f2, .slice A9 x.s.f3.f3.length c9, .int .u64 x.s.f4, .int .u64 x.s.f5, .slice A12 x.s.f6.length c12, .slice A13 x.s.f7.length c13, .int .i64 x.e.f0, .int .u64 x.e.f1, .string x.e.f2, .slice A19 x.e.f3.length c19, .int .i64 x.deep, .slice A21 x.loops.length c21] 125 (0, 0)) from fun g => (g.below.block _ (by simp [gw0])).trans (heap_alloc2_new w _ _))
  go_wp2_with (refine wpList_load_row rfl 125 (.tmp 4) rfl (w.heap.size + 1) rfl 125 #[.int .i64 x.is, .int .i64 x.d, .int .i64 x.s.f0, .string x.s.f1, .int .i64 x.s.f2.f0, .int .u64 x.s.f2.f1, .string x.s.f2.f2, .slice A5 x.s.f2.f3.length c5, .int .i64 x.s.f3.f0, .int .u64 x.s.f3.f1, .string x.s.f3.f2, .slice A9 x.s.f3.f3.length c9, .int .u64 x.s.f4, .int .u64 x.s.f5, .slice A12 x.s.f6.length c12, .slice A13 x.s.f7.length c13, .int .i64 x.e.f0, .int .u64 x.e.f1, .string x.e.f2, .slice A19 x.e.f3.length c19, .int .i64 x.deep, .slice A21 x.loops.length c21] (0, 0) _ (HBK.out gg) Tryz.underlying125 rfl (by kernel_rfl) ?_)
  refine (call_of (g := gg) (names_calls x gg.W HXX.out)).mono ?_
  rintro _ _ ⟨rfl, gg, rfl⟩
  have HK := Aside0.mk hk
  clear hk
  rcases bcases (x.is == 1) with i1 | i1
  · rcases bcases (x.s.f0 == 4) with s4 | s4
    · rcases bcases (useV x).2 with u2 | u2
      · go_wp2_with (first | (refine wpList_load_row rfl 125 (.tmp 4) rfl (w.heap.size + 1) rfl 125 #[.int .i64 x.is, .int .i64 x.d, .int .i64 x.s.f0, .string x.s.f1, .int .i64 x.s.f2.f0, .int .u64 x.s.f2.f1, .string x.s.f2.f2, .slice A5 x.s.f2.f3.length c5, .int .i64 x.s.f3.f0, .int .u64 x.s.f3.f1, .string x.s.f3.f2, .slice A9 x.s.f3.f3.length c9, .int .u64 x.s.f4, .int .u64 x.s.f5, .slice A12 x.s.f6.length c12, .slice A13 x.s.f7.length c13, .int .i64 x.e.f0, .int .u64 x.e.f1, .string x.e.f2, .slice A19 x.e.f3.length c19, .int .i64 x.deep, .slice A21 x.loops.length c21] (0, 0) _ (HBK.out gg) Tryz.underlying125 rfl (by kernel_rfl) ?_) | (refine gate_guard (by rfl) ?_; refine wpList_load_row rfl 125 (.tmp 4) rfl (w.heap.size + 1) rfl 125 #[.int .i64 x.is, .int .i64 x.d, .int .i64 x.s.f0, .string x.s.f1, .int .i64 x.s.f2.f0, .int .u64 x.s.f2.f1, .string x.s.f2.f2, .slice A5 x.s.f2.f3.length c5, .int .i64 x.s.f3.f0, .int .u64 x.s.f3.f1, .string x.s.f3.f2, .slice A9 x.s.f3.f3.length c9, .int .u64 x.s.f4, .int .u64 x.s.f5, .slice A12 x.s.f6.length c12, .slice A13 x.s.f7.length c13, .int .i64 x.e.f0, .int .u64 x.e.f1, .string x.e.f2, .slice A19 x.e.f3.length c19, .int .i64 x.deep, .slice A21 x.loops.length c21] (0, 0) _ (HBK.out gg) Tryz.underlying125 rfl (by kernel_rfl) ?_))
        obtain ⟨kv, hkv⟩ : ∃ b, kindV ds x (useV x).1 = b := ⟨_, rfl⟩
        have KC := kind_v nm wd ln ds bd A3 c3 A4 c4 x (A5 := A5) (c5 := c5) (A9 := A9) (c9 := c9) (A12 := A12) (c12 := c12) (A13 := A13) (c13 := c13) (A19 := A19) (c19 := c19) (useV x).1 gg.W (PAt.out.below (goutW gg)) (Kd.C_below HLO.out (goutW gg)) hll (HK.out u2) hkv
        refine (call_of (g := gg) KC).mono ?_
        clear KC
        rintro _ _ ⟨rfl, gg, rfl⟩
        have HKV := Aside0.mk hkv
        clear hkv
        cases kv
        · go_wp2_with fail
          go_ret
          exact ⟨ret_int12 (by rw [HR.out]; simp [viol12, u2, HKV.out]), goutW _⟩
        · go_wp2_with fail
          go_ret
          exact ⟨ret_int12 (by rw [HR.out]; simp [viol12, u2, HKV.out]), goutW _⟩
      · go_wp2_with fail
        go_ret
        exact ⟨ret_int12 (by rw [HR.out]; simp [viol12, u2]), goutW _⟩
    · rcases bcases (useV x).2 with u2 | u2
      · go_wp2_with (first | (refine wpList_load_row rfl 125 (.tmp 4) rfl (w.heap.size + 1) rfl 125 #[.int .i64 x.is, .int .i64 x.d, .int .i64 x.s.f0, .string x.s.f1, .int .i64 x.s.f2.f0, .int .u64 x.s.f2.f1, .string x.s.f2.f2, .slice A5 x.s.f2.f3.length c5, .int .i64 x.s.f3.f0, .int .u64 x.s.f3.f1, .string x.s.f3.f2, .slice A9 x.s.f3.f3.length c9, .int .u64 x.s.f4, .int .u64 x.s.f5, .slice A12 x.s.f6.length c12, .slice A13 x.s.f7.length c13, .int .i64 x.e.f0, .int .u64 x.e.f1, .string x.e.f2, .slice A19 x.e.f3.length c19, .int .i64 x.deep, .slice A21 x.loops.length c21] (0, 0) _ (HBK.out gg) Tryz.underlying125 rfl (by kernel_rfl) ?_) | (refine gate_guard (by rfl) ?_; refine wpList_load_row rfl 125 (.tmp 4) rfl (w.heap.size + 1) rfl 125 #[.int .i64 x.is, .int .i64 x.d, .int .i64 x.s.f0, .string x.s.f1, .int .i64 x.s.f2.f0, .int .u64 x.s.f2.f1, .string x.s.f2.f2, .slice A5 x.s.f2.f3.length c5, .int .i64 x.s.f3.f0, .int .u64 x.s.f3.f1, .string x.s.f3.f2, .slice A9 x.s.f3.f3.length c9, .int .u64 x.s.f4, .int .u64 x.s.f5, .slice A12 x.s.f6.length c12, .slice A13 x.s.f7.length c13, .int .i64 x.e.f0, .int .u64 x.e.f1, .string x.e.f2, .slice A19 x.e.f3.length c19, .int .i64 x.deep, .slice A21 x.loops.length c21] (0, 0) _ (HBK.out gg) Tryz.underlying125 rfl (by kernel_rfl) ?_))
        obtain ⟨kv, hkv⟩ : ∃ b, kindV ds x (useV x).1 = b := ⟨_, rfl⟩
        have KC := kind_v nm wd ln ds bd A3 c3 A4 c4 x (A5 := A5) (c5 := c5) (A9 := A9) (c9 := c9) (A12 := A12) (c12 := c12) (A13 := A13) (c13 := c13) (A19 := A19) (c19 := c19) (useV x).1 gg.W (PAt.out.below (goutW gg)) (Kd.C_below HLO.out (goutW gg)) hll (HK.out u2) hkv
        refine (call_of (g := gg) KC).mono ?_
        clear KC
        rintro _ _ ⟨rfl, gg, rfl⟩
        have HKV := Aside0.mk hkv
        clear hkv
        cases kv
        · go_wp2_with fail
          go_ret
          exact ⟨ret_int12 (by rw [HR.out]; simp [viol12, u2, HKV.out]), goutW _⟩
        · go_wp2_with fail
          go_ret
          exact ⟨ret_int12 (by rw [HR.out]; simp [viol12, u2, HKV.out]), goutW _⟩
      · go_wp2_with fail
        go_ret
        exact ⟨ret_int12 (by rw [HR.out]; simp [viol12, u2]), goutW _⟩
  · rcases bcases (useV x).2 with u2 | u2
    · go_wp2_with (first | (refine wpList_load_row rfl 125 (.tmp 4) rfl (w.heap.size + 1) rfl 125 #[.int .i64 x.is, .int .i64 x.d, .int .i64 x.s.f0, .string x.s.f1, .int .i64 x.s.f2.f0, .int .u64 x.s.f2.f1, .string x.s.f2.f2, .slice A5 x.s.f2.f3.length c5, .int .i64 x.s.f3.f0, .int .u64 x.s.f3.f1, .string x.s.f3.f2, .slice A9 x.s.f3.f3.length c9, .int .u64 x.s.f4, .int .u64 x.s.f5, .slice A12 x.s.f6.length c12, .slice A13 x.s.f7.length c13, .int .i64 x.e.f0, .int .u64 x.e.f1, .string x.e.f2, .slice A19 x.e.f3.length c19, .int .i64 x.deep, .slice A21 x.loops.length c21] (0, 0) _ (HBK.out gg) Tryz.underlying125 rfl (by kernel_rfl) ?_) | (refine gate_guard (by rfl) ?_; refine wpList_load_row rfl 125 (.tmp 4) rfl (w.heap.size + 1) rfl 125 #[.int .i64 x.is, .int .i64 x.d, .int .i64 x.s.f0, .string x.s.f1, .int .i64 x.s.f2.f0, .int .u64 x.s.f2.f1, .string x.s.f2.f2, .slice A5 x.s.f2.f3.length c5, .int .i64 x.s.f3.f0, .int .u64 x.s.f3.f1, .string x.s.f3.f2, .slice A9 x.s.f3.f3.length c9, .int .u64 x.s.f4, .int .u64 x.s.f5, .slice A12 x.s.f6.length c12, .slice A13 x.s.f7.length c13, .int .i64 x.e.f0, .int .u64 x.e.f1, .string x.e.f2, .slice A19 x.e.f3.length c19, .int .i64 x.deep, .slice A21 x.loops.length c21] (0, 0) _ (HBK.out gg) Tryz.underlying125 rfl (by kernel_rfl) ?_))
      obtain ⟨kv, hkv⟩ : ∃ b, kindV ds x (useV x).1 = b := ⟨_, rfl⟩
      have KC := kind_v nm wd ln ds bd A3 c3 A4 c4 x (A5 := A5) (c5 := c5) (A9 := A9) (c9 := c9) (A12 := A12) (c12 := c12) (A13 := A13) (c13 := c13) (A19 := A19) (c19 := c19) (useV x).1 gg.W (PAt.out.below (goutW gg)) (Kd.C_below HLO.out (goutW gg)) hll (HK.out u2) hkv
      refine (call_of (g := gg) KC).mono ?_
      clear KC
      rintro _ _ ⟨rfl, gg, rfl⟩
      have HKV := Aside0.mk hkv
      clear hkv
      cases kv
      · go_wp2_with fail
        go_ret
        exact ⟨ret_int12 (by rw [HR.out]; simp [viol12, u2, HKV.out]), goutW _⟩
      · go_wp2_with fail
        go_ret
        exact ⟨ret_int12 (by rw [HR.out]; simp [viol12, u2, HKV.out]), goutW _⟩
    · go_wp2_with fail
      go_ret
      exact ⟨ret_int12 (by rw [HR.out]; simp [viol12, u2]), goutW _⟩
end Go.Proofs.YtfigjpehecibeaaGreat.L
end
section
namespace Go.Proofs.YtfigjpehecibeaaGreat.L
open Go.RowKit Go.Proofs.YtfigjpehecibeaaGreatW.PrintWords Go.Proofs.YtfigjpehecibeaaGreatW.PrintLast Go.Proofs.YtfigjpehecibeaaGreatW.PrintMore Go.Proofs.YtfigjpehecibeaaGreat.Gr
set_option linter.unusedVariables false
set_option linter.unusedSimpArgs false
attribute [local go_sem] G.cell
def viol13 (wd : Int) (x : TV) : Bool := x.is == 2 && x.e.f0 == 1 && !fitsB wd x.e.f1
theorem ret_int13 {a b : Int} (h : a = b) : Ending.returned (.int .i64 a) = .returned (.int .i64 b) := by rw [h]
set_option maxHeartbeats 4000000 in
set_option maxRecDepth 100000 in
theorem viol13_calls (nm : ByteArray) (wd ln : Int) (ds : List S70) (bd : List S119) (A3 : Option Addr) (c3 : Nat) (A4 : Option Addr) (c4 : Nat) (x : TV) {A5 : Option Addr} {c5 : Nat} {A9 : Option Addr} {c9 : Nat} {A12 : Option Addr} {c12 : Nat} {A13 : Option Addr} {c13 : Nat} {A19 : Option Addr} {c19 : Nat} {A21 : Option Addr} {c21 : Nat} (w : World) (hp : ProgAt w ds bd A3 c3 A4 c4)
    (hlo : Kd.string.C w A21 x.loops.length x.loops) (hll : x.loops.length ≤ c21) (hx : x.is = 0 ∨ x.is = 1 ∨ x.is = 2) (hw : 0 ≤ wd) (hn : 0 ≤ x.e.f1) (r : Int) (hr : r = if viol13 wd x = true then 165 else 0) :
    Calls Tryz.prog 146 #[(.agg #[.string nm, .int .i64 wd, .int .i64 ln, .slice A3 ds.length c3, .slice A4 bd.length c4]), (.agg #[.int .i64 x.is, .int .i64 x.d, .int .i64 x.s.f0, .string x.s.f1, .int .i64 x.s.f2.f0, .int .u64 x.s.f2.f1, .string x.s.f2.f2, .slice A5 x.s.f2.f3.length c5, .int .i64 x.s.f3.f0, .int .u64 x.s.f3.f1, .string x.s.f3.f2, .slice A9 x.s.f3.f3.length c9, .int .u64 x.s.f4, .int .u64 x.s.f5, .slice A12 x.s.f6.length c12, .slice A13 x.s.f7.length c13, .int .i64 x.e.f0, .int .u64 x.e.f1, .string x.e.f2, .slice A19 x.e.f3.length c19, .int .i64 x.deep, .slice A21 x.loops.length c21]), .int .i64 13] w fun e w' => e = .returned (.int .i64 r) ∧ Below w.heap.size w w' := by
  have gout : ∀ {o o' : Obj} (g : G ((w.alloc o).alloc o')), Below w.heap.size w g.W := fun g => (((Below.refl _ _).alloc (Nat.le_refl _) _).alloc (by simp) _).trans (g.below.mono (by simp; omega))
  have HLO := Aside0.mk hlo
  have PAt := Aside0.mk hp
  have HXX := Aside0.mk hx
  have HR := Aside0.mk hr
  clear hlo hp hx hr
  go_enter Tryz.func146, Tryz.ntmps146
  go_upto_region 1 with (fail)
  refine wp_grown0 ?_
  intro gg
  have goutW : ∀ (g : G (gw0 gg)), Below w.heap.size w g.W := fun g => gout g
  have HBK := Aside0.mk (show ∀ g : G (gw0 gg), g.W.heap[w.heap.size + 1]? = some (.cells #[.int .i64 x.is, .int .i64 x.d, .int .i64 x.s.f0, .string x.s.f1, .int .i64 x.s.f2.f0, .int .u64 x.s.f2.f1, .string x.s.f2.f2, .slice A5 x.s.f2.f3.length c5, .int .i64 x.s.f3.f0, .int .u64 x.s.f3.f1, .string x.s.f3.f2, .slice A9 x.s.f3.f3.length c9, .int .u64 x.s.f4, .int .u64 x.s.f5, .slice A12 x.s.f6.length c12, .slice A13 x.s.f7.length c13, .int .i64 x.e.f0, .int .u64 x.e.f1, .string x.e.f2, .slice A19 x.e.f3.length c19, .int .i64 x.deep, .slice A21 x.loops.length c21] 125 (0, 0)) from fun g => (g.below.block _ (by simp [gw0])).trans (heap_alloc2_new w _ _))
  go_wp2_with (refine wpList_load_row rfl 125 (.tmp 4) rfl (w.heap.size + 1) rfl 125 #[.int .i64 x.is, .int .i64 x.d, .int .i64 x.s.f0, .string x.s.f1, .int .i64 x.s.f2.f0, .int .u64 x.s.f2.f1, .string x.s.f2.f2, .slice A5 x.s.f2.f3.length c5, .int .i64 x.s.f3.f0, .int .u64 x.s.f3.f1, .string x.s.f3.f2, .slice A9 x.s.f3.f3.length c9, .int .u64 x.s.f4, .int .u64 x.s.f5, .slice A12 x.s.f6.length c12, .slice A13 x.s.f7.length c13, .int .i64 x.e.f0, .int .u64 x.e.f1, .string x.e.f2, .slice A19 x.e.f3.length c19, .int .i64 x.deep, .slice A21 x.loops.length c21] (0, 0) _ (HBK.out gg) Tryz.underlying125 rfl (by kernel_rfl) ?_)
  refine (call_of (g := gg) (names_calls x gg.W HXX.out)).mono ?_
  rintro _ _ ⟨rfl, gg, rfl⟩
  rcases bcases (x.is == 2) with i2 | i2
  · have i1 : (x.is == 1) = false := by have := beq_iff_eq.1 i2; rw [this]; rfl
    rcases bcases (x.e.f0 == 1) with e1 | e1
    · go_wp2_with fail
      rcases bcases (fitsB wd x.e.f1) with hf | hf
      · refine (call_of (g := gg) (fits_v hf hw hn gg.W)).mono ?_
        rintro _ _ ⟨rfl, gg, rfl⟩
        go_wp2_with fail
        go_ret
        exact ⟨ret_int13 (by rw [HR.out]; simp [viol13, i2, e1, hf]), goutW _⟩
      · refine (call_of (g := gg) (fits_v hf hw hn gg.W)).mono ?_
        rintro _ _ ⟨rfl, gg, rfl⟩
        go_wp2_with fail
        go_ret
        exact ⟨ret_int13 (by rw [HR.out]; simp [viol13, i2, e1, hf]), goutW _⟩
    · go_wp2_with fail
      go_ret
      exact ⟨ret_int13 (by rw [HR.out]; simp [viol13, i2, e1]), goutW _⟩
  · rcases bcases (x.is == 1) with i1 | i1
    · rcases bcases (x.s.f0 == 4) with s4 | s4
      · go_wp2_with fail
        go_ret
        exact ⟨ret_int13 (by rw [HR.out]; simp [viol13, i2]), goutW _⟩
      · go_wp2_with fail
        go_ret
        exact ⟨ret_int13 (by rw [HR.out]; simp [viol13, i2]), goutW _⟩
    · go_wp2_with fail
      go_ret
      exact ⟨ret_int13 (by rw [HR.out]; simp [viol13, i2]), goutW _⟩
end Go.Proofs.YtfigjpehecibeaaGreat.L
end
section
namespace Go.Proofs.YtfigjpehecibeaaGreat.L
open Go.RowKit Go.Proofs.YtfigjpehecibeaaGreatW.PrintWords Go.Proofs.YtfigjpehecibeaaGreatW.PrintLast Go.Proofs.YtfigjpehecibeaaGreatW.PrintMore Go.Proofs.YtfigjpehecibeaaGreat.Gr
set_option linter.unusedVariables false
set_option linter.unusedSimpArgs false
attribute [local go_sem] G.cell
def viol14 (wd : Int) (x : TV) : Bool := x.is == 1 && x.s.f0 == 4 && (decide (x.s.f5 < x.s.f4) || (decide (0 < x.s.f5) && !fitsB wd (x.s.f5 - 1)))
theorem u64_pred {z : Int} (h0 : 0 < z) (h1 : z < 18446744073709551616) : IntKind.u64.wrap (z - 1) = z - 1 := by simp only [IntKind.wrap, IntKind.bits, IntKind.signed, Bool.false_and, Bool.false_eq_true, if_false]; omega
theorem ret_int14 {a b : Int} (h : a = b) : Ending.returned (.int .i64 a) = .returned (.int .i64 b) := by rw [h]
set_option maxHeartbeats 4000000 in
set_option maxRecDepth 100000 in
theorem viol14_calls (nm : ByteArray) (wd ln : Int) (ds : List S70) (bd : List S119) (A3 : Option Addr) (c3 : Nat) (A4 : Option Addr) (c4 : Nat) (x : TV) {A5 : Option Addr} {c5 : Nat} {A9 : Option Addr} {c9 : Nat} {A12 : Option Addr} {c12 : Nat} {A13 : Option Addr} {c13 : Nat} {A19 : Option Addr} {c19 : Nat} {A21 : Option Addr} {c21 : Nat} (w : World) (hp : ProgAt w ds bd A3 c3 A4 c4)
    (hlo : Kd.string.C w A21 x.loops.length x.loops) (hll : x.loops.length ≤ c21) (hx : x.is = 0 ∨ x.is = 1 ∨ x.is = 2) (hw : 0 ≤ wd) (hn : 0 ≤ x.s.f5 ∧ x.s.f5 < 18446744073709551616) (r : Int) (hr : r = if viol14 wd x = true then 166 else 0) :
    Calls Tryz.prog 146 #[(.agg #[.string nm, .int .i64 wd, .int .i64 ln, .slice A3 ds.length c3, .slice A4 bd.length c4]), (.agg #[.int .i64 x.is, .int .i64 x.d, .int .i64 x.s.f0, .string x.s.f1, .int .i64 x.s.f2.f0, .int .u64 x.s.f2.f1, .string x.s.f2.f2, .slice A5 x.s.f2.f3.length c5, .int .i64 x.s.f3.f0, .int .u64 x.s.f3.f1, .string x.s.f3.f2, .slice A9 x.s.f3.f3.length c9, .int .u64 x.s.f4, .int .u64 x.s.f5, .slice A12 x.s.f6.length c12, .slice A13 x.s.f7.length c13, .int .i64 x.e.f0, .int .u64 x.e.f1, .string x.e.f2, .slice A19 x.e.f3.length c19, .int .i64 x.deep, .slice A21 x.loops.length c21]), .int .i64 14] w fun e w' => e = .returned (.int .i64 r) ∧ Below w.heap.size w w' := by
  have gout : ∀ {o o' : Obj} (g : G ((w.alloc o).alloc o')), Below w.heap.size w g.W := fun g => (((Below.refl _ _).alloc (Nat.le_refl _) _).alloc (by simp) _).trans (g.below.mono (by simp; omega))
  have HLO := Aside0.mk hlo
  have PAt := Aside0.mk hp
  have HXX := Aside0.mk hx
  have HR := Aside0.mk hr
  clear hlo hp hx hr
  go_enter Tryz.func146, Tryz.ntmps146
  go_upto_region 1 with (fail)
  refine wp_grown0 ?_
  intro gg
  have goutW : ∀ (g : G (gw0 gg)), Below w.heap.size w g.W := fun g => gout g
  have HBK := Aside0.mk (show ∀ g : G (gw0 gg), g.W.heap[w.heap.size + 1]? = some (.cells #[.int .i64 x.is, .int .i64 x.d, .int .i64 x.s.f0, .string x.s.f1, .int .i64 x.s.f2.f0, .int .u64 x.s.f2.f1, .string x.s.f2.f2, .slice A5 x.s.f2.f3.length c5, .int .i64 x.s.f3.f0, .int .u64 x.s.f3.f1, .string x.s.f3.f2, .slice A9 x.s.f3.f3.length c9, .int .u64 x.s.f4, .int .u64 x.s.f5, .slice A12 x.s.f6.length c12, .slice A13 x.s.f7.length c13, .int .i64 x.e.f0, .int .u64 x.e.f1, .string x.e.f2, .slice A19 x.e.f3.length c19, .int .i64 x.deep, .slice A21 x.loops.length c21] 125 (0, 0)) from fun g => (g.below.block _ (by simp [gw0])).trans (heap_alloc2_new w _ _))
  go_wp2_with (refine wpList_load_row rfl 125 (.tmp 4) rfl (w.heap.size + 1) rfl 125 #[.int .i64 x.is, .int .i64 x.d, .int .i64 x.s.f0, .string x.s.f1, .int .i64 x.s.f2.f0, .int .u64 x.s.f2.f1, .string x.s.f2.f2, .slice A5 x.s.f2.f3.length c5, .int .i64 x.s.f3.f0, .int .u64 x.s.f3.f1, .string x.s.f3.f2, .slice A9 x.s.f3.f3.length c9, .int .u64 x.s.f4, .int .u64 x.s.f5, .slice A12 x.s.f6.length c12, .slice A13 x.s.f7.length c13, .int .i64 x.e.f0, .int .u64 x.e.f1, .string x.e.f2, .slice A19 x.e.f3.length c19, .int .i64 x.deep, .slice A21 x.loops.length c21] (0, 0) _ (HBK.out gg) Tryz.underlying125 rfl (by kernel_rfl) ?_)
  refine (call_of (g := gg) (names_calls x gg.W HXX.out)).mono ?_
  rintro _ _ ⟨rfl, gg, rfl⟩
  have HN := Aside0.mk hn
  clear hn
  rcases bcases (x.is == 1) with i1 | i1
  · rcases bcases (x.s.f0 == 4) with s4 | s4
    · rcases Int.lt_or_le x.s.f5 x.s.f4 with d | d
      · go_wp2_with fail
        go_ret
        exact ⟨ret_int14 (by rw [HR.out]; simp [viol14, i1, s4, d]), goutW _⟩
      · have d' : ¬ x.s.f5 < x.s.f4 := by omega
        rcases Int.lt_or_le 0 x.s.f5 with p | p
        · go_wp2_with fail
          obtain ⟨z, hz⟩ : ∃ z, z = x.s.f5 - 1 := ⟨_, rfl⟩
          rw [show IntKind.u64.wrap (x.s.f5 - 1) = z by rw [hz]; exact u64_pred p HN.out.2]
          have HZ := Aside0.mk hz
          rcases bcases (fitsB wd z) with hf | hf
          · refine (call_of (g := gg) (fits_v hf hw (by have := HZ.out; omega) gg.W)).mono ?_
            rintro _ _ ⟨rfl, gg, rfl⟩
            clear hz
            go_wp2_with fail
            go_ret
            exact ⟨ret_int14 (by rw [HR.out]; rw [HZ.out] at hf; simp [viol14, i1, s4, d', p, hf]), goutW _⟩
          · refine (call_of (g := gg) (fits_v hf hw (by have := HZ.out; omega) gg.W)).mono ?_
            rintro _ _ ⟨rfl, gg, rfl⟩
            clear hz
            go_wp2_with fail
            go_ret
            exact ⟨ret_int14 (by rw [HR.out]; rw [HZ.out] at hf; simp [viol14, i1, s4, d', p, hf]), goutW _⟩
        · have p' : ¬ 0 < x.s.f5 := by omega
          have P := Aside0.mk (decide_eq_false p')
          go_wp2_with fail
          go_ret
          exact ⟨ret_int14 (by rw [HR.out]; simp [viol14, i1, s4, d', P.out]), goutW _⟩
    · go_wp2_with fail
      go_ret
      exact ⟨ret_int14 (by rw [HR.out]; simp [viol14, i1, s4]), goutW _⟩
  · go_wp2_with fail
    go_ret
    exact ⟨ret_int14 (by rw [HR.out]; simp [viol14, i1]), goutW _⟩
end Go.Proofs.YtfigjpehecibeaaGreat.L
end
