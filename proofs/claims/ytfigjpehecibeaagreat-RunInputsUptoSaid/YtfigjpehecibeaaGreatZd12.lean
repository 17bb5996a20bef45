/- Texts joined by a program of mine: Wy Wl Lr. -/
import Derived.Test.YtfigjpehecibeaaGreatZd8
import Derived.Test.YtfigjpehecibeaaGreatZd11
section
namespace Go.Proofs.YtfigjpehecibeaaGreat.L
open Go.RowKit Go.Proofs.YtfigjpehecibeaaGreatW.PrintWords Go.Proofs.YtfigjpehecibeaaGreatW.PrintLast Go.Proofs.YtfigjpehecibeaaGreatW.PrintMore Go.Proofs.YtfigjpehecibeaaGreat.Gr
set_option linter.unusedVariables false
set_option linter.unusedSimpArgs false
def H (W0 wb : World) (v : Value) := { p : World × Value // Gro W0 wb p.1 v p.2 }
def H.W {W0 wb : World} {v : Value} (h : H W0 wb v) : World := h.1.1
def H.v {W0 wb : World} {v : Value} (h : H W0 wb v) : Value := h.1.2
theorem H.gro {W0 wb : World} {v : Value} (h : H W0 wb v) : Gro W0 wb h.W v h.v := h.2
def mkH {W0 wb w : World} {v v1 : Value} (h : Gro W0 wb w v v1) : H W0 wb v := ⟨(w, v1), h⟩
theorem H.cell {W0 wb : World} {v : Value} (h : H W0 wb v) {b o : Nat} (hb : b < wb.heap.size) (hn : some b ≠ v.ownBlock) : h.W.cell? ⟨b, o, none⟩ = wb.cell? ⟨b, o, none⟩ := h.gro.cell (a := ⟨b, o, none⟩) hb hn
attribute [local go_sem] G.cell H.cell
theorem under78 : Tryz.prog.underlying 52 = some (.slice 9) := by kernel_rfl
def StmtsC (l : List S119) : Prop := ∀ (W0 w : World) (v lv : Value) (xs : List Th) (lo : List ByteArray) (A : Option Addr) (c d : Nat) (dI : Int), dI = (d : Int) → Below W0.heap.size W0 w → k119.C W0 A l.length l → l.length ≤ c →
  Li 125 W0 w v xs → Lo W0 w v lv lo → xs.length + Ot.bulkTs l ≤ 8388608 → d + Ot.bulkTs l ≤ 8388608 → lo.length ≤ d →
  Calls Tryz.prog 127 #[v, .slice A l.length c, .int .i64 dI, lv] w fun r w' => ∃ v1, r = .returned v1 ∧ Li 125 W0 w' v1 (xs ++ stThs l d lo) ∧ Gro W0 w w' v v1
theorem bulkTs_mem {l : List S119} {x : S119} (h : x ∈ l) : Ot.bulkT x ≤ Ot.bulkTs l := by
  induction l with
  | nil => cases h
  | cons y r ih =>
    rw [Ot.bulkTs]
    rcases List.mem_cons.1 h with rfl | h
    · omega
    · have := ih h; omega
theorem bulkTs_append (l r : List S119) : Ot.bulkTs (l ++ r) = Ot.bulkTs l + Ot.bulkTs r := by
  induction l with
  | nil => simp [Ot.bulkTs]
  | cons y s ih => rw [List.cons_append, Ot.bulkTs, ih, Ot.bulkTs]; omega
theorem bulkTs_take (l : List S119) (k : Nat) : Ot.bulkTs (l.take k) ≤ Ot.bulkTs l := by
  have h := bulkTs_append (l.take k) (l.drop k)
  rw [List.take_append_drop] at h
  omega
theorem bulkT_eq (x : S119) : Ot.bulkT x = 1 + Ot.bulkE x.f2 + Ot.bulkE x.f3 + Ot.bulkTs x.f6 + Ot.bulkTs x.f7 := by
  obtain ⟨a, b, c, d, e, f, g, h⟩ := x
  rw [Ot.bulkT]
theorem reps_nil {w : World} {b : Nat} {ok : Nat → Prop} : Reps (Kd.string.M w b ok) Kd.string.sz [] [] := ⟨rfl, fun j p hj => by simp at hj⟩
theorem R_lt {α : Type} {d : Kd α} {e : Nat} {w : World} {base : Nat} {ok : Nat → Prop} {v : Value} {xs : List α} (h : d.R e w base ok v xs) : ∀ k, v.ownBlock = some k → k < w.heap.size := by
  obtain ⟨_, inner, ho, _⟩ := h
  exact fun k hk => own_lt ho k hk
theorem R_apart {α : Type} {d : Kd α} {e : Nat} {w w1 : World} {base : Nat} {ok : Nat → Prop} {v u : Value} {xs : List α} (h : d.R e w base ok v xs) (hg : w.grownBy w1 none) {b : Nat} (hb : u.ownBlock = some b) (hle : w.heap.size ≤ b) : d.R e w1 base (fun k => some k ≠ u.ownBlock) v xs :=
  Kd.R_mono (Kd.R_grown (Kd.R_bound h) hg (fun _ _ => by simp)) (fun k hk he => by
    rw [hb] at he
    injection he with he
    have := hk.2.2.1
    omega)
theorem Lo.reads {W0 w : World} {v : Value} {A : Option Addr} {n c : Nat} {lo : List ByteArray} (h : Lo W0 w v (.slice A n c) lo) : Kd.string.C w A lo.length lo := by
  obtain ⟨A', c', e, l, g⟩ := Kd.R_reads h
  injection e with e1 e2 e3
  subst e1
  exact g
theorem Lo.new {W0 w w1 : World} {v lv : Value} {lo : List ByteArray} (hv : ∀ k, v.ownBlock = some k → k < w.heap.size) (hb : W0.heap.size ≤ w.heap.size) (h : Kd.string.R 9 w1 w.heap.size (fun _ => True) lv lo) : Lo W0 w1 v lv lo :=
  Kd.R_lower (Kd.R_mono (Kd.R_bound h) (fun k hk he => by
    have h1 := hk.2.1
    have h2 := hv k he.symm
    omega)) hb
set_option maxHeartbeats 8000000 in
set_option maxRecDepth 100000 in
theorem stmts_walk (l : List S119) (ih : ∀ x ∈ l, StmtsC x.f6 ∧ StmtsC x.f7) : StmtsC l := by
  intro W0 w v lv xs lo A c d dI hdI hb hc hl HL HO hn hd hld
  obtain ⟨La, lc, rfl⟩ := Kd.R_slice HO
  have IH := Aside0.mk ih
  have HC := Aside0.mk hc
  have HB := Aside0.mk hb
  have HLi := Aside0.mk HL
  have HLo := Aside0.mk HO
  have HN := Aside0.mk (And.intro hn (And.intro hd hld))
  subst hdI
  have hlm := hc.2.1
  clear ih hc hb HL HO hn hd hld
  go_enter Tryz.func127, Tryz.ntmps127
  go_wp2_with fail
  go_loopw [9, 0] (fun i l2 W => ∃ (k : Nat) (l1 : Value) (W1 : World), i = .int .i64 k ∧ l1 = l2 ∧ W1 = W ∧ k ≤ l.length ∧ Aside0 (Li 125 W0 W1 l1 (xs ++ stThs (l.take k) d lo) ∧ Gro W0 w W1 v l1 ∧ Lo W0 W1 l1 (.slice La lo.length lc) lo)) (fun i _ _ => l.length - (intOf i).toNat)
  case atStart => exact ⟨0, _, _, rfl, rfl, rfl, Nat.zero_le _, ⟨by simpa [stThs] using HLi.out, Gro.of_below v HB.out (Below.refl _ _), HLo.out⟩⟩
  case round =>
    obtain ⟨k, l1, W1, rfl, rfl, rfl, hk, HREL⟩ := hrel
    by_cases hlt : k < l.length
    · obtain ⟨ad, A5, c5, A9, c9, A12, c12, A13, c13, e1, q0, q1, q2, q3, q4, q5, q6, q7, q8, q9, q10, q11, q12, q13, l5, g5, l9, g9, l12, g12, l13, g13⟩ := at_T119 HC.out (k : Int) (Int.natCast_nonneg _) (by omega)
      cases e1
      rw [Int.toNat_natCast] at q0 q1 q2 q3 q4 q5 q6 q7 q8 q9 q10 q11 q12 q13
      have hBB := HREL.out.2.1.below
      replace q0 := (hBB.cell (World.block_lt_of_cell? W0 _ q0)).trans q0
      replace q1 := (hBB.cell (World.block_lt_of_cell? W0 _ q1)).trans q1
      replace q2 := (hBB.cell (World.block_lt_of_cell? W0 _ q2)).trans q2
      replace q3 := (hBB.cell (World.block_lt_of_cell? W0 _ q3)).trans q3
      replace q4 := (hBB.cell (World.block_lt_of_cell? W0 _ q4)).trans q4
      replace q5 := (hBB.cell (World.block_lt_of_cell? W0 _ q5)).trans q5
      replace q6 := (hBB.cell (World.block_lt_of_cell? W0 _ q6)).trans q6
      replace q7 := (hBB.cell (World.block_lt_of_cell? W0 _ q7)).trans q7
      replace q8 := (hBB.cell (World.block_lt_of_cell? W0 _ q8)).trans q8
      replace q9 := (hBB.cell (World.block_lt_of_cell? W0 _ q9)).trans q9
      replace q10 := (hBB.cell (World.block_lt_of_cell? W0 _ q10)).trans q10
      replace q11 := (hBB.cell (World.block_lt_of_cell? W0 _ q11)).trans q11
      replace q12 := (hBB.cell (World.block_lt_of_cell? W0 _ q12)).trans q12
      replace q13 := (hBB.cell (World.block_lt_of_cell? W0 _ q13)).trans q13
      have hi1 : (k : Int) < (l.length : Int) := by omega
      have K := Aside0.mk (And.intro l5 (And.intro g5 (And.intro l9 (And.intro g9 (And.intro l12 (And.intro g12 (And.intro l13 g13)))))))
      have HBB := Aside0.mk hBB
      clear l5 g5 l9 g9 l12 g12 l13 g13 hBB
      have MEM := rd77_mem' hlt
      have T := Aside0.mk (congrArg (fun l => stThs l d lo) (take_rd119 hlt))
      have T2 := Aside0.mk (And.intro (congrArg Ot.bulkTs (take_rd119 hlt)) (bulkTs_take l (k + 1)))
      have IH1 := Aside0.mk (IH.out _ MEM)
      clear MEM
      generalize rd_T119 l (k : Int) = y at *
      have HSZ : xs.length + (stThs (l.take k) d lo).length + Ot.bulkT y ≤ 8388608 ∧ d + Ot.bulkT y ≤ 8388608 := by
        obtain ⟨h1, h2⟩ := T2.out
        obtain ⟨h3, h4, _⟩ := HN.out
        have h5 := stThs_len (l.take k) d lo
        rw [bulkTs_append] at h1
        simp only [Ot.bulkTs] at h1
        omega
      have HS := Aside0.mk HSZ
      clear HSZ
      have hvl := Aside0.mk (Li.lt HREL.out.1)
      have hne : some W1.heap.size ≠ l1.ownBlock := some_ne_of_lt hvl.out (Nat.le_refl _)
      have kk : y.f0 = 1 ∨ y.f0 = 3 ∨ y.f0 = 2 ∨ y.f0 = 4 ∨ (¬ y.f0 = 1 ∧ ¬ y.f0 = 3 ∧ ¬ y.f0 = 2 ∧ ¬ y.f0 = 4) := by omega
      rcases kk with h0 | h0 | h0 | h0 | ⟨n1, n3, n2, n4⟩
      · rw [h0] at q0
        have H0 := Aside0.mk h0
        clear h0
        go_upto_region 5 with (fail)
        refine wp_grown0 ?_
        intro gg
        have gout : ∀ {o : Obj} (g : G (W1.alloc o)), Below W1.heap.size W1 g.W := fun g => ((Below.refl _ _).alloc (Nat.le_refl _) _).trans (g.below.mono (by simp))
        go_wp2_with ((with_reducible refine gate_builtin (b := .append) (xs := #[.tmp 22, .tmp 27]) rfl ?_); at_builtin; refine Kd.R_append (kTh W0) (w0 := W0) W0.heap.size rfl (.tmp 22) (.tmp 27) 112 125 zTh 304 rfl under70 info80 rfl (show 0 < 22 by decide) (by decide) l1 ((xs ++ stThs (l.take k) d lo).map toTV) (toTV (.stmt y d lo)) [.int .i64 1, .int .i64 0, .int .i64 1, .string y.f1, .int .i64 y.f2.f0, .int .u64 y.f2.f1, .string y.f2.f2, .slice A5 y.f2.f3.length c5, .int .i64 y.f3.f0, .int .u64 y.f3.f1, .string y.f3.f2, .slice A9 y.f3.f3.length c9, .int .u64 y.f4, .int .u64 y.f5, .slice A12 y.f6.length c12, .slice A13 y.f7.length c13, .int .i64 0, .int .u64 0, .string ⟨#[]⟩, .slice none 0 0, .int .i64 (d : Int), .slice La lo.length lc] (fun _ => True) (fun k => some k ≠ l1.ownBlock) rfl rfl (by have hm := (kTh_mk (x := toTV (.stmt y d lo)) (k119_mk W0 y K.out.1 K.out.2.1 K.out.2.2.1 K.out.2.2.2.1 K.out.2.2.2.2.1 K.out.2.2.2.2.2.1 K.out.2.2.2.2.2.2.1 K.out.2.2.2.2.2.2.2) (k116_zero W0) (HREL.out.2.2.below (gout gg))); rw [H0.out] at hm; exact hm) (fun _ h => ⟨trivial, h⟩) (fun _ _ => trivial) (HREL.out.1.below (gout gg)) (HBB.out.trans ((gout gg).mono HBB.out.size)) (Nat.le_trans HBB.out.size (gout gg).size) (by have := HS.out; have := bulkT_eq y; simp; omega) ?_; intro v2 w2 ho hb2 hg2 hat2; obtain ⟨h, rfl, rfl⟩ : ∃ h : H W0 (gw0 gg) l1, h.W = w2 ∧ h.v = v2 := ⟨mkH ((Gro.of_below l1 (HBB.out.trans (((Below.refl W1.heap.size W1).alloc (Nat.le_refl _) _).mono HBB.out.size)) gg.below).trans ⟨hb2, hg2, hat2⟩), rfl, rfl⟩; have HL2 := Aside0.mk (show Li 125 W0 h.W h.v (xs ++ stThs (l.take k) d lo ++ [.stmt y d lo]) by unfold Li; rw [List.map_append]; exact ho); have HO2 := Aside0.mk ((HREL.out.2.2.below (gout gg)).step ⟨hb2, hg2, hat2⟩); clear ho hb2 hg2 hat2)
        have C := exprs_calls _ y.f3 (Nat.le_refl _) W0 h.W h.v (.slice La lo.length lc) (xs ++ stThs (l.take k) d lo ++ [Th.stmt y d lo]) lo A9 c9 h.gro.below K.out.2.2.2.1 K.out.2.2.1 HL2.out HO2.out (by have h1 := HS.out.1; have h2 := bulkT_eq y; have h3 := weight_bulk y.f3; have h4 := weight_bulk y.f2; simp only [List.length_append, List.length_singleton, exTh_len]; omega)
        refine C.mono ?_
        clear C
        rintro _ w3 ⟨v3, rfl, hL, hG⟩
        have HL2 := Aside0.mk hL
        have HO2 := Aside0.mk (HO2.out.step hG)
        obtain ⟨h, rfl, rfl⟩ : ∃ h' : H W0 (gw0 gg) l1, h'.W = w3 ∧ h'.v = v3 := ⟨mkH (h.gro.trans hG), rfl, rfl⟩
        clear hL hG
        go_wp2_with fail
        have C := IH1.out.1 W0 h.W h.v (.slice La lo.length lc) (xs ++ stThs (l.take k) d lo ++ [Th.stmt y d lo] ++ exTh y.f3 lo) (lo) A12 c12 (d + 1) (wrap64 ((d : Int) + 1)) (wrapN (by have := HN.out.2.1; omega)) h.gro.below K.out.2.2.2.2.2.1 K.out.2.2.2.2.1 HL2.out HO2.out (by have h1 := HS.out.1; have h2 := bulkT_eq y; have h3 := weight_bulk y.f3; have h4 := weight_bulk y.f2; have h5 := stThs_len y.f6 (d + 1) (lo); simp only [List.length_append, List.length_singleton, exTh_len]; omega) (by have h1 := HS.out.2; have h2 := bulkT_eq y; omega) (by have h1 := HN.out.2.2; simp; omega)
        refine C.mono ?_
        clear C
        rintro _ w3 ⟨v3, rfl, hL, hG⟩
        have HL2 := Aside0.mk hL
        have HO2 := Aside0.mk (HO2.out.step hG)
        obtain ⟨h, rfl, rfl⟩ : ∃ h' : H W0 (gw0 gg) l1, h'.W = w3 ∧ h'.v = v3 := ⟨mkH (h.gro.trans hG), rfl, rfl⟩
        clear hL hG
        go_wp2_with fail
        have C := IH1.out.2 W0 h.W h.v (.slice La lo.length lc) (xs ++ stThs (l.take k) d lo ++ [Th.stmt y d lo] ++ exTh y.f3 lo ++ stThs y.f6 (d + 1) (lo)) (lo) A13 c13 (d + 1) (wrap64 ((d : Int) + 1)) (wrapN (by have := HN.out.2.1; omega)) h.gro.below K.out.2.2.2.2.2.2.2 K.out.2.2.2.2.2.2.1 HL2.out HO2.out (by have h1 := HS.out.1; have h2 := bulkT_eq y; have h3 := weight_bulk y.f3; have h4 := weight_bulk y.f2; have h5 := stThs_len y.f6 (d + 1) (lo); simp only [List.length_append, List.length_singleton, exTh_len]; omega) (by have h1 := HS.out.2; have h2 := bulkT_eq y; omega) (by have h1 := HN.out.2.2; simp; omega)
        refine C.mono ?_
        clear C
        rintro _ w3 ⟨v3, rfl, hL, hG⟩
        have HL2 := Aside0.mk hL
        have HO2 := Aside0.mk (HO2.out.step hG)
        obtain ⟨h, rfl, rfl⟩ : ∃ h' : H W0 (gw0 gg) l1, h'.W = w3 ∧ h'.v = v3 := ⟨mkH (h.gro.trans hG), rfl, rfl⟩
        clear hL hG
        go_wp2_with fail
        have hx : xs ++ stThs (l.take k) d lo ++ [Th.stmt y d lo] ++ exTh y.f3 lo ++ stThs y.f6 (d + 1) (lo) ++ stThs y.f7 (d + 1) (lo) = xs ++ stThs (l.take (k + 1)) d lo := by
          have e1 := T.out
          simp only [stThs_add] at e1
          rw [e1, stTh_eq]
          simp [H0.out, inLoop]
        refine ⟨⟨k + 1, h.v, h.W, by go_num, rfl, rfl, by omega, ⟨hx ▸ HL2.out, HREL.out.2.1.trans ((Gro.of_below l1 HBB.out ((Below.refl _ _).alloc (Nat.le_refl _) _)).trans h.gro), HO2.out⟩⟩, by simp [intOf]; omega⟩
      · rw [h0] at q0
        have H0 := Aside0.mk h0
        clear h0
        go_upto_region 5 with (fail)
        refine wp_grown0 ?_
        intro gg
        have gout : ∀ {o : Obj} (g : G (W1.alloc o)), Below W1.heap.size W1 g.W := fun g => ((Below.refl _ _).alloc (Nat.le_refl _) _).trans (g.below.mono (by simp))
        go_wp2_with ((with_reducible refine gate_builtin (b := .append) (xs := #[.tmp 22, .tmp 27]) rfl ?_); at_builtin; refine Kd.R_append (kTh W0) (w0 := W0) W0.heap.size rfl (.tmp 22) (.tmp 27) 112 125 zTh 304 rfl under70 info80 rfl (show 0 < 22 by decide) (by decide) l1 ((xs ++ stThs (l.take k) d lo).map toTV) (toTV (.stmt y d lo)) [.int .i64 1, .int .i64 0, .int .i64 3, .string y.f1, .int .i64 y.f2.f0, .int .u64 y.f2.f1, .string y.f2.f2, .slice A5 y.f2.f3.length c5, .int .i64 y.f3.f0, .int .u64 y.f3.f1, .string y.f3.f2, .slice A9 y.f3.f3.length c9, .int .u64 y.f4, .int .u64 y.f5, .slice A12 y.f6.length c12, .slice A13 y.f7.length c13, .int .i64 0, .int .u64 0, .string ⟨#[]⟩, .slice none 0 0, .int .i64 (d : Int), .slice La lo.length lc] (fun _ => True) (fun k => some k ≠ l1.ownBlock) rfl rfl (by have hm := (kTh_mk (x := toTV (.stmt y d lo)) (k119_mk W0 y K.out.1 K.out.2.1 K.out.2.2.1 K.out.2.2.2.1 K.out.2.2.2.2.1 K.out.2.2.2.2.2.1 K.out.2.2.2.2.2.2.1 K.out.2.2.2.2.2.2.2) (k116_zero W0) (HREL.out.2.2.below (gout gg))); rw [H0.out] at hm; exact hm) (fun _ h => ⟨trivial, h⟩) (fun _ _ => trivial) (HREL.out.1.below (gout gg)) (HBB.out.trans ((gout gg).mono HBB.out.size)) (Nat.le_trans HBB.out.size (gout gg).size) (by have := HS.out; have := bulkT_eq y; simp; omega) ?_; intro v2 w2 ho hb2 hg2 hat2; obtain ⟨h, rfl, rfl⟩ : ∃ h : H W0 (gw0 gg) l1, h.W = w2 ∧ h.v = v2 := ⟨mkH ((Gro.of_below l1 (HBB.out.trans (((Below.refl W1.heap.size W1).alloc (Nat.le_refl _) _).mono HBB.out.size)) gg.below).trans ⟨hb2, hg2, hat2⟩), rfl, rfl⟩; have HL2 := Aside0.mk (show Li 125 W0 h.W h.v (xs ++ stThs (l.take k) d lo ++ [.stmt y d lo]) by unfold Li; rw [List.map_append]; exact ho); have HO2 := Aside0.mk ((HREL.out.2.2.below (gout gg)).step ⟨hb2, hg2, hat2⟩); clear ho hb2 hg2 hat2)
        have C := exprs_calls _ y.f3 (Nat.le_refl _) W0 h.W h.v (.slice La lo.length lc) (xs ++ stThs (l.take k) d lo ++ [Th.stmt y d lo]) lo A9 c9 h.gro.below K.out.2.2.2.1 K.out.2.2.1 HL2.out HO2.out (by have h1 := HS.out.1; have h2 := bulkT_eq y; have h3 := weight_bulk y.f3; have h4 := weight_bulk y.f2; simp only [List.length_append, List.length_singleton, exTh_len]; omega)
        refine C.mono ?_
        clear C
        rintro _ w3 ⟨v3, rfl, hL, hG⟩
        have HL2 := Aside0.mk hL
        have HO2 := Aside0.mk (HO2.out.step hG)
        obtain ⟨h, rfl, rfl⟩ : ∃ h' : H W0 (gw0 gg) l1, h'.W = w3 ∧ h'.v = v3 := ⟨mkH (h.gro.trans hG), rfl, rfl⟩
        clear hL hG
        go_wp2_with fail
        have C := IH1.out.1 W0 h.W h.v (.slice La lo.length lc) (xs ++ stThs (l.take k) d lo ++ [Th.stmt y d lo] ++ exTh y.f3 lo) (lo) A12 c12 (d + 1) (wrap64 ((d : Int) + 1)) (wrapN (by have := HN.out.2.1; omega)) h.gro.below K.out.2.2.2.2.2.1 K.out.2.2.2.2.1 HL2.out HO2.out (by have h1 := HS.out.1; have h2 := bulkT_eq y; have h3 := weight_bulk y.f3; have h4 := weight_bulk y.f2; have h5 := stThs_len y.f6 (d + 1) (lo); simp only [List.length_append, List.length_singleton, exTh_len]; omega) (by have h1 := HS.out.2; have h2 := bulkT_eq y; omega) (by have h1 := HN.out.2.2; simp; omega)
        refine C.mono ?_
        clear C
        rintro _ w3 ⟨v3, rfl, hL, hG⟩
        have HL2 := Aside0.mk hL
        have HO2 := Aside0.mk (HO2.out.step hG)
        obtain ⟨h, rfl, rfl⟩ : ∃ h' : H W0 (gw0 gg) l1, h'.W = w3 ∧ h'.v = v3 := ⟨mkH (h.gro.trans hG), rfl, rfl⟩
        clear hL hG
        go_wp2_with fail
        have C := IH1.out.2 W0 h.W h.v (.slice La lo.length lc) (xs ++ stThs (l.take k) d lo ++ [Th.stmt y d lo] ++ exTh y.f3 lo ++ stThs y.f6 (d + 1) (lo)) (lo) A13 c13 (d + 1) (wrap64 ((d : Int) + 1)) (wrapN (by have := HN.out.2.1; omega)) h.gro.below K.out.2.2.2.2.2.2.2 K.out.2.2.2.2.2.2.1 HL2.out HO2.out (by have h1 := HS.out.1; have h2 := bulkT_eq y; have h3 := weight_bulk y.f3; have h4 := weight_bulk y.f2; have h5 := stThs_len y.f6 (d + 1) (lo); simp only [List.length_append, List.length_singleton, exTh_len]; omega) (by have h1 := HS.out.2; have h2 := bulkT_eq y; omega) (by have h1 := HN.out.2.2; simp; omega)
        refine C.mono ?_
        clear C
        rintro _ w3 ⟨v3, rfl, hL, hG⟩
        have HL2 := Aside0.mk hL
        have HO2 := Aside0.mk (HO2.out.step hG)
        obtain ⟨h, rfl, rfl⟩ : ∃ h' : H W0 (gw0 gg) l1, h'.W = w3 ∧ h'.v = v3 := ⟨mkH (h.gro.trans hG), rfl, rfl⟩
        clear hL hG
        go_wp2_with fail
        have hx : xs ++ stThs (l.take k) d lo ++ [Th.stmt y d lo] ++ exTh y.f3 lo ++ stThs y.f6 (d + 1) (lo) ++ stThs y.f7 (d + 1) (lo) = xs ++ stThs (l.take (k + 1)) d lo := by
          have e1 := T.out
          simp only [stThs_add] at e1
          rw [e1, stTh_eq]
          simp [H0.out, inLoop]
        refine ⟨⟨k + 1, h.v, h.W, by go_num, rfl, rfl, by omega, ⟨hx ▸ HL2.out, HREL.out.2.1.trans ((Gro.of_below l1 HBB.out ((Below.refl _ _).alloc (Nat.le_refl _) _)).trans h.gro), HO2.out⟩⟩, by simp [intOf]; omega⟩
      · rw [h0] at q0
        have H0 := Aside0.mk h0
        clear h0
        go_upto_region 5 with (fail)
        refine wp_grown0 ?_
        intro gg
        have gout : ∀ {o : Obj} (g : G (W1.alloc o)), Below W1.heap.size W1 g.W := fun g => ((Below.refl _ _).alloc (Nat.le_refl _) _).trans (g.below.mono (by simp))
        go_wp2_with ((with_reducible refine gate_builtin (b := .append) (xs := #[.tmp 22, .tmp 27]) rfl ?_); at_builtin; refine Kd.R_append (kTh W0) (w0 := W0) W0.heap.size rfl (.tmp 22) (.tmp 27) 112 125 zTh 304 rfl under70 info80 rfl (show 0 < 22 by decide) (by decide) l1 ((xs ++ stThs (l.take k) d lo).map toTV) (toTV (.stmt y d lo)) [.int .i64 1, .int .i64 0, .int .i64 2, .string y.f1, .int .i64 y.f2.f0, .int .u64 y.f2.f1, .string y.f2.f2, .slice A5 y.f2.f3.length c5, .int .i64 y.f3.f0, .int .u64 y.f3.f1, .string y.f3.f2, .slice A9 y.f3.f3.length c9, .int .u64 y.f4, .int .u64 y.f5, .slice A12 y.f6.length c12, .slice A13 y.f7.length c13, .int .i64 0, .int .u64 0, .string ⟨#[]⟩, .slice none 0 0, .int .i64 (d : Int), .slice La lo.length lc] (fun _ => True) (fun k => some k ≠ l1.ownBlock) rfl rfl (by have hm := (kTh_mk (x := toTV (.stmt y d lo)) (k119_mk W0 y K.out.1 K.out.2.1 K.out.2.2.1 K.out.2.2.2.1 K.out.2.2.2.2.1 K.out.2.2.2.2.2.1 K.out.2.2.2.2.2.2.1 K.out.2.2.2.2.2.2.2) (k116_zero W0) (HREL.out.2.2.below (gout gg))); rw [H0.out] at hm; exact hm) (fun _ h => ⟨trivial, h⟩) (fun _ _ => trivial) (HREL.out.1.below (gout gg)) (HBB.out.trans ((gout gg).mono HBB.out.size)) (Nat.le_trans HBB.out.size (gout gg).size) (by have := HS.out; have := bulkT_eq y; simp; omega) ?_; intro v2 w2 ho hb2 hg2 hat2; obtain ⟨h, rfl, rfl⟩ : ∃ h : H W0 (gw0 gg) l1, h.W = w2 ∧ h.v = v2 := ⟨mkH ((Gro.of_below l1 (HBB.out.trans (((Below.refl W1.heap.size W1).alloc (Nat.le_refl _) _).mono HBB.out.size)) gg.below).trans ⟨hb2, hg2, hat2⟩), rfl, rfl⟩; have HL2 := Aside0.mk (show Li 125 W0 h.W h.v (xs ++ stThs (l.take k) d lo ++ [.stmt y d lo]) by unfold Li; rw [List.map_append]; exact ho); have HO2 := Aside0.mk ((HREL.out.2.2.below (gout gg)).step ⟨hb2, hg2, hat2⟩); clear ho hb2 hg2 hat2)
        have C := exprs_calls _ y.f2 (Nat.le_refl _) W0 h.W h.v (.slice La lo.length lc) (xs ++ stThs (l.take k) d lo ++ [Th.stmt y d lo]) lo A5 c5 h.gro.below K.out.2.1 K.out.1 HL2.out HO2.out (by have h1 := HS.out.1; have h2 := bulkT_eq y; have h3 := weight_bulk y.f3; have h4 := weight_bulk y.f2; simp only [List.length_append, List.length_singleton, exTh_len]; omega)
        refine C.mono ?_
        clear C
        rintro _ w3 ⟨v3, rfl, hL, hG⟩
        have HL2 := Aside0.mk hL
        have HO2 := Aside0.mk (HO2.out.step hG)
        obtain ⟨h, rfl, rfl⟩ : ∃ h' : H W0 (gw0 gg) l1, h'.W = w3 ∧ h'.v = v3 := ⟨mkH (h.gro.trans hG), rfl, rfl⟩
        clear hL hG
        go_wp2_with fail
        have C := exprs_calls _ y.f3 (Nat.le_refl _) W0 h.W h.v (.slice La lo.length lc) (xs ++ stThs (l.take k) d lo ++ [Th.stmt y d lo] ++ exTh y.f2 lo) lo A9 c9 h.gro.below K.out.2.2.2.1 K.out.2.2.1 HL2.out HO2.out (by have h1 := HS.out.1; have h2 := bulkT_eq y; have h3 := weight_bulk y.f3; have h4 := weight_bulk y.f2; simp only [List.length_append, List.length_singleton, exTh_len]; omega)
        refine C.mono ?_
        clear C
        rintro _ w3 ⟨v3, rfl, hL, hG⟩
        have HL2 := Aside0.mk hL
        have HO2 := Aside0.mk (HO2.out.step hG)
        obtain ⟨h, rfl, rfl⟩ : ∃ h' : H W0 (gw0 gg) l1, h'.W = w3 ∧ h'.v = v3 := ⟨mkH (h.gro.trans hG), rfl, rfl⟩
        clear hL hG
        go_wp2_with fail
        have C := IH1.out.1 W0 h.W h.v (.slice La lo.length lc) (xs ++ stThs (l.take k) d lo ++ [Th.stmt y d lo] ++ exTh y.f2 lo ++ exTh y.f3 lo) (lo) A12 c12 (d + 1) (wrap64 ((d : Int) + 1)) (wrapN (by have := HN.out.2.1; omega)) h.gro.below K.out.2.2.2.2.2.1 K.out.2.2.2.2.1 HL2.out HO2.out (by have h1 := HS.out.1; have h2 := bulkT_eq y; have h3 := weight_bulk y.f3; have h4 := weight_bulk y.f2; have h5 := stThs_len y.f6 (d + 1) (lo); simp only [List.length_append, List.length_singleton, exTh_len]; omega) (by have h1 := HS.out.2; have h2 := bulkT_eq y; omega) (by have h1 := HN.out.2.2; simp; omega)
        refine C.mono ?_
        clear C
        rintro _ w3 ⟨v3, rfl, hL, hG⟩
        have HL2 := Aside0.mk hL
        have HO2 := Aside0.mk (HO2.out.step hG)
        obtain ⟨h, rfl, rfl⟩ : ∃ h' : H W0 (gw0 gg) l1, h'.W = w3 ∧ h'.v = v3 := ⟨mkH (h.gro.trans hG), rfl, rfl⟩
        clear hL hG
        go_wp2_with fail
        have C := IH1.out.2 W0 h.W h.v (.slice La lo.length lc) (xs ++ stThs (l.take k) d lo ++ [Th.stmt y d lo] ++ exTh y.f2 lo ++ exTh y.f3 lo ++ stThs y.f6 (d + 1) (lo)) (lo) A13 c13 (d + 1) (wrap64 ((d : Int) + 1)) (wrapN (by have := HN.out.2.1; omega)) h.gro.below K.out.2.2.2.2.2.2.2 K.out.2.2.2.2.2.2.1 HL2.out HO2.out (by have h1 := HS.out.1; have h2 := bulkT_eq y; have h3 := weight_bulk y.f3; have h4 := weight_bulk y.f2; have h5 := stThs_len y.f6 (d + 1) (lo); simp only [List.length_append, List.length_singleton, exTh_len]; omega) (by have h1 := HS.out.2; have h2 := bulkT_eq y; omega) (by have h1 := HN.out.2.2; simp; omega)
        refine C.mono ?_
        clear C
        rintro _ w3 ⟨v3, rfl, hL, hG⟩
        have HL2 := Aside0.mk hL
        have HO2 := Aside0.mk (HO2.out.step hG)
        obtain ⟨h, rfl, rfl⟩ : ∃ h' : H W0 (gw0 gg) l1, h'.W = w3 ∧ h'.v = v3 := ⟨mkH (h.gro.trans hG), rfl, rfl⟩
        clear hL hG
        go_wp2_with fail
        have hx : xs ++ stThs (l.take k) d lo ++ [Th.stmt y d lo] ++ exTh y.f2 lo ++ exTh y.f3 lo ++ stThs y.f6 (d + 1) (lo) ++ stThs y.f7 (d + 1) (lo) = xs ++ stThs (l.take (k + 1)) d lo := by
          have e1 := T.out
          simp only [stThs_add] at e1
          rw [e1, stTh_eq]
          simp [H0.out, inLoop]
        refine ⟨⟨k + 1, h.v, h.W, by go_num, rfl, rfl, by omega, ⟨hx ▸ HL2.out, HREL.out.2.1.trans ((Gro.of_below l1 HBB.out ((Below.refl _ _).alloc (Nat.le_refl _) _)).trans h.gro), HO2.out⟩⟩, by simp [intOf]; omega⟩
      · rw [h0] at q0
        have H0 := Aside0.mk h0
        clear h0
        go_upto_region 5 with (fail)
        refine wp_grown0 ?_
        intro gg
        have gout : ∀ {o : Obj} (g : G (W1.alloc o)), Below W1.heap.size W1 g.W := fun g => ((Below.refl _ _).alloc (Nat.le_refl _) _).trans (g.below.mono (by simp))
        go_wp2_with ((with_reducible refine gate_builtin (b := .append) (xs := #[.tmp 22, .tmp 27]) rfl ?_); at_builtin; refine Kd.R_append (kTh W0) (w0 := W0) W0.heap.size rfl (.tmp 22) (.tmp 27) 112 125 zTh 304 rfl under70 info80 rfl (show 0 < 22 by decide) (by decide) l1 ((xs ++ stThs (l.take k) d lo).map toTV) (toTV (.stmt y d lo)) [.int .i64 1, .int .i64 0, .int .i64 4, .string y.f1, .int .i64 y.f2.f0, .int .u64 y.f2.f1, .string y.f2.f2, .slice A5 y.f2.f3.length c5, .int .i64 y.f3.f0, .int .u64 y.f3.f1, .string y.f3.f2, .slice A9 y.f3.f3.length c9, .int .u64 y.f4, .int .u64 y.f5, .slice A12 y.f6.length c12, .slice A13 y.f7.length c13, .int .i64 0, .int .u64 0, .string ⟨#[]⟩, .slice none 0 0, .int .i64 (d : Int), .slice La lo.length lc] (fun _ => True) (fun k => some k ≠ l1.ownBlock) rfl rfl (by have hm := (kTh_mk (x := toTV (.stmt y d lo)) (k119_mk W0 y K.out.1 K.out.2.1 K.out.2.2.1 K.out.2.2.2.1 K.out.2.2.2.2.1 K.out.2.2.2.2.2.1 K.out.2.2.2.2.2.2.1 K.out.2.2.2.2.2.2.2) (k116_zero W0) (HREL.out.2.2.below (gout gg))); rw [H0.out] at hm; exact hm) (fun _ h => ⟨trivial, h⟩) (fun _ _ => trivial) (HREL.out.1.below (gout gg)) (HBB.out.trans ((gout gg).mono HBB.out.size)) (Nat.le_trans HBB.out.size (gout gg).size) (by have := HS.out; have := bulkT_eq y; simp; omega) ?_; intro v2 w2 ho hb2 hg2 hat2; obtain ⟨h, rfl, rfl⟩ : ∃ h : H W0 (gw0 gg) l1, h.W = w2 ∧ h.v = v2 := ⟨mkH ((Gro.of_below l1 (HBB.out.trans (((Below.refl W1.heap.size W1).alloc (Nat.le_refl _) _).mono HBB.out.size)) gg.below).trans ⟨hb2, hg2, hat2⟩), rfl, rfl⟩; have HL2 := Aside0.mk (show Li 125 W0 h.W h.v (xs ++ stThs (l.take k) d lo ++ [.stmt y d lo]) by unfold Li; rw [List.map_append]; exact ho); have HO2 := Aside0.mk ((HREL.out.2.2.below (gout gg)).step ⟨hb2, hg2, hat2⟩); clear ho hb2 hg2 hat2)
        go_upto_region 15 with (fail)
        have hsz : W1.heap.size < h.W.heap.size := Nat.lt_of_lt_of_le (by simp [gw0]) h.gro.grown.size
        have hw : Below W1.heap.size W1 h.W → True := fun _ => trivial
        clear hw
        refine start_ (n := 8) (S := fun w' => ∃ g' : G h.W, w' = g'.W) (ds := []) #[false, false, false, false, false, false, false, false] (by kernel_rfl) rfl rfl ⟨mkG (Below.refl _ _).drew, rfl⟩ (fun hHeld => ?_)
        obtain ⟨gd, hgd⟩ := hHeld
        rw [hgd]
        clear hgd
        refine pure_ (i := 1) (N := some 56) (v := ?_) (a' := ?_) #[false, true, false, false, false, false, false, false] rfl rfl (by kernel_rfl) (fun _ _ _ h => h) (Or.inl ⟨by rfl, ?_⟩) ?_ ?_
        rotate_left
        · intro w'
          go_simp
          with_reducible rfl
        rotate_left
        · simp only [Act.put, List.setIfInBounds_toArray, List.set_cons_zero, List.set_cons_succ, i64_w, i32_w]
          rfl
        refine pure_ (i := 3) (N := some 58) (v := ?_) (a' := ?_) #[false, true, false, true, false, false, false, false] rfl rfl (by kernel_rfl) (fun _ _ _ h => h) (Or.inl ⟨by rfl, ?_⟩) ?_ ?_
        rotate_left
        · intro w'
          go_simp
          with_reducible rfl
        rotate_left
        · simp only [Act.put, List.setIfInBounds_toArray, List.set_cons_zero, List.set_cons_succ, i64_w, i32_w]
          rfl
        refine take_ (i := 4) (N := some 59) (v := ?_) (a' := ?_) #[false, true, false, true, true, false, false, false] rfl rfl (by kernel_rfl) (fun _ _ _ h => h) (Or.inl ⟨by rfl, ?_⟩) ⟨gd, rfl⟩ ?_ ?_
        rotate_left
        · rintro w' ⟨g', rfl⟩
          go_simp
          with_reducible rfl
        rotate_left
        · simp only [Act.put, List.setIfInBounds_toArray, List.set_cons_zero, List.set_cons_succ, i64_w, i32_w]
          rfl
        refine join_ (σ := Value × Value × Value) 2 #[true, true, true, true, true, true, false, false] (fun s => [(55, s.1), (57, s.2.1), (60, s.2.2)]) (fun s w' => ∃ g : G h.W, w' = g.W ∧ Kd.string.R 9 g.W h.W.heap.size (fun _ => True) s.2.1 lo ∧ Kd.string.R 9 g.W h.W.heap.size (fun _ => True) s.2.2 [y.f1]) ?_ (fun hJ => ?_)
        rotate_left
        · refine two_ (i := 0) (j := 5) (Ni := some 55) (Nj := some 60) #[true, true, false, true, true, false, false, false] #[false, true, false, true, true, true, false, false] rfl rfl rfl rfl (by kernel_rfl) (by simp) (by simp) ?_ ?_
          · intro K hK
            refine Kd.R_lit_step Kd.string (w0 := h.W) h.W.heap.size 9 (by rfl) (N := 55) rfl (xs := []) (inner := []) (ok := fun _ => True) (okp := fun _ => False) (by first | (go_simp; done) | (go_simp; rfl)) reps_nil (fun _ h => h.elim) trivial gd.below gd.below.size (by simp) ?_
            intro v55 w5 ho5 hb5 hg5 hat5
            obtain ⟨g5, rfl⟩ : ∃ g : G h.W, w5 = g.W := ⟨mkG hb5, rfl⟩
            refine hK.out _ _ ⟨g5, rfl⟩ (fun _ => ?_)
            clear hK K
            refine norm_ (a' := ?_) ?_ ?_
            rotate_left
            · show Act.put _ (some 55) _ = _
              simp only [Act.put, List.setIfInBounds_toArray, List.set_cons_zero, List.set_cons_succ, i64_w, i32_w]
              rfl
            refine two_ (i := 2) (j := 5) (Ni := some 57) (Nj := some 60) #[true, true, true, true, true, false, false, false] #[true, true, false, true, true, true, false, false] rfl rfl rfl rfl (by kernel_rfl) (by simp) (by simp) ?_ ?_
            · intro K hK
              refine Kd.R_append_rows_step Kd.string (Rr := Kd.string.K g5.W) (w0 := h.W) h.W.heap.size (by rfl) (.tmp 55) (.tmp 56) 52 9 (.string ⟨#[]⟩) 16 rfl under78 info9 rfl (by decide) (by decide) v55 [] lo La lo.length lc (fun _ => True) (fun _ => False) rfl rfl ho5 (Lo.reads (HO2.out.below g5.below)) (fun _ _ h => h) (fun _ h => h.elim) (fun _ _ => trivial) g5.below g5.below.size (by have := HN.out; simp; omega) ?_
              intro v57 w7 ho7 hb7 hg7 hat7
              obtain ⟨g7, rfl⟩ : ∃ g : G h.W, w7 = g.W := ⟨mkG hb7, rfl⟩
              refine hK.out _ _ ⟨g7, rfl⟩ (fun _ => ?_)
              clear hK K
              refine norm_ (a' := ?_) ?_ ?_
              rotate_left
              · show Act.put _ (some 57) _ = _
                simp only [Act.put, List.setIfInBounds_toArray, List.set_cons_zero, List.set_cons_succ, i64_w, i32_w]
                rfl
              refine one_ (i := 5) (N := some 60) #[true, true, true, true, true, true, false, false] rfl rfl (by kernel_rfl) (by simp) (fun K hK => ?_)
              refine Kd.R_lit_step Kd.string (w0 := h.W) h.W.heap.size 9 (by rfl) (N := 60) rfl (xs := [y.f1]) (inner := [.string y.f1]) (ok := fun _ => True) (okp := fun _ => False) (by first | (go_simp; done) | (go_simp; rfl)) (Kd.reps_scalar (enc := Value.string) [y.f1]) (fun _ h => h.elim) trivial g7.below g7.below.size (by simp) ?_
              intro v60 w6 ho6 hb6 hg6 hat6
              obtain ⟨g6, rfl⟩ : ∃ g : G h.W, w6 = g.W := ⟨mkG hb6, rfl⟩
              refine hK.out _ _ ⟨g6, rfl⟩ (fun _ => ?_)
              clear hK K
              refine norm_ (a' := ?_) ?_ ?_
              rotate_left
              · show Act.put _ (some 60) _ = _
                simp only [Act.put, List.setIfInBounds_toArray, List.set_cons_zero, List.set_cons_succ, i64_w, i32_w]
                rfl
              exact norm_ (by first | (simp only [putAll, Act.put, List.setIfInBounds_toArray, List.set_cons_zero, List.set_cons_succ]; done) | (simp only [putAll, Act.put, List.setIfInBounds_toArray, List.set_cons_zero, List.set_cons_succ]; rfl)) (hJ (v55, v57, v60) _ ⟨_, rfl, Kd.R_grown ho7 hg6 (fun _ _ => by simp), ho6⟩)
            · intro K hK
              refine Kd.R_lit_step Kd.string (w0 := h.W) h.W.heap.size 9 (by rfl) (N := 60) rfl (xs := [y.f1]) (inner := [.string y.f1]) (ok := fun k => some k ≠ v55.ownBlock) (okp := fun _ => False) (by first | (go_simp; done) | (go_simp; rfl)) (Kd.reps_scalar (enc := Value.string) [y.f1]) (fun _ h => h.elim) (fun e => by have := R_lt ho5 _ e.symm; omega) g5.below g5.below.size (by simp) ?_
              intro v60 w6 ho6 hb6 hg6 hat6
              obtain ⟨g6, rfl⟩ : ∃ g : G h.W, w6 = g.W := ⟨mkG hb6, rfl⟩
              refine hK.out _ _ ⟨g6, rfl⟩ (fun _ => ?_)
              clear hK K
              refine norm_ (a' := ?_) ?_ ?_
              rotate_left
              · show Act.put _ (some 60) _ = _
                simp only [Act.put, List.setIfInBounds_toArray, List.set_cons_zero, List.set_cons_succ, i64_w, i32_w]
                rfl
              refine one_ (i := 2) (N := some 57) #[true, true, true, true, true, true, false, false] rfl rfl (by kernel_rfl) (by simp) (fun K hK => ?_)
              refine Kd.R_append_rows_step Kd.string (Rr := Kd.string.K g6.W) (w0 := h.W) h.W.heap.size (by rfl) (.tmp 55) (.tmp 56) 52 9 (.string ⟨#[]⟩) 16 rfl under78 info9 rfl (by decide) (by decide) v55 [] lo La lo.length lc (fun _ => True) (fun _ => False) rfl rfl (Kd.R_grown ho5 hg6 (fun _ _ => by simp)) (Lo.reads (HO2.out.below g6.below)) (fun _ _ h => h) (fun _ h => h.elim) (fun _ _ => trivial) g6.below g6.below.size (by have := HN.out; simp; omega) ?_
              intro v57 w7 ho7 hb7 hg7 hat7
              obtain ⟨g7, rfl⟩ : ∃ g : G h.W, w7 = g.W := ⟨mkG hb7, rfl⟩
              refine hK.out _ _ ⟨g7, rfl⟩ (fun _ => ?_)
              clear hK K
              refine norm_ (a' := ?_) ?_ ?_
              rotate_left
              · show Act.put _ (some 57) _ = _
                simp only [Act.put, List.setIfInBounds_toArray, List.set_cons_zero, List.set_cons_succ, i64_w, i32_w]
                rfl
              exact norm_ (by first | (simp only [putAll, Act.put, List.setIfInBounds_toArray, List.set_cons_zero, List.set_cons_succ]; done) | (simp only [putAll, Act.put, List.setIfInBounds_toArray, List.set_cons_zero, List.set_cons_succ]; rfl)) (hJ (v55, v57, v60) _ ⟨_, rfl, ho7, Kd.R_mono (Kd.R_grown ho6 hg7 (fun k hk => hk)) (fun _ _ => trivial)⟩)
          · intro K hK
            refine Kd.R_lit_step Kd.string (w0 := h.W) h.W.heap.size 9 (by rfl) (N := 60) rfl (xs := [y.f1]) (inner := [.string y.f1]) (ok := fun _ => True) (okp := fun _ => False) (by first | (go_simp; done) | (go_simp; rfl)) (Kd.reps_scalar (enc := Value.string) [y.f1]) (fun _ h => h.elim) trivial gd.below gd.below.size (by simp) ?_
            intro v60 w6 ho6 hb6 hg6 hat6
            obtain ⟨g6, rfl⟩ : ∃ g : G h.W, w6 = g.W := ⟨mkG hb6, rfl⟩
            refine hK.out _ _ ⟨g6, rfl⟩ (fun _ => ?_)
            clear hK K
            refine norm_ (a' := ?_) ?_ ?_
            rotate_left
            · show Act.put _ (some 60) _ = _
              simp only [Act.put, List.setIfInBounds_toArray, List.set_cons_zero, List.set_cons_succ, i64_w, i32_w]
              rfl
            refine one_ (i := 0) (N := some 55) #[true, true, false, true, true, true, false, false] rfl rfl (by kernel_rfl) (by simp) (fun K hK => ?_)
            refine Kd.R_lit_step Kd.string (w0 := h.W) h.W.heap.size 9 (by rfl) (N := 55) rfl (xs := []) (inner := []) (ok := fun _ => True) (okp := fun _ => False) (by first | (go_simp; done) | (go_simp; rfl)) reps_nil (fun _ h => h.elim) trivial g6.below g6.below.size (by simp) ?_
            intro v55 w5 ho5 hb5 hg5 hat5
            obtain ⟨g5, rfl⟩ : ∃ g : G h.W, w5 = g.W := ⟨mkG hb5, rfl⟩
            refine hK.out _ _ ⟨g5, rfl⟩ (fun _ => ?_)
            clear hK K
            refine norm_ (a' := ?_) ?_ ?_
            rotate_left
            · show Act.put _ (some 55) _ = _
              simp only [Act.put, List.setIfInBounds_toArray, List.set_cons_zero, List.set_cons_succ, i64_w, i32_w]
              rfl
            obtain ⟨b5, hb5', hle5⟩ := hat5
            have ho6 := R_apart ho6 hg5 hb5' hle5
            refine one_ (i := 2) (N := some 57) #[true, true, true, true, true, true, false, false] rfl rfl (by kernel_rfl) (by simp) (fun K hK => ?_)
            refine Kd.R_append_rows_step Kd.string (Rr := Kd.string.K g5.W) (w0 := h.W) h.W.heap.size (by rfl) (.tmp 55) (.tmp 56) 52 9 (.string ⟨#[]⟩) 16 rfl under78 info9 rfl (by decide) (by decide) v55 [] lo La lo.length lc (fun _ => True) (fun _ => False) rfl rfl ho5 (Lo.reads (HO2.out.below g5.below)) (fun _ _ h => h) (fun _ h => h.elim) (fun _ _ => trivial) g5.below g5.below.size (by have := HN.out; simp; omega) ?_
            intro v57 w7 ho7 hb7 hg7 hat7
            obtain ⟨g7, rfl⟩ : ∃ g : G h.W, w7 = g.W := ⟨mkG hb7, rfl⟩
            refine hK.out _ _ ⟨g7, rfl⟩ (fun _ => ?_)
            clear hK K
            refine norm_ (a' := ?_) ?_ ?_
            rotate_left
            · show Act.put _ (some 57) _ = _
              simp only [Act.put, List.setIfInBounds_toArray, List.set_cons_zero, List.set_cons_succ, i64_w, i32_w]
              rfl
            exact norm_ (by first | (simp only [putAll, Act.put, List.setIfInBounds_toArray, List.set_cons_zero, List.set_cons_succ]; done) | (simp only [putAll, Act.put, List.setIfInBounds_toArray, List.set_cons_zero, List.set_cons_succ]; rfl)) (hJ (v55, v57, v60) _ ⟨_, rfl, ho7, Kd.R_mono (Kd.R_grown ho6 hg7 (fun k hk => hk)) (fun _ _ => trivial)⟩)
        rintro ⟨v55, v57, v60⟩ _ ⟨gd, rfl, ho7, ho6⟩
        refine norm_ (a' := ?_) ?_ ?_
        rotate_left
        · simp only [putAll, Act.put, List.setIfInBounds_toArray, List.set_cons_zero, List.set_cons_succ]
          rfl
        obtain ⟨A60, c60, e60, l60, g60⟩ := Kd.R_reads ho6
        simp only at e60
        subst e60
        refine one_ (i := 6) (N := some 61) #[true, true, true, true, true, true, true, false] rfl rfl (by kernel_rfl) (by simp) (fun K hK => ?_)
        refine Kd.R_append_rows_step Kd.string (Rr := Kd.string.K gd.W) (w0 := h.W) h.W.heap.size (by rfl) (.tmp 57) (.tmp 60) 52 9 (.string ⟨#[]⟩) 16 rfl under78 info9 rfl (by decide) (by decide) v57 lo [y.f1] A60 1 c60 (fun _ => True) (fun _ => False) rfl rfl ho7 g60 (fun _ _ h => h) (fun _ h => h.elim) (fun _ _ => trivial) gd.below gd.below.size (by have := HN.out; simp; omega) ?_
        intro v61 w8 ho8 hb8 hg8 hat8
        refine hK.out _ _ ⟨mkG hb8, rfl⟩ (fun _ => ?_)
        clear hK K
        refine norm_ (a' := ?_) ?_ ?_
        rotate_left
        · show Act.put _ (some 61) _ = _
          simp only [Act.put, List.setIfInBounds_toArray, List.set_cons_zero, List.set_cons_succ, i64_w, i32_w]
          rfl
        refine pure_ (i := 7) (N := some 11) (v := ?_) (a' := ?_) #[true, true, true, true, true, true, true, true] rfl rfl (by kernel_rfl) (fun _ _ _ h => h) (Or.inl ⟨by rfl, ?_⟩) ?_ ?_
        rotate_left
        · intro w'
          go_simp
          with_reducible rfl
        rotate_left
        · simp only [Act.put, List.setIfInBounds_toArray, List.set_cons_zero, List.set_cons_succ, i64_w, i32_w]
          rfl
        refine done_ (by kernel_rfl) ?_
        have HO4 := Aside0.mk (show Lo W0 w8 h.v v61 (lo ++ [y.f1]) from Lo.new (Li.lt HL2.out) h.gro.below.size ho8)
        have HO2 := Aside0.mk (HO2.out.below hb8)
        have HL2 := Aside0.mk (HL2.out.below hb8)
        obtain ⟨h, rfl, hv⟩ : ∃ h' : H W0 (gw0 gg) l1, h'.W = w8 ∧ h'.v = h.v := ⟨mkH (h.gro.trans (Gro.of_below h.v h.gro.below hb8)), rfl, rfl⟩
        rw [← hv] at HL2 HO2 HO4 ⊢
        obtain ⟨L61, c61, rfl⟩ := Kd.R_slice HO4.out
        clear hv
        rw [show (lo ++ [y.f1]).length = lo.length + 1 by simp] at HO4 ⊢
        go_wp2_with fail
        have C := IH1.out.1 W0 h.W h.v (.slice L61 (lo.length + 1) c61) (xs ++ stThs (l.take k) d lo ++ [Th.stmt y d lo]) (lo ++ [y.f1]) A12 c12 (d + 1) (wrap64 ((d : Int) + 1)) (wrapN (by have := HN.out.2.1; omega)) h.gro.below K.out.2.2.2.2.2.1 K.out.2.2.2.2.1 HL2.out HO4.out (by have h1 := HS.out.1; have h2 := bulkT_eq y; have h3 := weight_bulk y.f3; have h4 := weight_bulk y.f2; have h5 := stThs_len y.f6 (d + 1) (lo ++ [y.f1]); simp only [List.length_append, List.length_singleton, exTh_len]; omega) (by have h1 := HS.out.2; have h2 := bulkT_eq y; omega) (by have h1 := HN.out.2.2; simp; omega)
        refine C.mono ?_
        clear C
        rintro _ w3 ⟨v3, rfl, hL, hG⟩
        have HL2 := Aside0.mk hL
        have HO2 := Aside0.mk (HO2.out.step hG)
        have HO4 := Aside0.mk (HO4.out.step hG)
        obtain ⟨h, rfl, rfl⟩ : ∃ h' : H W0 (gw0 gg) l1, h'.W = w3 ∧ h'.v = v3 := ⟨mkH (h.gro.trans hG), rfl, rfl⟩
        clear hL hG
        go_wp2_with fail
        have C := IH1.out.2 W0 h.W h.v (.slice L61 (lo.length + 1) c61) (xs ++ stThs (l.take k) d lo ++ [Th.stmt y d lo] ++ stThs y.f6 (d + 1) (lo ++ [y.f1])) (lo ++ [y.f1]) A13 c13 (d + 1) (wrap64 ((d : Int) + 1)) (wrapN (by have := HN.out.2.1; omega)) h.gro.below K.out.2.2.2.2.2.2.2 K.out.2.2.2.2.2.2.1 HL2.out HO4.out (by have h1 := HS.out.1; have h2 := bulkT_eq y; have h3 := weight_bulk y.f3; have h4 := weight_bulk y.f2; have h5 := stThs_len y.f6 (d + 1) (lo ++ [y.f1]); simp only [List.length_append, List.length_singleton, exTh_len]; omega) (by have h1 := HS.out.2; have h2 := bulkT_eq y; omega) (by have h1 := HN.out.2.2; simp; omega)
        refine C.mono ?_
        clear C
        rintro _ w3 ⟨v3, rfl, hL, hG⟩
        have HL2 := Aside0.mk hL
        have HO2 := Aside0.mk (HO2.out.step hG)
        have HO4 := Aside0.mk (HO4.out.step hG)
        obtain ⟨h, rfl, rfl⟩ : ∃ h' : H W0 (gw0 gg) l1, h'.W = w3 ∧ h'.v = v3 := ⟨mkH (h.gro.trans hG), rfl, rfl⟩
        clear hL hG
        go_wp2_with fail
        have hx : xs ++ stThs (l.take k) d lo ++ [Th.stmt y d lo] ++ stThs y.f6 (d + 1) (lo ++ [y.f1]) ++ stThs y.f7 (d + 1) (lo ++ [y.f1]) = xs ++ stThs (l.take (k + 1)) d lo := by
          have e1 := T.out
          simp only [stThs_add] at e1
          rw [e1, stTh_eq]
          simp [H0.out, inLoop]
        refine ⟨⟨k + 1, h.v, h.W, by go_num, rfl, rfl, by omega, ⟨hx ▸ HL2.out, HREL.out.2.1.trans ((Gro.of_below l1 HBB.out ((Below.refl _ _).alloc (Nat.le_refl _) _)).trans h.gro), HO2.out⟩⟩, by simp [intOf]; omega⟩
      · go_upto_region 5 with (fail)
        refine wp_grown0 ?_
        intro gg
        have gout : ∀ {o : Obj} (g : G (W1.alloc o)), Below W1.heap.size W1 g.W := fun g => ((Below.refl _ _).alloc (Nat.le_refl _) _).trans (g.below.mono (by simp))
        go_wp2_with ((with_reducible refine gate_builtin (b := .append) (xs := #[.tmp 22, .tmp 27]) rfl ?_); at_builtin; refine Kd.R_append (kTh W0) (w0 := W0) W0.heap.size rfl (.tmp 22) (.tmp 27) 112 125 zTh 304 rfl under70 info80 rfl (show 0 < 22 by decide) (by decide) l1 ((xs ++ stThs (l.take k) d lo).map toTV) (toTV (.stmt y d lo)) [.int .i64 1, .int .i64 0, .int .i64 y.f0, .string y.f1, .int .i64 y.f2.f0, .int .u64 y.f2.f1, .string y.f2.f2, .slice A5 y.f2.f3.length c5, .int .i64 y.f3.f0, .int .u64 y.f3.f1, .string y.f3.f2, .slice A9 y.f3.f3.length c9, .int .u64 y.f4, .int .u64 y.f5, .slice A12 y.f6.length c12, .slice A13 y.f7.length c13, .int .i64 0, .int .u64 0, .string ⟨#[]⟩, .slice none 0 0, .int .i64 (d : Int), .slice La lo.length lc] (fun _ => True) (fun k => some k ≠ l1.ownBlock) rfl rfl (kTh_mk (x := toTV (.stmt y d lo)) (k119_mk W0 y K.out.1 K.out.2.1 K.out.2.2.1 K.out.2.2.2.1 K.out.2.2.2.2.1 K.out.2.2.2.2.2.1 K.out.2.2.2.2.2.2.1 K.out.2.2.2.2.2.2.2) (k116_zero W0) (HREL.out.2.2.below (gout gg))) (fun _ h => ⟨trivial, h⟩) (fun _ _ => trivial) (HREL.out.1.below (gout gg)) (HBB.out.trans ((gout gg).mono HBB.out.size)) (Nat.le_trans HBB.out.size (gout gg).size) (by have := HS.out; have := bulkT_eq y; simp; omega) ?_; intro v2 w2 ho hb2 hg2 hat2; obtain ⟨h, rfl, rfl⟩ : ∃ h : H W0 (gw0 gg) l1, h.W = w2 ∧ h.v = v2 := ⟨mkH ((Gro.of_below l1 (HBB.out.trans (((Below.refl W1.heap.size W1).alloc (Nat.le_refl _) _).mono HBB.out.size)) gg.below).trans ⟨hb2, hg2, hat2⟩), rfl, rfl⟩; have HL2 := Aside0.mk (show Li 125 W0 h.W h.v (xs ++ stThs (l.take k) d lo ++ [.stmt y d lo]) by unfold Li; rw [List.map_append]; exact ho); have HO2 := Aside0.mk ((HREL.out.2.2.below (gout gg)).step ⟨hb2, hg2, hat2⟩); clear ho hb2 hg2 hat2)
        have C := IH1.out.1 W0 h.W h.v (.slice La lo.length lc) (xs ++ stThs (l.take k) d lo ++ [Th.stmt y d lo]) (lo) A12 c12 (d + 1) (wrap64 ((d : Int) + 1)) (wrapN (by have := HN.out.2.1; omega)) h.gro.below K.out.2.2.2.2.2.1 K.out.2.2.2.2.1 HL2.out HO2.out (by have h1 := HS.out.1; have h2 := bulkT_eq y; have h3 := weight_bulk y.f3; have h4 := weight_bulk y.f2; have h5 := stThs_len y.f6 (d + 1) (lo); simp only [List.length_append, List.length_singleton, exTh_len]; omega) (by have h1 := HS.out.2; have h2 := bulkT_eq y; omega) (by have h1 := HN.out.2.2; simp; omega)
        refine C.mono ?_
        clear C
        rintro _ w3 ⟨v3, rfl, hL, hG⟩
        have HL2 := Aside0.mk hL
        have HO2 := Aside0.mk (HO2.out.step hG)
        obtain ⟨h, rfl, rfl⟩ : ∃ h' : H W0 (gw0 gg) l1, h'.W = w3 ∧ h'.v = v3 := ⟨mkH (h.gro.trans hG), rfl, rfl⟩
        clear hL hG
        go_wp2_with fail
        have C := IH1.out.2 W0 h.W h.v (.slice La lo.length lc) (xs ++ stThs (l.take k) d lo ++ [Th.stmt y d lo] ++ stThs y.f6 (d + 1) (lo)) (lo) A13 c13 (d + 1) (wrap64 ((d : Int) + 1)) (wrapN (by have := HN.out.2.1; omega)) h.gro.below K.out.2.2.2.2.2.2.2 K.out.2.2.2.2.2.2.1 HL2.out HO2.out (by have h1 := HS.out.1; have h2 := bulkT_eq y; have h3 := weight_bulk y.f3; have h4 := weight_bulk y.f2; have h5 := stThs_len y.f6 (d + 1) (lo); simp only [List.length_append, List.length_singleton, exTh_len]; omega) (by have h1 := HS.out.2; have h2 := bulkT_eq y; omega) (by have h1 := HN.out.2.2; simp; omega)
        refine C.mono ?_
        clear C
        rintro _ w3 ⟨v3, rfl, hL, hG⟩
        have HL2 := Aside0.mk hL
        have HO2 := Aside0.mk (HO2.out.step hG)
        obtain ⟨h, rfl, rfl⟩ : ∃ h' : H W0 (gw0 gg) l1, h'.W = w3 ∧ h'.v = v3 := ⟨mkH (h.gro.trans hG), rfl, rfl⟩
        clear hL hG
        go_wp2_with fail
        have hx : xs ++ stThs (l.take k) d lo ++ [Th.stmt y d lo] ++ stThs y.f6 (d + 1) (lo) ++ stThs y.f7 (d + 1) (lo) = xs ++ stThs (l.take (k + 1)) d lo := by
          have e1 := T.out
          simp only [stThs_add] at e1
          rw [e1, stTh_eq]
          simp [n1, n2, n3, n4, inLoop]
        refine ⟨⟨k + 1, h.v, h.W, by go_num, rfl, rfl, by omega, ⟨hx ▸ HL2.out, HREL.out.2.1.trans ((Gro.of_below l1 HBB.out ((Below.refl _ _).alloc (Nat.le_refl _) _)).trans h.gro), HO2.out⟩⟩, by simp [intOf]; omega⟩
    · go_wp2_with fail
      go_ret
      refine ⟨l1, rfl, ?_, HREL.out.2.1⟩
      have h1 := HREL.out.1
      rw [show k = l.length by omega, List.take_length] at h1
      exact h1
theorem stmts_calls : ∀ (n : Nat) (l : List S119), SizeOf.sizeOf l ≤ n → StmtsC l := by
  intro n
  induction n with
  | zero => intro l h; cases l <;> simp at h <;> omega
  | succ n ih =>
    intro l h
    refine stmts_walk l fun x hx => ?_
    have h1 := List.sizeOf_lt_of_mem hx
    obtain ⟨a, b, c, d, e, f, g, k⟩ := x
    simp only [S119.mk.sizeOf_spec] at h1
    exact ⟨ih _ (by show SizeOf.sizeOf g ≤ n; omega), ih _ (by show SizeOf.sizeOf k ≤ n; omega)⟩
end Go.Proofs.YtfigjpehecibeaaGreat.L
end
section
namespace Go.Proofs.YtfigjpehecibeaaGreat.L
open Go.RowKit Go.Proofs.YtfigjpehecibeaaGreatW.PrintWords Go.Proofs.YtfigjpehecibeaaGreatW.PrintLast Go.Proofs.YtfigjpehecibeaaGreatW.PrintMore Go.Proofs.YtfigjpehecibeaaGreat.Gr
set_option linter.unusedVariables false
set_option linter.unusedSimpArgs false
attribute [local go_sem] G.cell H.cell
theorem range_succ_map (k : Nat) : (List.range (k + 1)).map Th.decl = (List.range k).map Th.decl ++ [Th.decl k] := by rw [List.range_succ, List.map_append]; rfl
set_option maxHeartbeats 2000000 in
set_option maxRecDepth 100000 in
theorem List_calls (nm : ByteArray) (wd ln : Int) (ds : List S70) (bd : List S119) (A3 : Option Addr) (c3 : Nat) (A4 : Option Addr) (c4 : Nat) (w : World) (hdl : ds.length ≤ 1048576) (hb : k119.C w A4 bd.length bd) (hlb : bd.length ≤ c4) (hbb : Ot.bulkTs bd ≤ 1048576) :
    Calls Tryz.prog 79 #[.agg #[.string nm, .int .i64 wd, .int .i64 ln, .slice A3 ds.length c3, .slice A4 bd.length c4]] w fun r w' => ∃ v1, r = .returned v1 ∧ Li 125 w w' v1 (things ds bd) ∧ Below w.heap.size w w' := by
  have HB := Aside0.mk hb
  have HD := Aside0.mk (And.intro hdl (And.intro hlb hbb))
  have hlm : ds.length ≤ 9223372036854775807 := by omega
  clear hb hdl hlb hbb
  go_enter Tryz.func79, Tryz.ntmps79
  go_upto_region 2 with (fail)
  refine wp_grown0 ?_
  intro gg
  go_wp2_with fail
  go_loopw [4, 3] (fun i l2 W => ∃ (k : Nat) (h : H w (gw0 gg) (.slice none 0 0)), i = .int .i64 k ∧ h.v = l2 ∧ h.W = W ∧ k ≤ ds.length ∧ Aside0 (Li 125 w h.W h.v ((List.range k).map Th.decl))) (fun i _ _ => ds.length - (intOf i).toNat)
  case atStart =>
    refine ⟨0, mkH (v1 := .slice none 0 0) (w := gg.W) (Gro.of_below _ ((Below.refl _ _).alloc (Nat.le_refl _) _) gg.below), rfl, rfl, rfl, Nat.zero_le _, ⟨Kd.R_nil _ _ _ _ _⟩⟩
  case round =>
    obtain ⟨k, h, rfl, rfl, rfl, hk, HL⟩ := hrel
    have hne : some w.heap.size ≠ (Value.slice none 0 0).ownBlock := by simp [Value.ownBlock]
    by_cases hlt : k < ds.length
    · have hi1 : (k : Int) < (ds.length : Int) := by omega
      go_wp2_with ((with_reducible refine gate_builtin (b := .append) (xs := #[.tmp 12, .tmp 15]) rfl ?_); at_builtin; refine Kd.R_append (kTh w) (w0 := w) w.heap.size rfl (.tmp 12) (.tmp 15) 112 125 zTh 304 rfl under70 info80 rfl (show 0 < 22 by decide) (by decide) h.v ((List.range k).map Th.decl |>.map toTV) (toTV (.decl k)) [.int .i64 0, .int .i64 (k : Int), .int .i64 0, .string ⟨#[]⟩, .int .i64 0, .int .u64 0, .string ⟨#[]⟩, .slice none 0 0, .int .i64 0, .int .u64 0, .string ⟨#[]⟩, .slice none 0 0, .int .u64 0, .int .u64 0, .slice none 0 0, .slice none 0 0, .int .i64 0, .int .u64 0, .string ⟨#[]⟩, .slice none 0 0, .int .i64 0, .slice none 0 0] (fun _ => True) (fun k => some k ≠ h.v.ownBlock) rfl rfl (kTh_mk (x := toTV (.decl k)) (k119_zero w) (k116_zero w) (Kd.R_nil _ _ _ _ _)) (fun _ h => ⟨trivial, h⟩) (fun _ _ => trivial) HL.out h.gro.below (h.gro.below.size) (by have := HD.out.1; simp; omega) ?_; intro v2 w2 ho hb2 hg2 hat2; have HL2 := Aside0.mk (show Li 125 w w2 v2 ((List.range (k + 1)).map Th.decl) by unfold Li; rw [range_succ_map, List.map_append]; exact ho); obtain ⟨h, rfl, rfl⟩ : ∃ h' : H w (gw0 gg) (.slice none 0 0), h'.W = w2 ∧ h'.v = v2 := ⟨mkH (h.gro.trans ⟨hb2, hg2, hat2⟩), rfl, rfl⟩; clear ho hb2 hg2 hat2)
      exact ⟨⟨k + 1, h, by go_num, rfl, rfl, by omega, HL2⟩, by simp [intOf]; omega⟩
    · go_wp2_with fail
      have C := stmts_calls _ bd (Nat.le_refl _) w h.W h.v (.slice none 0 0) ((List.range k).map Th.decl) [] A4 c4 1 1 rfl h.gro.below HB.out HD.out.2.1 HL.out (Lo.nil _ _ _) (by have := HD.out; simp; omega) (by have := HD.out; omega) (by simp)
      refine C.mono ?_
      clear C
      rintro _ w3 ⟨v3, rfl, hL, hG⟩
      have HR := Aside0.mk (And.intro hL hG)
      clear hL hG
      go_wp2_with fail
      go_ret
      refine ⟨v3, rfl, ?_, HR.out.2.below⟩
      have h1 := HR.out.1
      rw [show k = ds.length by omega] at h1
      exact h1
end Go.Proofs.YtfigjpehecibeaaGreat.L
end
section
namespace Go.Proofs.YtfigjpehecibeaaGreat.L
open Go.RowKit Go.Proofs.YtfigjpehecibeaaGreatW.PrintWords Go.Proofs.YtfigjpehecibeaaGreatW.PrintLast Go.Proofs.YtfigjpehecibeaaGreatW.PrintMore Go.Proofs.YtfigjpehecibeaaGreat.Gr
set_option linter.unusedVariables false
set_option linter.unusedSimpArgs false
attribute [local go_sem] G.cell
theorem plus_min : ∀ (d : Nat) (l : List Nat) (i k s : Nat), (∀ x ∈ l, x ≤ 1099511627776) → i + d = l.length → d < k → s ≤ 1099511627776 → l.length < 100 →
    wf_plus.l0 k (s : Int) (l.map fun (n : Nat) => (n : Int)) (l.length : Int) (i : Int) = some ((min (s + (l.drop i).sum) 1099511627776 : Nat) : Int) := by
  intro d
  induction d with
  | zero =>
    intro l i k s hp h hk hs _
    obtain ⟨k, rfl⟩ : ∃ a, k = a + 1 := ⟨k - 1, by omega⟩
    rw [wf_plus.l0, if_neg (by omega), List.drop_eq_nil_of_le (by omega)]; simp; omega
  | succ d ih =>
    intro l i k s hp h hk hs hl
    obtain ⟨k, rfl⟩ : ∃ a, k = a + 1 := ⟨k - 1, by omega⟩
    have hi : i < l.length := by omega
    have e : wrap64 ((i : Int) + 1) = ((i + 1 : Nat) : Int) := by unfold wrap64; omega
    have er : rd (l.map fun (n : Nat) => (n : Int)) (i : Int) = ((l[i] : Nat) : Int) := by simp [rd, List.getD_eq_getElem?_getD, hi]
    have hd : l.drop i = l[i] :: l.drop (i + 1) := List.drop_eq_getElem_cons hi
    have hx := hp _ (List.getElem_mem hi)
    rw [hd, List.sum_cons]
    generalize l[i] = x at *
    have hm : mn ((s + x : Nat) : Int) 1099511627776 = ((min (s + x) 1099511627776 : Nat) : Int) := by unfold mn; split <;> omega
    rw [wf_plus.l0, if_pos (by omega), if_pos (by omega), if_pos (by simp; omega), e, er, wrap_add (by omega), hm, ih l (i + 1) k _ hp (by omega) (by omega) (by omega) hl]
    refine congrArg some ?_
    omega
theorem plusN_calls (l : List Nat) (r : Nat) (hr : r = min l.sum 1099511627776) (hx : ∀ x ∈ l, x ≤ 1099511627776) (hl : l.length < 100) (A : Option Addr) (c : Nat) (w : World) (hk : Kd.C (Kd.int .i64) w A l.length (l.map fun (n : Nat) => (n : Int))) (hc : l.length ≤ c) :
    Calls Tryz.prog 155 #[.slice A l.length c] w fun e w' => e = .returned (.int .i64 (r : Int)) ∧ Below w.heap.size w w' := by
  have h := wf_plus.calls 101 A c (l.map fun (n : Nat) => (n : Int)) (r : Int) w (by simpa using hk) (by simpa using hc) (by
    have := plus_min l.length l 0 101 0 hx (by omega) (by omega) (by omega) hl
    unfold wf_plus.f
    rw [hr]
    simpa using this)
  simpa using h
theorem lit_nats (w : World) (l : List Nat) (e : TypeId) (hm : l.length ≤ 100) : Kd.C (Kd.int .i64) (w.alloc (.cells (l.map fun (n : Nat) => Value.int .i64 n).toArray e)) (some ⟨w.heap.size, 0, none⟩) l.length (l.map fun (n : Nat) => (n : Int)) := by
  have h := lit_ints w (l.map fun (n : Nat) => (n : Int)) e (by simpa using hm)
  simpa [List.map_map, Function.comp_def] using h
set_option maxHeartbeats 1000000 in
set_option maxRecDepth 100000 in
theorem times_calls (n s r : Nat) (hn : n < 18446744073709551616) (hs : s ≤ 1099511627776) (hr : r = min (n * s) 1099511627776) (w : World) :
    Calls Tryz.prog 157 #[.int .u64 n, .int .i64 s] w fun e w' => e = .returned (.int .i64 (r : Int)) ∧ Below w.heap.size w w' := by
  have HR := Aside0.mk hr
  clear hr
  rcases Nat.eq_zero_or_pos s with rfl | h0
  · go_enter Tryz.func157, Tryz.ntmps157
    go_wp2_with fail
    go_ret
    exact ⟨by rw [HR.out]; simp, (by first | exact Below.refl _ _ | exact (Below.refl _ _).drew)⟩
  rcases Nat.eq_zero_or_pos n with rfl | h1
  · have b0 : ((s : Int) == 0) = false := by simp; omega
    have b1 : ¬ (s : Int) = 0 := by omega
    go_enter Tryz.func157, Tryz.ntmps157
    go_wp2_with fail
    go_ret
    exact ⟨by rw [HR.out]; simp, (by first | exact Below.refl _ _ | exact (Below.refl _ _).drew)⟩
  have b0 : ((s : Int) == 0) = false := by simp; omega
  have b1 : ¬ (s : Int) = 0 := by omega
  have b2 : ((n : Int) == 0) = false := by simp; omega
  have b3 : ¬ (n : Int) = 0 := by omega
  have hq : Int.tdiv 1099511627776 (s : Int) = ((1099511627776 / s : Nat) : Int) := by
    rw [show (1099511627776 : Int) = ((1099511627776 : Nat) : Int) from rfl, ← Int.ofNat_tdiv]
  have hq1 : 1099511627776 / s ≤ 1099511627776 := Nat.div_le_self _ _
  obtain ⟨q, hq2⟩ : ∃ q, q = 1099511627776 / s := ⟨_, rfl⟩
  rw [← hq2] at hq hq1
  have hw1 : wrap64 (q : Int) = (q : Int) := wrap_id (by omega) (by omega)
  have hw2 : IntKind.u64.wrap (q : Int) = (q : Int) := by simp only [IntKind.wrap, IntKind.bits, IntKind.signed, Bool.false_and, Bool.false_eq_true, if_false]; omega
  have Q2 := Aside0.mk hq2
  have H0 := Aside0.mk h0
  clear hq2 hn h0 h1
  rcases Nat.lt_or_ge q n with h | h
  · have h3 : (q : Int) < (n : Int) := by omega
    have HH := Aside0.mk h
    clear h
    go_enter Tryz.func157, Tryz.ntmps157
    go_wp2_with fail
    go_ret
    refine ⟨?_, (by first | exact Below.refl _ _ | exact (Below.refl _ _).drew)⟩
    have : 1099511627776 ≤ n * s := by
      have h6 := HH.out
      rw [Q2.out] at h6
      have h5 := (Nat.div_lt_iff_lt_mul H0.out).1 h6
      omega
    rw [HR.out, Nat.min_eq_right this]
    rfl
  · have h3 : ¬ (q : Int) < (n : Int) := by omega
    have HH := Aside0.mk h
    have hw3 : wrap64 (n : Int) = (n : Int) := wrap_id (by omega) (by omega)
    clear h
    go_enter Tryz.func157, Tryz.ntmps157
    go_wp2_with fail
    go_ret
    refine ⟨?_, (by first | exact Below.refl _ _ | exact (Below.refl _ _).drew)⟩
    have h5 : n * s ≤ 1099511627776 := by
      have := Nat.div_mul_le_self 1099511627776 s
      rw [← Q2.out] at this
      exact Nat.le_trans (Nat.mul_le_mul_right s HH.out) this
    rw [HR.out, Nat.min_eq_left h5]
    show Ending.returned (Value.int .i64 (wrap64 ((n : Int) * (s : Int)))) = _
    rw [wrap_id (by rw [← Int.natCast_mul]; omega) (by rw [← Int.natCast_mul]; omega), Int.natCast_mul]
theorem weigh_v {x : S116} (hb : weightE x ≤ 1099511627776) (A : Option Addr) (c : Nat) (w : World) (hc : k116.C w A x.f3.length x.f3) (hl : x.f3.length ≤ c) :
    Calls Tryz.prog 156 #[.agg #[.int .i64 x.f0, .int .u64 x.f1, .string x.f2, .slice A x.f3.length c]] w fun e w' => e = .returned (.int .i64 ((weightE x : Nat) : Int)) ∧ Below w.heap.size w w' := weigh_calls _ x (Nat.le_refl _) hb A c w hc hl
theorem size_v {f : FuncId} {cap : Nat} {l : List S119} (h : SizeC f cap l) {r : Nat} (hr : r = min (sizeB l) cap) (A : Option Addr) (c : Nat) (w : World) (hc : k119.C w A l.length l) (hl : l.length ≤ c) :
    Calls Tryz.prog f #[.slice A l.length c] w fun e w' => e = .returned (.int .i64 (r : Int)) ∧ Below w.heap.size w w' := hr ▸ h A c w hc hl
end Go.Proofs.YtfigjpehecibeaaGreat.L
end
