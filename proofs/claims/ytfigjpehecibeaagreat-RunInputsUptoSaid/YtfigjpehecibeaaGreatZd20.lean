/- Texts joined by a program of mine: Tc Td Te Tb. -/
import Derived.Test.YtfigjpehecibeaaGreatZd6
import Derived.Test.YtfigjpehecibeaaGreatZd19
section
namespace Go.Proofs.YtfigjpehecibeaaGreat.L
open Go.RowKit Go.Proofs.YtfigjpehecibeaaGreatW.PrintWords Go.Proofs.YtfigjpehecibeaaGreatW.PrintLast Go.Proofs.YtfigjpehecibeaaGreatW.PrintMore Go.Proofs.YtfigjpehecibeaaGreat.Gr
set_option linter.unusedVariables false
set_option linter.unusedSimpArgs false
def zEx : Value := .agg #[.int .i64 0, .int .u64 0, .string ⟨#[]⟩, .slice none 0 0]
theorem info75 : (Tryz.prog.info? 116).map (fun i => (i.zero, i.size, i.bytes)) = some (some zEx, 4, 56) := by kernel_rfl
theorem under73 : Tryz.prog.underlying 114 = some (.slice 116) := by kernel_rfl
theorem goodEs_len {l : List S116} {x : S116} (hx : x.f3 = l) (h : Ot.goodE x) : l.length * 56 ≤ 140737488351232 := by
  obtain ⟨a, b, s, r⟩ := x
  rw [Ot.goodE] at h
  exact hx ▸ h.2.2.2.1
def zSt : Value := .agg #[.int .i64 0, .string ⟨#[]⟩, .int .i64 0, .int .u64 0, .string ⟨#[]⟩, .slice none 0 0, .int .i64 0, .int .u64 0, .string ⟨#[]⟩, .slice none 0 0, .int .u64 0, .int .u64 0, .slice none 0 0, .slice none 0 0]
theorem info77 : (Tryz.prog.info? 119).map (fun i => (i.zero, i.size, i.bytes)) = some (some zSt, 14, 200) := by kernel_rfl
theorem under27 : Tryz.prog.underlying 23 = some (.slice 119) := by kernel_rfl
def zDe : Value := .agg #[.int .i64 0, .string ⟨#[]⟩, .int .i64 0, .slice none 0 0]
theorem info44 : (Tryz.prog.info? 70).map (fun i => (i.zero, i.size, i.bytes)) = some (some zDe, 4, 56) := by kernel_rfl
theorem under26 : Tryz.prog.underlying 22 = some (.slice 70) := by kernel_rfl
end Go.Proofs.YtfigjpehecibeaaGreat.L
end
section
namespace Go.Proofs.YtfigjpehecibeaaGreat.L
open Go.RowKit Go.Proofs.YtfigjpehecibeaaGreatW.PrintWords Go.Proofs.YtfigjpehecibeaaGreatW.PrintLast Go.Proofs.YtfigjpehecibeaaGreatW.PrintMore Go.Proofs.YtfigjpehecibeaaGreat.Gr
set_option linter.unusedVariables false
set_option linter.unusedSimpArgs false
attribute [local go_sem] G.cell
def OwnEC (x : S116) : Prop := ∀ (A : Option Addr) (c : Nat) (w : World), k116.C w A x.f3.length x.f3 → x.f3.length ≤ c →
  Calls Tryz.prog 152 #[.agg #[.int .i64 x.f0, .int .u64 x.f1, .string x.f2, .slice A x.f3.length c]] w fun r w' => ∃ v, r = .returned (.agg #[.int .i64 x.f0, .int .u64 x.f1, .string x.f2, v]) ∧ k116.R 116 w' w.heap.size (fun _ => True) v x.f3 ∧ Below w.heap.size w w'
set_option maxHeartbeats 2000000 in
set_option maxRecDepth 100000 in
theorem ownE_walk (x : S116) (hg : Ot.goodE x) (ih : ∀ y ∈ x.f3, OwnEC y) : OwnEC x := by
  intro A c w hc hl
  have IH := Aside0.mk ih
  have HC := Aside0.mk hc
  have HN := Aside0.mk (goodEs_len rfl hg)
  have hlm := hc.2.1
  clear ih hc hg
  obtain ⟨x0, x1, x2, x3⟩ := x
  simp only at *
  go_enter Tryz.func152, Tryz.ntmps152
  go_upto_region 1 with (fail)
  obtain ⟨X, hX⟩ : ∃ X, X = (w.alloc (.cells #[.int .i64 x0, .int .u64 x1, .string x2, .slice A x3.length c] 116)).alloc (.cells #[.int .i64 0, .int .u64 0, .string ⟨#[]⟩, .slice none 0 0] 116) := ⟨_, rfl⟩
  rw [← hX]
  have KX := Aside0.mk (show Below w.heap.size w X ∧ X.heap[w.heap.size]? = some (.cells #[.int .i64 x0, .int .u64 x1, .string x2, .slice A x3.length c] 116 (0, 0)) ∧ X.heap[w.heap.size + 1]? = some (.cells #[.int .i64 0, .int .u64 0, .string ⟨#[]⟩, .slice none 0 0] 116 (0, 0)) from by
    rw [hX]
    exact ⟨((Below.refl _ _).alloc (Nat.le_refl _) _).alloc (by simp) _, blk_alloc (blk_new _ _) _, by simpa using blk_new (w.alloc (.cells #[.int .i64 x0, .int .u64 x1, .string x2, .slice A x3.length c] 116)) (.cells #[.int .i64 0, .int .u64 0, .string ⟨#[]⟩, .slice none 0 0] 116)⟩)
  clear hX
  go_wp2_with fail
  go_loopw [4, 3] (fun i v W => ∃ (k : Nat) (vo : Value), i = .int .i64 k ∧ vo = v ∧ k ≤ x3.length ∧ Aside0 (Below w.heap.size w W ∧ W.heap[w.heap.size]? = some (.cells #[.int .i64 x0, .int .u64 x1, .string x2, .slice A x3.length c] 116 (0, 0)) ∧ W.heap[w.heap.size + 1]? = some (.cells #[.int .i64 0, .int .u64 0, .string ⟨#[]⟩, .slice none 0 0] 116 (0, 0)) ∧ k116.R 116 W w.heap.size (fun b => w.heap.size + 1 < b) vo (x3.take k))) (fun i _ _ => x3.length - (intOf i).toNat)
  case atStart => exact ⟨0, _, rfl, rfl, Nat.zero_le _, ⟨KX.out.1, KX.out.2.1, KX.out.2.2, by rw [List.take_zero]; exact Kd.R_nil _ _ _ _ _⟩⟩
  case round =>
    obtain ⟨k, vo, rfl, rfl, hk, HREL⟩ := hrel
    by_cases hlt : k < x3.length
    · have b0 : ∀ g : G wr, g.W.cell? ⟨w.heap.size, 3, none⟩ = some (.slice A x3.length c) := fun g => (blk_cell (blk_below HREL.out.2.1 g.below) 3).trans rfl
      obtain ⟨ad, A3, c3, e1, q0, q1, q2, q3, l3, g3⟩ := at_T116 HC.out (k : Int) (Int.natCast_nonneg _) (by omega)
      cases e1
      rw [Int.toNat_natCast] at q0 q1 q2 q3
      have gw1 : ∀ g : G wr, Below w.heap.size w g.W := fun g => HREL.out.1.trans (g.below.mono HREL.out.1.size)
      replace q0 := fun g : G wr => held_in (gw1 g) q0
      replace q1 := fun g : G wr => held_in (gw1 g) q1
      replace q2 := fun g : G wr => held_in (gw1 g) q2
      replace q3 := fun g : G wr => held_in (gw1 g) q3
      have hi1 : (k : Int) < (x3.length : Int) := by omega
      have K := Aside0.mk (And.intro l3 g3)
      clear l3 g3
      have IH1 := Aside0.mk (IH.out _ (rd75_mem hlt))
      have T := Aside0.mk (take_rd116 hlt)
      generalize rd_T116 x3 (k : Int) = y at *
      have LT := Aside0.mk (show ∀ b, vo.ownBlock = some b → b < wr.heap.size from by obtain ⟨_, inner, ho, _⟩ := HREL.out.2.2.2; exact fun b hb => own_lt ho b hb)
      refine wp_grown0 ?_
      intro gg
      go_wp2_with fail
      refine (IH1.out A3 c3 gg.W (Kd.C_below K.out.2 (gw1 gg)) K.out.1).mono ?_
      rintro _ w9 ⟨v9, rfl, hR9, hb⟩
      have HP := Aside0.mk (show k116.M w9 w.heap.size (fun b => wr.heap.size ≤ b) y [.int .i64 y.f0, .int .u64 y.f1, .string y.f2, v9] from k116_mkM w9 w.heap.size _ y (Kd.R_lower (Kd.R_mono (Kd.R_bound hR9) (fun b hb => Nat.le_trans gg.below.size hb.2.1)) (gw1 gg).size))
      obtain ⟨g9, hg9⟩ : ∃ g : G wr, g.W = w9 := ⟨mkG (gg.below.trans (hb.mono gg.below.size)), rfl⟩
      subst hg9
      clear hR9 hb
      go_wp2_with (at_builtin; refine Kd.R_append k116 (w0 := w) w.heap.size rfl (.tmp 12) (.tmp 19) 114 116 zEx 56 rfl under73 info75 rfl (show 0 < 4 by decide) (by decide) vo (x3.take k) y [.int .i64 y.f0, .int .u64 y.f1, .string y.f2, v9] (fun b => w.heap.size + 1 < b) (fun b => wr.heap.size ≤ b) rfl rfl HP.out (fun b hb => ⟨Nat.lt_of_lt_of_le (blk_lt HREL.out.2.2.1) hb, some_ne_of_lt LT.out hb⟩) (fun b hb => Nat.lt_of_lt_of_le (blk_lt HREL.out.2.2.1) (Nat.le_trans g9.below.size hb)) (Kd.R_below HREL.out.2.2.2 g9.below) (gw1 g9) (gw1 g9).size (by have := HN.out; have := List.length_take_le k x3; omega) ?_)
      intro v1 w1 hr1 hb1 hg1 hat1
      have NE := Aside0.mk (show ∀ b, b ≤ w.heap.size + 1 → some b ≠ vo.ownBlock from fun b hb he => by have h := HREL.out.2.2.2.1 b he.symm; exact absurd h (Nat.not_lt.2 hb))
      have E0 := Aside0.mk ((hg1.block w.heap.size (Nat.lt_of_lt_of_le (blk_lt HREL.out.2.1) g9.below.size) (NE.out _ (by omega))).trans (blk_below HREL.out.2.1 g9.below))
      have E1 := Aside0.mk ((hg1.block (w.heap.size + 1) (Nat.lt_of_lt_of_le (blk_lt HREL.out.2.2.1) g9.below.size) (NE.out _ (by omega))).trans (blk_below HREL.out.2.2.1 g9.below))
      have W1 := Aside0.mk (And.intro hb1 hr1)
      clear hr1 hb1 hg1 hat1
      go_wp2_with fail
      exact ⟨⟨k + 1, v1, by go_num, rfl, by omega, ⟨W1.out.1, E0.out, E1.out, by rw [T.out]; exact W1.out.2⟩⟩, by simp [intOf]; omega⟩
    · obtain ⟨hB, h0, h1, hR⟩ := HREL.out
      obtain ⟨Av, cv, hv⟩ := Kd.R_slice hR
      rw [List.length_take, Nat.min_eq_left hk] at hv
      subst hv
      have HB := Aside0.mk hB
      have HR := Aside0.mk hR
      have HK := Aside0.mk (And.intro h0 h1)
      have z0 : wr.cell? ⟨w.heap.size, 0, none⟩ = some (.int .i64 x0) := (blk_cell h0 0).trans rfl
      have z1 : wr.cell? ⟨w.heap.size, 1, none⟩ = some (.int .u64 x1) := (blk_cell h0 1).trans rfl
      have z2 : wr.cell? ⟨w.heap.size, 2, none⟩ = some (.string x2) := (blk_cell h0 2).trans rfl
      have z3 : wr.cell? ⟨w.heap.size, 3, none⟩ = some (.slice A x3.length c) := (blk_cell h0 3).trans rfl
      have y3 := blk_frozen h0 3
      have r0 : wr.cell? ⟨w.heap.size + 1, 0, none⟩ = some (.int .i64 0) := (blk_cell h1 0).trans rfl
      have r1 : wr.cell? ⟨w.heap.size + 1, 1, none⟩ = some (.int .u64 0) := (blk_cell h1 1).trans rfl
      have r2 : wr.cell? ⟨w.heap.size + 1, 2, none⟩ = some (.string ⟨#[]⟩) := (blk_cell h1 2).trans rfl
      have r3 : wr.cell? ⟨w.heap.size + 1, 3, none⟩ = some (.slice none 0 0) := (blk_cell h1 3).trans rfl
      have f0 := blk_frozen h1 0
      have f1 := blk_frozen h1 1
      have f2 := blk_frozen h1 2
      have f3 := blk_frozen h1 3
      clear hB hR h0 h1 HREL
      go_wp2_with fail
      refine bodyPost_ret (results_cell_row rfl _ _ (w.heap.size + 1) 116 #[.int .i64 x0, .int .u64 x1, .string x2, .slice Av k cv] (0, 0) _ rfl (blk_put (blk_put (blk_put (blk_put ((Below.heap_setCell _ _ _ _ (show w.heap.size + 1 ≠ w.heap.size by omega)).trans HK.out.2) 0 _ rfl) 1 _ rfl) 2 _ rfl) 3 _ rfl) Tryz.underlying116 rfl (by kernel_rfl)) rfl ?_
      refine ⟨_, rfl, ?_, ?_⟩
      · have hk2 : k = x3.length := by omega
        subst hk2
        rw [List.take_length] at HR
        exact Kd.R_mono (Kd.R_far (Kd.R_far (Kd.R_far (Kd.R_far (Kd.R_far HR.out (p := ⟨w.heap.size, 3, none⟩) (fun b hb => by show b ≠ w.heap.size; omega) _) (p := ⟨w.heap.size + 1, 0, none⟩) (fun b hb => by show b ≠ w.heap.size + 1; omega) _) (p := ⟨w.heap.size + 1, 1, none⟩) (fun b hb => by show b ≠ w.heap.size + 1; omega) _) (p := ⟨w.heap.size + 1, 2, none⟩) (fun b hb => by show b ≠ w.heap.size + 1; omega) _) (p := ⟨w.heap.size + 1, 3, none⟩) (fun b hb => by show b ≠ w.heap.size + 1; omega) _) (fun _ _ => trivial)
      · exact ((((HB.out.setCell (p := ⟨w.heap.size, 3, none⟩) (show w.heap.size ≤ w.heap.size by omega) _).setCell (p := ⟨w.heap.size + 1, 0, none⟩) (show w.heap.size ≤ w.heap.size + 1 by omega) _).setCell (p := ⟨w.heap.size + 1, 1, none⟩) (show w.heap.size ≤ w.heap.size + 1 by omega) _).setCell (p := ⟨w.heap.size + 1, 2, none⟩) (show w.heap.size ≤ w.heap.size + 1 by omega) _).setCell (p := ⟨w.heap.size + 1, 3, none⟩) (show w.heap.size ≤ w.heap.size + 1 by omega) _
theorem ownE_calls : ∀ (n : Nat) (x : S116), SizeOf.sizeOf x ≤ n → Ot.goodE x → OwnEC x := by
  intro n
  induction n with
  | zero => intro x h; obtain ⟨a, b, c, l⟩ := x; simp at h
  | succ n ih =>
    intro x h hg
    refine ownE_walk x hg fun y hy => ih y (rd75_size rfl hy h) ?_
    obtain ⟨a, b, s, l⟩ := x
    rw [Ot.goodE] at hg
    exact (Ot.goodEs_iff l).1 hg.2.2.2.2 y hy
end Go.Proofs.YtfigjpehecibeaaGreat.L
end
section
namespace Go.Proofs.YtfigjpehecibeaaGreat.L
open Go.RowKit Go.Proofs.YtfigjpehecibeaaGreatW.PrintWords Go.Proofs.YtfigjpehecibeaaGreatW.PrintLast Go.Proofs.YtfigjpehecibeaaGreatW.PrintMore Go.Proofs.YtfigjpehecibeaaGreat.Gr
set_option linter.unusedVariables false
set_option linter.unusedSimpArgs false
attribute [local go_sem] G.cell
def OwnBC (l : List S119) : Prop := ∀ (A : Option Addr) (c : Nat) (w : World), k119.C w A l.length l → l.length ≤ c →
  Calls Tryz.prog 112 #[.slice A l.length c] w fun r w' => ∃ v, r = .returned v ∧ k119.R 119 w' w.heap.size (fun _ => True) v l ∧ Below w.heap.size w w'
set_option maxHeartbeats 4000000 in
set_option maxRecDepth 100000 in
theorem ownB_walk (l : List S119) (hn : l.length * 200 ≤ 140737488351232) (hg : ∀ x ∈ l, Ot.goodT x) (ih : ∀ x ∈ l, OwnBC x.f6 ∧ OwnBC x.f7) : OwnBC l := by
  intro A c w hc hl
  have IH := Aside0.mk ih
  have HC := Aside0.mk hc
  have HN := Aside0.mk hn
  have HG := Aside0.mk hg
  have hlm := hc.2.1
  clear ih hc hg hn
  go_enter Tryz.func112, Tryz.ntmps112
  go_wp2_with fail
  go_loopw [4, 3] (fun i v W => ∃ (k : Nat) (vo : Value), i = .int .i64 k ∧ vo = v ∧ k ≤ l.length ∧ Aside0 (Below w.heap.size w W ∧ k119.R 119 W w.heap.size (fun _ => True) vo (l.take k))) (fun i _ _ => l.length - (intOf i).toNat)
  case atStart => exact ⟨0, _, rfl, rfl, Nat.zero_le _, ⟨Below.refl _ _, by rw [List.take_zero]; exact Kd.R_nil _ _ _ _ _⟩⟩
  case round =>
    obtain ⟨k, vo, rfl, rfl, hk, HREL⟩ := hrel
    by_cases hlt : k < l.length
    · obtain ⟨ad, A5, c5, A9, c9, A12, c12, A13, c13, e1, q0, q1, q2, q3, q4, q5, q6, q7, q8, q9, q10, q11, q12, q13, l5, g5, l9, g9, l12, g12, l13, g13⟩ := at_T119 HC.out (k : Int) (Int.natCast_nonneg _) (by omega)
      cases e1
      rw [Int.toNat_natCast] at q0 q1 q2 q3 q4 q5 q6 q7 q8 q9 q10 q11 q12 q13
      replace q0 := held_in HREL.out.1 q0
      replace q1 := held_in HREL.out.1 q1
      replace q2 := held_in HREL.out.1 q2
      replace q3 := held_in HREL.out.1 q3
      replace q4 := held_in HREL.out.1 q4
      replace q5 := held_in HREL.out.1 q5
      replace q6 := held_in HREL.out.1 q6
      replace q7 := held_in HREL.out.1 q7
      replace q8 := held_in HREL.out.1 q8
      replace q9 := held_in HREL.out.1 q9
      replace q10 := held_in HREL.out.1 q10
      replace q11 := held_in HREL.out.1 q11
      replace q12 := held_in HREL.out.1 q12
      replace q13 := held_in HREL.out.1 q13
      have hi1 : (k : Int) < (l.length : Int) := by omega
      have K := Aside0.mk (And.intro l5 (And.intro g5 (And.intro l9 (And.intro g9 (And.intro l12 (And.intro g12 (And.intro l13 g13)))))))
      clear l5 g5 l9 g9 l12 g12 l13 g13
      have IH1 := Aside0.mk (IH.out _ (rd77_mem hlt))
      have GT := Aside0.mk (HG.out _ (rd77_mem hlt))
      have T := Aside0.mk (take_rd119 hlt)
      generalize rd_T119 l (k : Int) = y at *
      have GE := Aside0.mk (show Ot.goodE y.f2 ∧ Ot.goodE y.f3 from by obtain ⟨a, s, e, f, lo, hi, th, el⟩ := y; have h := GT.out; rw [Ot.goodT] at h; exact ⟨h.2.2.1, h.2.2.2.1⟩)
      have C5 := fun W (h : Below w.heap.size w W) => ownE_calls _ y.f2 (Nat.le_refl _) GE.out.1 A5 c5 W (Kd.C_below K.out.2.1 h) K.out.1
      have C9 := fun W (h : Below w.heap.size w W) => ownE_calls _ y.f3 (Nat.le_refl _) GE.out.2 A9 c9 W (Kd.C_below K.out.2.2.2.1 h) K.out.2.2.1
      have C12 := fun W (h : Below w.heap.size w W) => IH1.out.1 A12 c12 W (Kd.C_below K.out.2.2.2.2.2.1 h) K.out.2.2.2.2.1
      have C13 := fun W (h : Below w.heap.size w W) => IH1.out.2 A13 c13 W (Kd.C_below K.out.2.2.2.2.2.2.2 h) K.out.2.2.2.2.2.2.1
      have CS := Aside0.mk (And.intro C5 (And.intro C9 (And.intro C12 C13)))
      clear C5 C9 C12 C13
      go_upto_region 6 with (fail)
      · obtain ⟨wc, hwc⟩ : ∃ wc, wc = wr.alloc (.cells #[.int .i64 y.f0, .string y.f1, .int .i64 y.f2.f0, .int .u64 y.f2.f1, .string y.f2.f2, .slice A5 y.f2.f3.length c5, .int .i64 y.f3.f0, .int .u64 y.f3.f1, .string y.f3.f2, .slice A9 y.f3.f3.length c9, .int .u64 y.f4, .int .u64 y.f5, .slice A12 y.f6.length c12, .slice A13 y.f7.length c13] 119) := ⟨_, rfl⟩
        rw [← hwc]
        clear q0 q1 q2 q3 q4 q5 q6 q7 q8 q9 q10 q11 q12 q13
        have B0 := Aside0.mk (HREL.out.1)
        have hbk : wc.heap[wr.heap.size]? = some (.cells #[.int .i64 y.f0, .string y.f1, .int .i64 y.f2.f0, .int .u64 y.f2.f1, .string y.f2.f2, .slice A5 y.f2.f3.length c5, .int .i64 y.f3.f0, .int .u64 y.f3.f1, .string y.f3.f2, .slice A9 y.f3.f3.length c9, .int .u64 y.f4, .int .u64 y.f5, .slice A12 y.f6.length c12, .slice A13 y.f7.length c13] 119 (0, 0)) := hwc ▸ blk_new wr _
        have hbl : Below wr.heap.size wr wc := hwc ▸ (Below.refl _ _).alloc (Nat.le_refl _) _
        clear hwc
        have HRO := Aside0.mk (Kd.R_below HREL.out.2 hbl)
        have OB := Aside0.mk (show ∀ b, vo.ownBlock = some b → b < wr.heap.size from by obtain ⟨_, inner, ho, _⟩ := HREL.out.2; exact fun b hb => own_lt ho b hb)
        have KB := Aside0.mk hbk
        have BL := Aside0.mk hbl
        clear hbk hbl
        refine wp_grown0 ?_
        intro gg
        have z2 : ∀ g : G wc, g.W.cell? ⟨wr.heap.size, 2, none⟩ = some (.int .i64 y.f2.f0) := fun g => (blk_cell (blk_below KB.out g.below) 2).trans rfl
        have f2 : ∀ g : G wc, g.W.frozen? ⟨wr.heap.size, 2, none⟩ = false := fun g => blk_frozen (blk_below KB.out g.below) 2
        have z3 : ∀ g : G wc, g.W.cell? ⟨wr.heap.size, 3, none⟩ = some (.int .u64 y.f2.f1) := fun g => (blk_cell (blk_below KB.out g.below) 3).trans rfl
        have f3 : ∀ g : G wc, g.W.frozen? ⟨wr.heap.size, 3, none⟩ = false := fun g => blk_frozen (blk_below KB.out g.below) 3
        have z4 : ∀ g : G wc, g.W.cell? ⟨wr.heap.size, 4, none⟩ = some (.string y.f2.f2) := fun g => (blk_cell (blk_below KB.out g.below) 4).trans rfl
        have f4 : ∀ g : G wc, g.W.frozen? ⟨wr.heap.size, 4, none⟩ = false := fun g => blk_frozen (blk_below KB.out g.below) 4
        have z5 : ∀ g : G wc, g.W.cell? ⟨wr.heap.size, 5, none⟩ = some (.slice A5 y.f2.f3.length c5) := fun g => (blk_cell (blk_below KB.out g.below) 5).trans rfl
        have f5 : ∀ g : G wc, g.W.frozen? ⟨wr.heap.size, 5, none⟩ = false := fun g => blk_frozen (blk_below KB.out g.below) 5
        have WB : ∀ g : G wc, Below w.heap.size w g.W := fun g => (B0.out.trans (BL.out.mono B0.out.size)).trans (g.below.mono (B0.out.trans (BL.out.mono B0.out.size)).size)
        go_upto_region 7 with (go_at_call 152; refine (CS.out.1 gg.W (WB gg)).mono ?_; rintro _ w9 ⟨v9, rfl, hR, hb⟩; obtain ⟨Av5, cv5, rfl⟩ := Kd.R_slice hR; have HR5 := Aside0.mk (And.intro hR hb); clear hR hb; obtain ⟨g9, hg9⟩ : ∃ g : G wc, g.W = w9 := ⟨mkG (gg.below.trans (HR5.out.2.mono gg.below.size)), rfl⟩; subst hg9)
        clear z2 f2 z3 f3 z4 f4 z5 f5
        obtain ⟨X5, hX⟩ : ∃ X, X = ((((g9.W.setCell ⟨wr.heap.size, 2, none⟩ (.int .i64 y.f2.f0)).setCell ⟨wr.heap.size, 3, none⟩ (.int .u64 y.f2.f1)).setCell ⟨wr.heap.size, 4, none⟩ (.string y.f2.f2)).setCell ⟨wr.heap.size, 5, none⟩ (.slice Av5 y.f2.f3.length cv5)) := ⟨_, rfl⟩
        rw [← hX]
        have KB2 := Aside0.mk (show X5.heap[wr.heap.size]? = some (.cells #[.int .i64 y.f0, .string y.f1, .int .i64 y.f2.f0, .int .u64 y.f2.f1, .string y.f2.f2, .slice Av5 y.f2.f3.length cv5, .int .i64 y.f3.f0, .int .u64 y.f3.f1, .string y.f3.f2, .slice A9 y.f3.f3.length c9, .int .u64 y.f4, .int .u64 y.f5, .slice A12 y.f6.length c12, .slice A13 y.f7.length c13] 119 (0, 0)) from hX ▸ (blk_put (blk_put (blk_put (blk_put (blk_below KB.out g9.below) 2 _ rfl) 3 _ rfl) 4 _ rfl) 5 _ rfl))
        have BL2 := Aside0.mk (show Below wr.heap.size wr X5 from by rw [hX]; exact (((((BL.out.trans (g9.below.mono BL.out.size)).setCell (p := ⟨wr.heap.size, 2, none⟩) (Nat.le_refl _) _).setCell (p := ⟨wr.heap.size, 3, none⟩) (Nat.le_refl _) _).setCell (p := ⟨wr.heap.size, 4, none⟩) (Nat.le_refl _) _).setCell (p := ⟨wr.heap.size, 5, none⟩) (Nat.le_refl _) _))
        have HRO2 := Aside0.mk (show k119.R 119 X5 w.heap.size (fun b => b < wr.heap.size) vo (l.take k) from hX ▸ (Kd.R_far (Kd.R_far (Kd.R_far (Kd.R_far (Kd.R_below (Kd.R_mono (Kd.R_bound HREL.out.2) (fun b hb => hb.2.2.1)) (BL.out.trans (g9.below.mono BL.out.size))) (p := ⟨wr.heap.size, 2, none⟩) (fun b hb => Nat.ne_of_lt hb) _) (p := ⟨wr.heap.size, 3, none⟩) (fun b hb => Nat.ne_of_lt hb) _) (p := ⟨wr.heap.size, 4, none⟩) (fun b hb => Nat.ne_of_lt hb) _) (p := ⟨wr.heap.size, 5, none⟩) (fun b hb => Nat.ne_of_lt hb) _))
        have HQ52 := Aside0.mk (show k116.R 116 X5 w.heap.size (fun b => wr.heap.size < b) _ (y.f2.f3) from hX ▸ (Kd.R_far (Kd.R_far (Kd.R_far (Kd.R_far (Kd.R_lower (Kd.R_mono (Kd.R_bound HR5.out.1) (fun b hb => Nat.lt_of_lt_of_le (blk_lt KB.out) (Nat.le_trans gg.below.size hb.2.1))) (WB gg).size) (p := ⟨wr.heap.size, 2, none⟩) (fun b hb => Nat.ne_of_gt hb) _) (p := ⟨wr.heap.size, 3, none⟩) (fun b hb => Nat.ne_of_gt hb) _) (p := ⟨wr.heap.size, 4, none⟩) (fun b hb => Nat.ne_of_gt hb) _) (p := ⟨wr.heap.size, 5, none⟩) (fun b hb => Nat.ne_of_gt hb) _))
        clear hX HR5 g9 gg WB KB BL HRO
        have KB := KB2
        clear KB2
        have BL := BL2
        clear BL2
        have HRO := HRO2
        clear HRO2
        have HQ5 := HQ52
        clear HQ52
        refine wp_grown0 ?_
        intro gg
        have z6 : ∀ g : G X5, g.W.cell? ⟨wr.heap.size, 6, none⟩ = some (.int .i64 y.f3.f0) := fun g => (blk_cell (blk_below KB.out g.below) 6).trans rfl
        have f6 : ∀ g : G X5, g.W.frozen? ⟨wr.heap.size, 6, none⟩ = false := fun g => blk_frozen (blk_below KB.out g.below) 6
        have z7 : ∀ g : G X5, g.W.cell? ⟨wr.heap.size, 7, none⟩ = some (.int .u64 y.f3.f1) := fun g => (blk_cell (blk_below KB.out g.below) 7).trans rfl
        have f7 : ∀ g : G X5, g.W.frozen? ⟨wr.heap.size, 7, none⟩ = false := fun g => blk_frozen (blk_below KB.out g.below) 7
        have z8 : ∀ g : G X5, g.W.cell? ⟨wr.heap.size, 8, none⟩ = some (.string y.f3.f2) := fun g => (blk_cell (blk_below KB.out g.below) 8).trans rfl
        have f8 : ∀ g : G X5, g.W.frozen? ⟨wr.heap.size, 8, none⟩ = false := fun g => blk_frozen (blk_below KB.out g.below) 8
        have z9 : ∀ g : G X5, g.W.cell? ⟨wr.heap.size, 9, none⟩ = some (.slice A9 y.f3.f3.length c9) := fun g => (blk_cell (blk_below KB.out g.below) 9).trans rfl
        have f9 : ∀ g : G X5, g.W.frozen? ⟨wr.heap.size, 9, none⟩ = false := fun g => blk_frozen (blk_below KB.out g.below) 9
        have WB : ∀ g : G X5, Below w.heap.size w g.W := fun g => (B0.out.trans (BL.out.mono B0.out.size)).trans (g.below.mono (B0.out.trans (BL.out.mono B0.out.size)).size)
        go_upto_region 8 with (go_at_call 152; refine (CS.out.2.1 gg.W (WB gg)).mono ?_; rintro _ w9 ⟨v9, rfl, hR, hb⟩; obtain ⟨Av9, cv9, rfl⟩ := Kd.R_slice hR; have HR9 := Aside0.mk (And.intro hR hb); clear hR hb; obtain ⟨g9, hg9⟩ : ∃ g : G X5, g.W = w9 := ⟨mkG (gg.below.trans (HR9.out.2.mono gg.below.size)), rfl⟩; subst hg9)
        clear z6 f6 z7 f7 z8 f8 z9 f9
        obtain ⟨X9, hX⟩ : ∃ X, X = ((((g9.W.setCell ⟨wr.heap.size, 6, none⟩ (.int .i64 y.f3.f0)).setCell ⟨wr.heap.size, 7, none⟩ (.int .u64 y.f3.f1)).setCell ⟨wr.heap.size, 8, none⟩ (.string y.f3.f2)).setCell ⟨wr.heap.size, 9, none⟩ (.slice Av9 y.f3.f3.length cv9)) := ⟨_, rfl⟩
        rw [← hX]
        have KB2 := Aside0.mk (show X9.heap[wr.heap.size]? = some (.cells #[.int .i64 y.f0, .string y.f1, .int .i64 y.f2.f0, .int .u64 y.f2.f1, .string y.f2.f2, .slice Av5 y.f2.f3.length cv5, .int .i64 y.f3.f0, .int .u64 y.f3.f1, .string y.f3.f2, .slice Av9 y.f3.f3.length cv9, .int .u64 y.f4, .int .u64 y.f5, .slice A12 y.f6.length c12, .slice A13 y.f7.length c13] 119 (0, 0)) from hX ▸ (blk_put (blk_put (blk_put (blk_put (blk_below KB.out g9.below) 6 _ rfl) 7 _ rfl) 8 _ rfl) 9 _ rfl))
        have BL2 := Aside0.mk (show Below wr.heap.size wr X9 from by rw [hX]; exact (((((BL.out.trans (g9.below.mono BL.out.size)).setCell (p := ⟨wr.heap.size, 6, none⟩) (Nat.le_refl _) _).setCell (p := ⟨wr.heap.size, 7, none⟩) (Nat.le_refl _) _).setCell (p := ⟨wr.heap.size, 8, none⟩) (Nat.le_refl _) _).setCell (p := ⟨wr.heap.size, 9, none⟩) (Nat.le_refl _) _))
        have HRO2 := Aside0.mk (show k119.R 119 X9 w.heap.size (fun b => b < wr.heap.size) vo (l.take k) from hX ▸ (Kd.R_far (Kd.R_far (Kd.R_far (Kd.R_far (Kd.R_below (Kd.R_mono (Kd.R_bound HREL.out.2) (fun b hb => hb.2.2.1)) (BL.out.trans (g9.below.mono BL.out.size))) (p := ⟨wr.heap.size, 6, none⟩) (fun b hb => Nat.ne_of_lt hb) _) (p := ⟨wr.heap.size, 7, none⟩) (fun b hb => Nat.ne_of_lt hb) _) (p := ⟨wr.heap.size, 8, none⟩) (fun b hb => Nat.ne_of_lt hb) _) (p := ⟨wr.heap.size, 9, none⟩) (fun b hb => Nat.ne_of_lt hb) _))
        have HQ52 := Aside0.mk (show k116.R 116 X9 w.heap.size (fun b => wr.heap.size < b) _ (y.f2.f3) from hX ▸ (Kd.R_far (Kd.R_far (Kd.R_far (Kd.R_far (Kd.R_below HQ5.out g9.below) (p := ⟨wr.heap.size, 6, none⟩) (fun b hb => Nat.ne_of_gt hb) _) (p := ⟨wr.heap.size, 7, none⟩) (fun b hb => Nat.ne_of_gt hb) _) (p := ⟨wr.heap.size, 8, none⟩) (fun b hb => Nat.ne_of_gt hb) _) (p := ⟨wr.heap.size, 9, none⟩) (fun b hb => Nat.ne_of_gt hb) _))
        have HQ92 := Aside0.mk (show k116.R 116 X9 w.heap.size (fun b => wr.heap.size < b) _ (y.f3.f3) from hX ▸ (Kd.R_far (Kd.R_far (Kd.R_far (Kd.R_far (Kd.R_lower (Kd.R_mono (Kd.R_bound HR9.out.1) (fun b hb => Nat.lt_of_lt_of_le (blk_lt KB.out) (Nat.le_trans gg.below.size hb.2.1))) (WB gg).size) (p := ⟨wr.heap.size, 6, none⟩) (fun b hb => Nat.ne_of_gt hb) _) (p := ⟨wr.heap.size, 7, none⟩) (fun b hb => Nat.ne_of_gt hb) _) (p := ⟨wr.heap.size, 8, none⟩) (fun b hb => Nat.ne_of_gt hb) _) (p := ⟨wr.heap.size, 9, none⟩) (fun b hb => Nat.ne_of_gt hb) _))
        clear hX HR9 g9 gg WB KB BL HRO HQ5
        have KB := KB2
        clear KB2
        have BL := BL2
        clear BL2
        have HRO := HRO2
        clear HRO2
        have HQ5 := HQ52
        clear HQ52
        have HQ9 := HQ92
        clear HQ92
        refine wp_grown0 ?_
        intro gg
        have z12 : ∀ g : G X9, g.W.cell? ⟨wr.heap.size, 12, none⟩ = some (.slice A12 y.f6.length c12) := fun g => (blk_cell (blk_below KB.out g.below) 12).trans rfl
        have f12 : ∀ g : G X9, g.W.frozen? ⟨wr.heap.size, 12, none⟩ = false := fun g => blk_frozen (blk_below KB.out g.below) 12
        have WB : ∀ g : G X9, Below w.heap.size w g.W := fun g => (B0.out.trans (BL.out.mono B0.out.size)).trans (g.below.mono (B0.out.trans (BL.out.mono B0.out.size)).size)
        go_upto_region 9 with (go_at_call 112; refine (CS.out.2.2.1 gg.W (WB gg)).mono ?_; rintro _ w9 ⟨v9, rfl, hR, hb⟩; obtain ⟨Av12, cv12, rfl⟩ := Kd.R_slice hR; have HR12 := Aside0.mk (And.intro hR hb); clear hR hb; obtain ⟨g9, hg9⟩ : ∃ g : G X9, g.W = w9 := ⟨mkG (gg.below.trans (HR12.out.2.mono gg.below.size)), rfl⟩; subst hg9)
        clear z12 f12
        obtain ⟨X12, hX⟩ : ∃ X, X = (g9.W.setCell ⟨wr.heap.size, 12, none⟩ (.slice Av12 y.f6.length cv12)) := ⟨_, rfl⟩
        rw [← hX]
        have KB2 := Aside0.mk (show X12.heap[wr.heap.size]? = some (.cells #[.int .i64 y.f0, .string y.f1, .int .i64 y.f2.f0, .int .u64 y.f2.f1, .string y.f2.f2, .slice Av5 y.f2.f3.length cv5, .int .i64 y.f3.f0, .int .u64 y.f3.f1, .string y.f3.f2, .slice Av9 y.f3.f3.length cv9, .int .u64 y.f4, .int .u64 y.f5, .slice Av12 y.f6.length cv12, .slice A13 y.f7.length c13] 119 (0, 0)) from hX ▸ (blk_put (blk_below KB.out g9.below) 12 _ rfl))
        have BL2 := Aside0.mk (show Below wr.heap.size wr X12 from by rw [hX]; exact ((BL.out.trans (g9.below.mono BL.out.size)).setCell (p := ⟨wr.heap.size, 12, none⟩) (Nat.le_refl _) _))
        have HRO2 := Aside0.mk (show k119.R 119 X12 w.heap.size (fun b => b < wr.heap.size) vo (l.take k) from hX ▸ (Kd.R_far (Kd.R_below (Kd.R_mono (Kd.R_bound HREL.out.2) (fun b hb => hb.2.2.1)) (BL.out.trans (g9.below.mono BL.out.size))) (p := ⟨wr.heap.size, 12, none⟩) (fun b hb => Nat.ne_of_lt hb) _))
        have HQ52 := Aside0.mk (show k116.R 116 X12 w.heap.size (fun b => wr.heap.size < b) _ (y.f2.f3) from hX ▸ (Kd.R_far (Kd.R_below HQ5.out g9.below) (p := ⟨wr.heap.size, 12, none⟩) (fun b hb => Nat.ne_of_gt hb) _))
        have HQ92 := Aside0.mk (show k116.R 116 X12 w.heap.size (fun b => wr.heap.size < b) _ (y.f3.f3) from hX ▸ (Kd.R_far (Kd.R_below HQ9.out g9.below) (p := ⟨wr.heap.size, 12, none⟩) (fun b hb => Nat.ne_of_gt hb) _))
        have HQ122 := Aside0.mk (show k119.R 119 X12 w.heap.size (fun b => wr.heap.size < b) _ (y.f6) from hX ▸ (Kd.R_far (Kd.R_lower (Kd.R_mono (Kd.R_bound HR12.out.1) (fun b hb => Nat.lt_of_lt_of_le (blk_lt KB.out) (Nat.le_trans gg.below.size hb.2.1))) (WB gg).size) (p := ⟨wr.heap.size, 12, none⟩) (fun b hb => Nat.ne_of_gt hb) _))
        clear hX HR12 g9 gg WB KB BL HRO HQ5 HQ9
        have KB := KB2
        clear KB2
        have BL := BL2
        clear BL2
        have HRO := HRO2
        clear HRO2
        have HQ5 := HQ52
        clear HQ52
        have HQ9 := HQ92
        clear HQ92
        have HQ12 := HQ122
        clear HQ122
        refine wp_grown0 ?_
        intro gg
        have z13 : ∀ g : G X12, g.W.cell? ⟨wr.heap.size, 13, none⟩ = some (.slice A13 y.f7.length c13) := fun g => (blk_cell (blk_below KB.out g.below) 13).trans rfl
        have f13 : ∀ g : G X12, g.W.frozen? ⟨wr.heap.size, 13, none⟩ = false := fun g => blk_frozen (blk_below KB.out g.below) 13
        have WB : ∀ g : G X12, Below w.heap.size w g.W := fun g => (B0.out.trans (BL.out.mono B0.out.size)).trans (g.below.mono (B0.out.trans (BL.out.mono B0.out.size)).size)
        go_upto_region 10 with (go_at_call 112; refine (CS.out.2.2.2 gg.W (WB gg)).mono ?_; rintro _ w9 ⟨v9, rfl, hR, hb⟩; obtain ⟨Av13, cv13, rfl⟩ := Kd.R_slice hR; have HR13 := Aside0.mk (And.intro hR hb); clear hR hb; obtain ⟨g9, hg9⟩ : ∃ g : G X12, g.W = w9 := ⟨mkG (gg.below.trans (HR13.out.2.mono gg.below.size)), rfl⟩; subst hg9)
        clear z13 f13
        obtain ⟨X13, hX⟩ : ∃ X, X = (g9.W.setCell ⟨wr.heap.size, 13, none⟩ (.slice Av13 y.f7.length cv13)) := ⟨_, rfl⟩
        rw [← hX]
        have KB2 := Aside0.mk (show X13.heap[wr.heap.size]? = some (.cells #[.int .i64 y.f0, .string y.f1, .int .i64 y.f2.f0, .int .u64 y.f2.f1, .string y.f2.f2, .slice Av5 y.f2.f3.length cv5, .int .i64 y.f3.f0, .int .u64 y.f3.f1, .string y.f3.f2, .slice Av9 y.f3.f3.length cv9, .int .u64 y.f4, .int .u64 y.f5, .slice Av12 y.f6.length cv12, .slice Av13 y.f7.length cv13] 119 (0, 0)) from hX ▸ (blk_put (blk_below KB.out g9.below) 13 _ rfl))
        have BL2 := Aside0.mk (show Below wr.heap.size wr X13 from by rw [hX]; exact ((BL.out.trans (g9.below.mono BL.out.size)).setCell (p := ⟨wr.heap.size, 13, none⟩) (Nat.le_refl _) _))
        have HRO2 := Aside0.mk (show k119.R 119 X13 w.heap.size (fun b => b < wr.heap.size) vo (l.take k) from hX ▸ (Kd.R_far (Kd.R_below (Kd.R_mono (Kd.R_bound HREL.out.2) (fun b hb => hb.2.2.1)) (BL.out.trans (g9.below.mono BL.out.size))) (p := ⟨wr.heap.size, 13, none⟩) (fun b hb => Nat.ne_of_lt hb) _))
        have HQ52 := Aside0.mk (show k116.R 116 X13 w.heap.size (fun b => wr.heap.size < b) _ (y.f2.f3) from hX ▸ (Kd.R_far (Kd.R_below HQ5.out g9.below) (p := ⟨wr.heap.size, 13, none⟩) (fun b hb => Nat.ne_of_gt hb) _))
        have HQ92 := Aside0.mk (show k116.R 116 X13 w.heap.size (fun b => wr.heap.size < b) _ (y.f3.f3) from hX ▸ (Kd.R_far (Kd.R_below HQ9.out g9.below) (p := ⟨wr.heap.size, 13, none⟩) (fun b hb => Nat.ne_of_gt hb) _))
        have HQ122 := Aside0.mk (show k119.R 119 X13 w.heap.size (fun b => wr.heap.size < b) _ (y.f6) from hX ▸ (Kd.R_far (Kd.R_below HQ12.out g9.below) (p := ⟨wr.heap.size, 13, none⟩) (fun b hb => Nat.ne_of_gt hb) _))
        have HQ132 := Aside0.mk (show k119.R 119 X13 w.heap.size (fun b => wr.heap.size < b) _ (y.f7) from hX ▸ (Kd.R_far (Kd.R_lower (Kd.R_mono (Kd.R_bound HR13.out.1) (fun b hb => Nat.lt_of_lt_of_le (blk_lt KB.out) (Nat.le_trans gg.below.size hb.2.1))) (WB gg).size) (p := ⟨wr.heap.size, 13, none⟩) (fun b hb => Nat.ne_of_gt hb) _))
        clear hX HR13 g9 gg WB KB BL HRO HQ5 HQ9 HQ12
        have KB := KB2
        clear KB2
        have BL := BL2
        clear BL2
        have HRO := HRO2
        clear HRO2
        have HQ5 := HQ52
        clear HQ52
        have HQ9 := HQ92
        clear HQ92
        have HQ12 := HQ122
        clear HQ122
        have HQ13 := HQ132
        clear HQ132
        refine wp_grown0 ?_
        intro gg
        have z0 : ∀ g : G X13, g.W.cell? ⟨wr.heap.size, 0, none⟩ = some (.int .i64 y.f0) := fun g => (blk_cell (blk_below KB.out g.below) 0).trans rfl
        have z1 : ∀ g : G X13, g.W.cell? ⟨wr.heap.size, 1, none⟩ = some (.string y.f1) := fun g => (blk_cell (blk_below KB.out g.below) 1).trans rfl
        have z2 : ∀ g : G X13, g.W.cell? ⟨wr.heap.size, 2, none⟩ = some (.int .i64 y.f2.f0) := fun g => (blk_cell (blk_below KB.out g.below) 2).trans rfl
        have z3 : ∀ g : G X13, g.W.cell? ⟨wr.heap.size, 3, none⟩ = some (.int .u64 y.f2.f1) := fun g => (blk_cell (blk_below KB.out g.below) 3).trans rfl
        have z4 : ∀ g : G X13, g.W.cell? ⟨wr.heap.size, 4, none⟩ = some (.string y.f2.f2) := fun g => (blk_cell (blk_below KB.out g.below) 4).trans rfl
        have z5 : ∀ g : G X13, g.W.cell? ⟨wr.heap.size, 5, none⟩ = some (.slice Av5 y.f2.f3.length cv5) := fun g => (blk_cell (blk_below KB.out g.below) 5).trans rfl
        have z6 : ∀ g : G X13, g.W.cell? ⟨wr.heap.size, 6, none⟩ = some (.int .i64 y.f3.f0) := fun g => (blk_cell (blk_below KB.out g.below) 6).trans rfl
        have z7 : ∀ g : G X13, g.W.cell? ⟨wr.heap.size, 7, none⟩ = some (.int .u64 y.f3.f1) := fun g => (blk_cell (blk_below KB.out g.below) 7).trans rfl
        have z8 : ∀ g : G X13, g.W.cell? ⟨wr.heap.size, 8, none⟩ = some (.string y.f3.f2) := fun g => (blk_cell (blk_below KB.out g.below) 8).trans rfl
        have z9 : ∀ g : G X13, g.W.cell? ⟨wr.heap.size, 9, none⟩ = some (.slice Av9 y.f3.f3.length cv9) := fun g => (blk_cell (blk_below KB.out g.below) 9).trans rfl
        have z10 : ∀ g : G X13, g.W.cell? ⟨wr.heap.size, 10, none⟩ = some (.int .u64 y.f4) := fun g => (blk_cell (blk_below KB.out g.below) 10).trans rfl
        have z11 : ∀ g : G X13, g.W.cell? ⟨wr.heap.size, 11, none⟩ = some (.int .u64 y.f5) := fun g => (blk_cell (blk_below KB.out g.below) 11).trans rfl
        have z12 : ∀ g : G X13, g.W.cell? ⟨wr.heap.size, 12, none⟩ = some (.slice Av12 y.f6.length cv12) := fun g => (blk_cell (blk_below KB.out g.below) 12).trans rfl
        have z13 : ∀ g : G X13, g.W.cell? ⟨wr.heap.size, 13, none⟩ = some (.slice Av13 y.f7.length cv13) := fun g => (blk_cell (blk_below KB.out g.below) 13).trans rfl
        have HM := Aside0.mk (show ∀ g : G X13, k119.M g.W w.heap.size (fun b => wr.heap.size < b) y [.int .i64 y.f0, .string y.f1, .int .i64 y.f2.f0, .int .u64 y.f2.f1, .string y.f2.f2, .slice Av5 y.f2.f3.length cv5, .int .i64 y.f3.f0, .int .u64 y.f3.f1, .string y.f3.f2, .slice Av9 y.f3.f3.length cv9, .int .u64 y.f4, .int .u64 y.f5, .slice Av12 y.f6.length cv12, .slice Av13 y.f7.length cv13] from fun g => k119_mkM g.W w.heap.size _ y (Kd.R_below HQ5.out g.below) (Kd.R_below HQ9.out g.below) (Kd.R_below HQ12.out g.below) (Kd.R_below HQ13.out g.below))
        have WB : ∀ g : G X13, Below w.heap.size w g.W := fun g => (B0.out.trans (BL.out.mono B0.out.size)).trans (g.below.mono (B0.out.trans (BL.out.mono B0.out.size)).size)
        go_wp2_with (at_builtin; refine Kd.R_append k119 (w0 := w) w.heap.size rfl (.tmp 32) (.tmp 34) 23 119 zSt 200 rfl under27 info77 rfl (show 0 < 14 by decide) (by decide) vo (l.take k) y [.int .i64 y.f0, .string y.f1, .int .i64 y.f2.f0, .int .u64 y.f2.f1, .string y.f2.f2, .slice Av5 y.f2.f3.length cv5, .int .i64 y.f3.f0, .int .u64 y.f3.f1, .string y.f3.f2, .slice Av9 y.f3.f3.length cv9, .int .u64 y.f4, .int .u64 y.f5, .slice Av12 y.f6.length cv12, .slice Av13 y.f7.length cv13] (fun _ => True) (fun b => wr.heap.size < b) rfl rfl (HM.out gg) (fun b hb => ⟨trivial, some_ne_of_lt OB.out (Nat.le_of_lt hb)⟩) (fun _ _ => trivial) (Kd.R_mono (Kd.R_below HRO.out gg.below) (fun _ _ => trivial)) (WB gg) (WB gg).size (by have := HN.out; have := List.length_take_le k l; omega) ?_)
        intro v1 w1 hr1 hb1 hg1 hat1
        obtain ⟨Av1, cv1, rfl⟩ := Kd.R_slice hr1
        have H1 := Aside0.mk (And.intro hb1 hr1)
        clear hr1 hb1 hg1 hat1
        go_wp2_with fail
        refine ⟨⟨k + 1, _, by go_num, rfl, by omega, ⟨H1.out.1, ?_⟩⟩, by simp [intOf]; omega⟩
        rw [T.out]
        exact H1.out.2
    · have hk2 : k = l.length := by omega
      go_wp2_with fail
      go_ret
      refine ⟨_, rfl, ?_, HREL.out.1⟩
      have h := HREL.out.2
      rw [hk2, List.take_length] at h
      exact h
theorem ownB_calls : ∀ (n : Nat) (l : List S119), SizeOf.sizeOf l ≤ n → l.length * 200 ≤ 140737488351232 → Ot.goodTs l → OwnBC l := by
  intro n
  induction n with
  | zero => intro l h; cases l <;> simp at h
  | succ n ih =>
    intro l h hn hg
    refine ownB_walk l hn ((Ot.goodTs_iff l).1 hg) fun x hx => ?_
    have hs := body_size hx h
    have h1 := (Ot.goodTs_iff l).1 hg x hx
    obtain ⟨k, s, e, f, lo, hi, th, el⟩ := x
    rw [Ot.goodT] at h1
    exact ⟨ih _ hs.1 h1.2.2.2.2.2.2.1 h1.2.2.2.2.2.2.2.2.1, ih _ hs.2 h1.2.2.2.2.2.2.2.1 h1.2.2.2.2.2.2.2.2.2⟩
end Go.Proofs.YtfigjpehecibeaaGreat.L
end
section
namespace Go.Proofs.YtfigjpehecibeaaGreat.L
open Go.RowKit Go.Proofs.YtfigjpehecibeaaGreatW.PrintWords Go.Proofs.YtfigjpehecibeaaGreatW.PrintLast Go.Proofs.YtfigjpehecibeaaGreatW.PrintMore Go.Proofs.YtfigjpehecibeaaGreat.Gr
set_option linter.unusedVariables false
set_option linter.unusedSimpArgs false
attribute [local go_sem] G.cell
set_option maxHeartbeats 2000000 in
set_option maxRecDepth 100000 in
theorem great_calls (nm : ByteArray) (wd ln : Int) (ds : List S70) (bd : List S119) (A3 : Option Addr) (c3 : Nat) (A4 : Option Addr) (c4 : Nat) (w : World) (hp : ProgAt w ds bd A3 c3 A4 c4) :
    Calls Tryz.prog 58 #[.agg #[.string nm, .int .i64 wd, .int .i64 ln, .slice A3 ds.length c3, .slice A4 bd.length c4]] w fun e w' => (∃ b : Bool, e = .returned (.bool b)) ∧ Below w.heap.size w w' := by
  have PAt := Aside0.mk hp
  have hlm := hp.hd.2.1
  clear hp
  go_enter Tryz.func58, Tryz.ntmps58
  go_upto_region 2 with (fail)
  have KX := Aside0.mk (show ∀ n : Int, Below (w.alloc (.cells #[.string nm, .int .i64 wd, .int .i64 ln, .slice A3 ds.length c3, .slice A4 bd.length c4] 25)).heap.size (w.alloc (.cells #[.string nm, .int .i64 wd, .int .i64 ln, .slice A3 ds.length c3, .slice A4 bd.length c4] 25)) ((w.alloc (.cells #[.string nm, .int .i64 wd, .int .i64 ln, .slice A3 ds.length c3, .slice A4 bd.length c4] 25)).alloc (.cells #[.int .i64 n] 3)) ∧ NumAt ((w.alloc (.cells #[.string nm, .int .i64 wd, .int .i64 ln, .slice A3 ds.length c3, .slice A4 bd.length c4] 25)).alloc (.cells #[.int .i64 n] 3)) (w.heap.size + 1) from fun n => ⟨(Below.refl _ _).alloc (Nat.le_refl _) _, n, by simpa using blk_new (w.alloc (.cells #[.string nm, .int .i64 wd, .int .i64 ln, .slice A3 ds.length c3, .slice A4 bd.length c4] 25)) (.cells #[.int .i64 n] 3)⟩)
  have KP := Aside0.mk (show (w.alloc (.cells #[.string nm, .int .i64 wd, .int .i64 ln, .slice A3 ds.length c3, .slice A4 bd.length c4] 25)).heap[w.heap.size]? = some (.cells #[.string nm, .int .i64 wd, .int .i64 ln, .slice A3 ds.length c3, .slice A4 bd.length c4] 25 (0, 0)) ∧ Below w.heap.size w (w.alloc (.cells #[.string nm, .int .i64 wd, .int .i64 ln, .slice A3 ds.length c3, .slice A4 bd.length c4] 25)) ∧ (w.alloc (.cells #[.string nm, .int .i64 wd, .int .i64 ln, .slice A3 ds.length c3, .slice A4 bd.length c4] 25)).heap.size = w.heap.size + 1 from ⟨blk_new _ _, (Below.refl _ _).alloc (Nat.le_refl _) _, by simp⟩)
  obtain ⟨Wb, hWb⟩ : ∃ Wb, Wb = w.alloc (.cells #[.string nm, .int .i64 wd, .int .i64 ln, .slice A3 ds.length c3, .slice A4 bd.length c4] 25) := ⟨_, rfl⟩
  rw [← hWb] at KX KP ⊢
  clear hWb
  have OUT := Aside0.mk (show ∀ W, Below Wb.heap.size Wb W → Below w.heap.size w W from fun W h => KP.out.2.1.trans (h.mono KP.out.2.1.size))
  go_wp2_with fail
  go_loopw [4] (fun i W => ∃ k : Nat, i = .int .i64 k ∧ k ≤ ds.length ∧ Aside0 (Below Wb.heap.size Wb W ∧ NumAt W (w.heap.size + 1))) (fun i _ => ds.length - (intOf i).toNat)
  case atStart => exact ⟨0, rfl, Nat.zero_le _, ⟨(KX.out 0).1, (KX.out 0).2⟩⟩
  case round =>
    obtain ⟨k, rfl, hk, HREL⟩ := hrel
    obtain ⟨m, hm⟩ := HREL.out.2
    by_cases hlt : k < ds.length
    · have z3 : ∀ g : G wr, g.W.cell? ⟨w.heap.size, 3, none⟩ = some (.slice A3 ds.length c3) := fun g => (blk_cell (blk_below (blk_below KP.out.1 HREL.out.1) g.below) 3).trans rfl
      have n0 : ∀ g : G wr, g.W.cell? ⟨w.heap.size + 1, 0, none⟩ = some (.int .i64 m) := fun g => (blk_cell (blk_below hm g.below) 0).trans rfl
      have HM := Aside0.mk hm
      clear hm
      obtain ⟨ad, A3d, c3d, e1, q0, q1, q2, q3, l3, g3⟩ := at_T70 PAt.out.hd (k : Int) (Int.natCast_nonneg _) (by omega)
      cases e1
      rw [Int.toNat_natCast] at q0 q1 q2 q3
      have q3g : ∀ g : G wr, _ := fun g => held_in ((OUT.out _ HREL.out.1).trans (g.below.mono (OUT.out _ HREL.out.1).size)) q3
      clear q0 q1 q2 q3 l3 g3
      have hi1 : (k : Int) < (ds.length : Int) := by omega
      refine wp_grown0 ?_
      intro gg
      go_upto_region 5 with (fail)
      refine wp_grown0 ?_
      intro g0
      obtain ⟨gg, hgg⟩ : ∃ g : G wr, g.W = g0.W := ⟨mkG (gg.below.trans (g0.below.mono gg.below.size)), rfl⟩
      rw [← hgg]
      clear hgg g0
      refine start_ (n := 11) (S := fun w' => ∃ g' : G _, w' = g'.W) (ds := [10]) #[false, false, false, false, false, false, false, false, false, false, false] (by kernel_rfl) rfl rfl ⟨mkG (gg.2.drew), rfl⟩ (fun hHeld => ?_)
      obtain ⟨gd, hgd⟩ := hHeld
      rw [hgd]
      clear hgd
      refine take_ (i := 0) (N := some 12) (v := ?_) (a' := ?_) #[true, false, false, false, false, false, false, false, false, false, false] rfl rfl (by kernel_rfl) (fun _ _ _ h => h) (Or.inl ⟨by rfl, ?_⟩) ⟨gd, rfl⟩ ?_ ?_
      rotate_left
      · rintro w' ⟨g', rfl⟩
        go_simp
        with_reducible rfl
      rotate_left
      · simp only [Act.put, List.setIfInBounds_toArray, List.set_cons_zero, List.set_cons_succ, i64_w, i32_w]
        rfl
      refine pure_ (i := 1) (N := some 13) (v := ?_) (a' := ?_) #[true, true, false, false, false, false, false, false, false, false, false] rfl rfl (by kernel_rfl) (fun _ _ _ h => h) (Or.inl ⟨by rfl, ?_⟩) ?_ ?_
      rotate_left
      · intro w'
        go_simp
        with_reducible rfl
      rotate_left
      · simp only [Act.put, List.setIfInBounds_toArray, List.set_cons_zero, List.set_cons_succ, i64_w, i32_w]
        rfl
      refine pure_ (i := 2) (N := some 14) (v := ?_) (a' := ?_) #[true, true, true, false, false, false, false, false, false, false, false] rfl rfl (by kernel_rfl) (fun _ _ _ h => h) (Or.inl ⟨by rfl, ?_⟩) ?_ ?_
      rotate_left
      · intro w'
        go_simp
        with_reducible rfl
      rotate_left
      · simp only [Act.put, List.setIfInBounds_toArray, List.set_cons_zero, List.set_cons_succ, i64_w, i32_w]
        rfl
      refine take_ (i := 3) (N := some 15) (v := ?_) (a' := ?_) #[true, true, true, true, false, false, false, false, false, false, false] rfl rfl (by kernel_rfl) (fun _ _ _ h => h) (Or.inl ⟨by rfl, ?_⟩) ⟨gd, rfl⟩ ?_ ?_
      rotate_left
      · rintro w' ⟨g', rfl⟩
        go_simp
        with_reducible rfl
      rotate_left
      · simp only [Act.put, List.setIfInBounds_toArray, List.set_cons_zero, List.set_cons_succ, i64_w, i32_w]
        rfl
      refine pure_ (i := 4) (N := some 16) (v := ?_) (a' := ?_) #[true, true, true, true, true, false, false, false, false, false, false] rfl rfl (by kernel_rfl) (fun _ _ _ h => h) (Or.inl ⟨by rfl, ?_⟩) ?_ ?_
      rotate_left
      · intro w'
        go_simp
        with_reducible rfl
      rotate_left
      · simp only [Act.put, List.setIfInBounds_toArray, List.set_cons_zero, List.set_cons_succ, i64_w, i32_w]
        rfl
      refine pure_ (i := 5) (N := some 17) (v := ?_) (a' := ?_) #[true, true, true, true, true, true, false, false, false, false, false] rfl rfl (by kernel_rfl) (fun _ _ _ h => h) (Or.inl ⟨by rfl, ?_⟩) ?_ ?_
      rotate_left
      · intro w'
        go_simp
        with_reducible rfl
      rotate_left
      · simp only [Act.put, List.setIfInBounds_toArray, List.set_cons_zero, List.set_cons_succ, i64_w, i32_w]
        rfl
      refine pure_ (i := 6) (N := some 18) (v := ?_) (a' := ?_) #[true, true, true, true, true, true, true, false, false, false, false] rfl rfl (by kernel_rfl) (fun _ _ _ h => h) (Or.inl ⟨by rfl, ?_⟩) ?_ ?_
      rotate_left
      · intro w'
        go_simp
        with_reducible rfl
      rotate_left
      · simp only [Act.put, List.setIfInBounds_toArray, List.set_cons_zero, List.set_cons_succ, i64_w, i32_w]
        rfl
      refine take_ (i := 7) (N := some 19) (v := ?_) (a' := ?_) #[true, true, true, true, true, true, true, true, false, false, false] rfl rfl (by kernel_rfl) (fun _ _ _ h => h) (Or.inl ⟨by rfl, ?_⟩) ⟨gd, rfl⟩ ?_ ?_
      rotate_left
      · rintro w' ⟨g', rfl⟩
        go_simp
        with_reducible rfl
      rotate_left
      · simp only [Act.put, List.setIfInBounds_toArray, List.set_cons_zero, List.set_cons_succ, i64_w, i32_w]
        rfl
      refine pure_ (i := 8) (N := some 20) (v := ?_) (a' := ?_) #[true, true, true, true, true, true, true, true, true, false, false] rfl rfl (by kernel_rfl) (fun _ _ _ h => h) (Or.inl ⟨by rfl, ?_⟩) ?_ ?_
      rotate_left
      · intro w'
        go_simp
        with_reducible rfl
      rotate_left
      · simp only [Act.put, List.setIfInBounds_toArray, List.set_cons_zero, List.set_cons_succ, i64_w, i32_w]
        rfl
      refine pure_ (i := 9) (N := some 21) (v := ?_) (a' := ?_) #[true, true, true, true, true, true, true, true, true, true, false] rfl rfl (by kernel_rfl) (fun _ _ _ h => h) (Or.inl ⟨by rfl, ?_⟩) ?_ ?_
      rotate_left
      · intro w'
        go_simp
        with_reducible rfl
      rotate_left
      · simp only [Act.put, List.setIfInBounds_toArray, List.set_cons_zero, List.set_cons_succ, i64_w, i32_w]
        rfl
      refine last_ (i := 10) (N := none) #[true, true, true, true, true, true, true, true, true, true, true] rfl rfl (by kernel_rfl) (by simp) (fun Kr hKr => ?_)
      have y0 : gd.W.frozen? ⟨w.heap.size + 1, 0, none⟩ = false := blk_frozen (blk_below HM.out gd.below) 0
      obtain ⟨X, hX⟩ : ∃ X, X = gd.W.setCell ⟨w.heap.size + 1, 0, none⟩ (.int .i64 (wrap64 (wrap64 (m + 1) + ((rd_T70 ds (k : Int)).f3.length : Int)))) := ⟨_, rfl⟩
      refine skip_ (w1 := X) (by rfl) rfl (by rw [hX]; first | (go_simp; done) | (go_simp; rfl)) ?_
      clear y0
      refine hKr.out _ _ ?_
      clear hKr Kr
      refine done_ (by kernel_rfl) ?_
      have HX := Aside0.mk (show Below Wb.heap.size Wb X ∧ NumAt X (w.heap.size + 1) from by
        rw [hX]
        exact ⟨(HREL.out.1.trans (gd.below.mono HREL.out.1.size)).setCell (p := ⟨w.heap.size + 1, 0, none⟩) (by rw [KP.out.2.2]; exact Nat.le_refl _) _, _, blk_put (blk_below HM.out gd.below) 0 _ rfl⟩)
      clear hX z3 n0 q3g
      obtain ⟨m2, hm2⟩ := HX.out.2
      have n2 : X.cell? ⟨w.heap.size + 1, 0, none⟩ = some (.int .i64 m2) := (blk_cell hm2 0).trans rfl
      clear hm2
      by_cases h1 : 10000 < m2
      · go_wp2_with fail
        go_ret
        exact ⟨⟨_, rfl⟩, OUT.out _ HX.out.1⟩
      · go_wp2_with fail
        exact ⟨⟨k + 1, by go_num, by omega, ⟨HX.out.1, HX.out.2⟩⟩, by simp [intOf]; omega⟩
    · have z3 : wr.cell? ⟨w.heap.size, 3, none⟩ = some (.slice A3 ds.length c3) := (blk_cell (blk_below KP.out.1 HREL.out.1) 3).trans rfl
      have z4 : wr.cell? ⟨w.heap.size, 4, none⟩ = some (.slice A4 bd.length c4) := (blk_cell (blk_below KP.out.1 HREL.out.1) 4).trans rfl
      clear hm
      go_wp2_with fail
      refine (count_calls _ bd (Nat.le_refl _) Wb wr (w.heap.size + 1) A4 c4 HREL.out.1 (by rw [KP.out.2.2]; exact Nat.le_refl _) HREL.out.2 (Kd.C_below PAt.out.hb KP.out.2.1) PAt.out.hlb).mono ?_
      rintro _ W2 ⟨⟨m3, rfl⟩, _, hg2⟩
      have HG2 := Aside0.mk hg2
      clear hg2
      go_wp2_with fail
      go_ret
      exact ⟨⟨_, rfl⟩, OUT.out _ HG2.out.below⟩
end Go.Proofs.YtfigjpehecibeaaGreat.L
end
