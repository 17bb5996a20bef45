/- Texts joined by a program of mine: Sl Sc Sf Se. -/
import Derived.Test.YtfcahachdpjfoaaZb13
import Derived.Test.YtfcahachdpjfoaaZb20
section
namespace Go.Proofs.Ytfcahachdpjfoaa.L
open Go.RowKit Go.Proofs.YtfcahachdpjfoaaW.PrintWords Go.Proofs.YtfcahachdpjfoaaW.PrintLast Go.Proofs.YtfcahachdpjfoaaW.PrintMore Go.Proofs.Ytfcahachdpjfoaa.Gr
set_option linter.unusedVariables false
set_option linter.unusedSimpArgs false
attribute [local go_sem] G.cell
set_option maxHeartbeats 4000000 in
set_option maxRecDepth 100000 in
theorem wfKinds_walk (nm : ByteArray) (wd ln : Int) (ds : List S44) (bd : List S77) (A3 : Option Addr) (c3 : Nat) (A4 : Option Addr) (c4 : Nat) (ks : List Int) (A5 : Option Addr) (c5 : Nat) (w : World) (hp : ProgAt w ds bd A3 c3 A4 c4) (hg : PGood nm wd ln ds bd)
    (hks : (Kd.int .i64).C w A5 ks.length ks) (hlk : ks.length ≤ c5) :
    Calls Try.prog 5 #[.agg #[.string nm, .int .i64 wd, .int .i64 ln, .slice A3 ds.length c3, .slice A4 bd.length c4], .slice A5 ks.length c5] w fun e w' => e = .returned (.bool true) ∧ Below w.heap.size w w' := by
  have gout : ∀ {o : Obj} (g : G (w.alloc o)), Below w.heap.size w g.W := fun g => ((Below.refl _ _).alloc (Nat.le_refl _) _).trans (g.below.mono (by simp))
  have PAt := Aside0.mk hp
  have HG := Aside0.mk hg
  have HKS := Aside0.mk (And.intro hks hlk)
  have hlm := hp.hd.2.1
  have hlk2 := hks.2.1
  clear hp hg hks hlk
  obtain ⟨f, hf⟩ : ∃ f, f = faultS nm wd ln ds bd := ⟨_, rfl⟩
  have HF := Aside0.mk hf
  clear hf
  go_enter Try.func5, Try.ntmps5
  go_upto_region 1 with (fail)
  refine wp_grown0 ?_
  intro gg
  go_wp2_with fail
  refine (call_of (g := gg) (live_calls gg.W)).mono ?_
  rintro _ _ ⟨rfl, gg, rfl⟩
  go_wp2_with fail
  refine (call_of (g := gg) (refCheck_calls nm wd ln ds bd A3 c3 A4 c4 gg.W (PAt.out.below (gout gg)) HG.out f HF.out)).mono ?_
  rintro _ _ ⟨rfl, gg, rfl⟩
  by_cases he : f.e = 0
  rotate_left
  · have b := bn he
    clear he
    go_wp2_with fail
    go_ret
    exact ⟨rfl, gout _⟩
  have b : (f.e != 0) = false := by simp [he]
  have HE := Aside0.mk he
  clear he
  rcases Nat.eq_zero_or_pos ks.length with hz | hz
  · have hz2 : ((ks.length : Int) == 0) = true := by simp [hz]
    clear hz
    go_wp2_with fail
    go_ret
    exact ⟨rfl, gout _⟩
  have hz2 : ((ks.length : Int) == 0) = false := by
    have : (ks.length : Int) ≠ 0 := by omega
    simpa using this
  have hnil : ¬ ks = [] := by intro h; rw [h] at hz; simp at hz
  have HZ := Aside0.mk hz
  clear hz
  have HR1 := Aside0.mk (show (faultS nm wd ln ds bd).e = 0 from by rw [← HF.out]; exact HE.out)
  go_wp2_with fail
  refine (call_of (g := gg) (size_calls nm wd ln ds bd A3 c3 A4 c4 gg.W (PAt.out.below (gout gg)) HG.out _ (size_right HR1.out))).mono ?_
  rintro _ _ ⟨rfl, g1, rfl⟩
  go_upto_region 7 with (fail)
  have WG1 := Aside0.mk (gout g1)
  refine wp_grown0 ?_
  intro g2
  have WG2 := Aside0.mk (show ∀ g : G (gw0 g2), Below w.heap.size w g.W from fun g => (WG1.out.alloc WG1.out.size _).trans (g.below.mono (Nat.le_trans WG1.out.size (by simp [gw0]))))
  have zz : ∀ (g : G (gw0 g2)) (o : Obj), (g.W.alloc o).cell? ⟨w.heap.size, 3, none⟩ = some (.slice A3 ds.length c3) := fun g o => (blk_cell (blk_alloc (blk_below (blk_alloc (blk_below (blk_new w _) g1.below) _) g.below) o) 3).trans rfl
  have QB := Aside0.mk (show ∀ g : G (gw0 g2), g.W.heap[g1.W.heap.size]? = some (.cells #[.string nm, .int .i64 wd, .int .i64 ln, .slice A3 ds.length c3, .slice A4 bd.length c4] 29 (0, 0)) from fun g => blk_below (blk_new _ _) g.below)
  have lq := blk_lt (QB.out g2)
  have d3 : Kd.N k44 44 (g2.W.alloc (.cells #[] 44)) w.heap.size (fun b => b ≠ g1.W.heap.size) (.slice (some ⟨g2.W.heap.size, 0, none⟩) 0 0) [] := N_empty g2.W w.heap.size _ (WG2.out g2).size (by omega)
  have d4 : Kd.F k44 (g2.W.alloc (.cells #[] 44)) (fun b => b < w.heap.size) A3 ds.length ds := Kd.F_below (Kd.C_F heap44 PAt.out.hd) ((WG2.out g2).alloc (WG2.out g2).size _)
  have d5 : ∀ b, b < w.heap.size → b ≠ g1.W.heap.size ∧ some b ≠ (Value.slice (some ⟨g2.W.heap.size, 0, none⟩) 0 0).ownBlock := fun b hb => ⟨by have := WG1.out.size; omega, fun he => by have := (WG2.out g2).size; simp [Value.ownBlock] at he; omega⟩
  have d6 : Below w.heap.size w (g2.W.alloc (.cells #[] 44)) := (WG2.out g2).alloc (WG2.out g2).size _
  have d8 : (([] : List S44).length + ds.length) * 56 ≤ 140737488355328 := by have := HG.out.good.dl; simp only at this; simp; omega
  have d9 : ∀ b, (g2.W.alloc (.cells #[] 44)).heap.size ≤ b → b ≠ g1.W.heap.size := fun b hb => by simp at hb; omega
  have CC := Aside0.mk (And.intro d3 (And.intro d4 (And.intro d5 (And.intro d6 (And.intro d8 d9)))))
  clear d3 d4 d5 d6 d8 d9 lq
  go_wp2_with (at_builtin; refine Kd.N_append_rows k44 (w0 := w) w.heap.size rfl (.tmp 29) (.tmp 31) 26 44 zDe 56 rfl under26 info44 rfl (show 0 < 4 by decide) (by decide) (.slice (some ⟨g2.W.heap.size, 0, none⟩) 0 0) [] ds A3 ds.length c3 (fun b => b ≠ g1.W.heap.size) (fun b => b < w.heap.size) rfl rfl CC.out.1 CC.out.2.1 CC.out.2.2.1 CC.out.2.2.2.2.2 CC.out.2.2.2.1 CC.out.2.2.2.1.size CC.out.2.2.2.2.1 ?_)
  intro v1 w1 hn1 hb1 hg1 hat1
  obtain ⟨Av1, cv1, rfl⟩ := Kd.N_slice hn1
  have QB1 := Aside0.mk ((hg1.block g1.W.heap.size (Nat.lt_of_lt_of_le (blk_lt (QB.out g2)) (by simp)) (fun he => by have := blk_lt (QB.out g2); simp [Value.ownBlock] at he; omega)).trans (blk_alloc (QB.out g2) _))
  have N1 := Aside0.mk (And.intro hb1 hn1)
  clear hn1 hb1 hg1 hat1 zz
  have z3 := (blk_cell QB1.out 3).trans rfl
  have y3 := blk_frozen QB1.out 3
  go_upto_region 8 with (fail)
  obtain ⟨X1, hX⟩ : ∃ X, X = w1.setCell ⟨g1.W.heap.size, 3, none⟩ (.slice Av1 ds.length cv1) := ⟨_, rfl⟩
  rw [← hX]
  have H1 := Aside0.mk (show Below w.heap.size w X1 ∧ X1.heap[g1.W.heap.size]? = some (.cells #[.string nm, .int .i64 wd, .int .i64 ln, .slice Av1 ds.length cv1, .slice A4 bd.length c4] 29 (0, 0)) ∧ Kd.N k44 44 X1 w.heap.size (fun b => b ≠ g1.W.heap.size) (.slice Av1 ds.length cv1) ds from by
    rw [hX]
    exact ⟨N1.out.1.setCell (p := ⟨g1.W.heap.size, 3, none⟩) WG1.out.size _, blk_put QB1.out 3 _ rfl, Kd.N_far N1.out.2 (fun b hb => hb) _⟩)
  clear hX z3 y3
  have RD := Aside0.mk (right_decls HR1.out)
  go_wp2_with fail
  go_loopw [9, 8] (fun i m W => ∃ (k : Nat) (mz : Int), i = .int .i64 k ∧ m = .int .i64 mz ∧ k ≤ ds.length ∧ Aside0 (Below w.heap.size w W ∧ W.heap[g1.W.heap.size]? = some (.cells #[.string nm, .int .i64 wd, .int .i64 ln, .slice Av1 ds.length cv1, .slice A4 bd.length c4] 29 (0, 0)) ∧ Kd.N k44 44 W w.heap.size (fun b => b ≠ g1.W.heap.size) (.slice Av1 ds.length cv1) (kDs ks ds k) ∧ mz = wordsS ((kDs ks ds ds.length).take k) ∧ 0 ≤ mz ∧ mz ≤ 256 * (k : Int))) (fun i _ _ => ds.length - (intOf i).toNat)
  case atStart => exact ⟨0, 0, rfl, rfl, Nat.zero_le _, ⟨H1.out.1, H1.out.2.1, H1.out.2.2, by simp [wordsS], by omega, by omega⟩⟩
  case round =>
    obtain ⟨k, mz, rfl, rfl, hk, HREL⟩ := hrel
    have z3 : wr.cell? ⟨g1.W.heap.size, 3, none⟩ = some (.slice Av1 ds.length cv1) := (blk_cell HREL.out.2.1 3).trans rfl
    by_cases hlt : k < ds.length
    · have hi1 : (k : Int) < (ds.length : Int) := by omega
      obtain ⟨ad5, cc5, e5, _, hK5, hc5⟩ := Kd.C_get HKS.out.1 (0 : Int) ((k % ks.length : Nat) : Int) (by omega) (by have := Nat.mod_lt k HZ.out; omega)
      cases e5
      have q5 : wr.cell? (ad5.add (k % ks.length)) = some (.int .i64 (kAt ks k)) := held_in HREL.out.1 (by have h := hc5 0 _ (by rw [hK5]; rfl); rw [show (Kd.int IntKind.i64).sz = 1 from rfl, Nat.mul_one, Nat.add_zero, Int.toNat_natCast] at h; exact h)
      clear hK5 hc5
      have hm1 : (0 : Int) ≤ (k : Int) % (ks.length : Int) := Int.emod_nonneg _ (by have := HZ.out; omega)
      have hm2 : (k : Int) % (ks.length : Int) < (ks.length : Int) := Int.emod_lt_of_pos _ (by have := HZ.out; omega)
      have hm3 : ((k : Int) % (ks.length : Int)).toNat = k % ks.length := by rw [← Int.natCast_emod, Int.toNat_natCast]
      obtain ⟨gv, cap, ev, hgv, hgl, hcl⟩ := Kd.N_form HREL.out.2.2.1 (by rw [kDs_len]; omega)
      injection ev with ev1 ev2 ev3
      subst ev1 ev3
      have GV := Aside0.mk (And.intro hgv hcl)
      clear ev2 hgv hgl hcl
      obtain ⟨A6, c6, n0, n1, n2, n3, ln3, gn3, fz⟩ := N44_at HREL.out.2.2.1 hlt
      have hrd : rd_T44 (kDs ks ds k) (k : Int) = rd_T44 ds (k : Int) := by rw [kDs_rd ks ds k hk k, if_neg (Nat.lt_irrefl _)]
      rw [hrd] at n0
      have y0 : wr.frozen? ⟨gv, k * 4, none⟩ = false := fz 0
      clear n1 n2 n3 ln3 gn3 fz hrd
      go_upto_region 13 with (fail)
      clear hm1 hm2 hm3 q5
      have KA := Aside0.mk (rfl : kAt ks k = kAt ks k)
      obtain ⟨kk, hkk⟩ : ∃ kk, kk = kAt ks k := ⟨_, rfl⟩
      rw [← hkk]
      have HKK := Aside0.mk hkk
      clear hkk KA
      have hcs : (kOk (rd_T44 ds (k : Int)) kk = false ∧ (rd_T44 ds (k : Int)).f0 = 3) ∨ (kOk (rd_T44 ds (k : Int)) kk = false ∧ (rd_T44 ds (k : Int)).f0 ≠ 3 ∧ ¬ 1 ≤ kk) ∨ (kOk (rd_T44 ds (k : Int)) kk = false ∧ (rd_T44 ds (k : Int)).f0 ≠ 3 ∧ 1 ≤ kk ∧ ¬ kk ≤ 5) ∨ (kOk (rd_T44 ds (k : Int)) kk = false ∧ (rd_T44 ds (k : Int)).f0 ≠ 3 ∧ 1 ≤ kk ∧ kk ≤ 5 ∧ kk = 3) ∨ (kOk (rd_T44 ds (k : Int)) kk = true ∧ (rd_T44 ds (k : Int)).f0 ≠ 3 ∧ 1 ≤ kk ∧ kk ≤ 5 ∧ kk ≠ 3) := by
        unfold kOk
        by_cases h1 : (rd_T44 ds (k : Int)).f0 = 3
        · exact .inl ⟨by simp [h1], h1⟩
        by_cases h2 : 1 ≤ kk
        · by_cases h3 : kk ≤ 5
          · by_cases h4 : kk = 3
            · exact .inr (.inr (.inr (.inl ⟨by simp [h4], h1, h2, h3, h4⟩)))
            · exact .inr (.inr (.inr (.inr ⟨by simp [h1, h2, h3, h4], h1, h2, h3, h4⟩)))
          · exact .inr (.inr (.inl ⟨by simp [h3], h1, h2, h3⟩))
        · exact .inr (.inl ⟨by simp [h2], h1, h2⟩)
      go_cut [66] (fun b wc => Aside0 (b = .bool (kOk (rd_T44 ds (k : Int)) kk) ∧ wc = wr))
      case first =>
        rcases hcs with ⟨h0, h1⟩ | ⟨h0, h1, h2⟩ | ⟨h0, h1, h2, h3⟩ | ⟨h0, h1, h2, h3, h4⟩ | ⟨h0, h1, h2, h3, h4⟩
        · have H0 := Aside0.mk h0
          have b1 : ((rd_T44 ds (k : Int)).f0 != 3) = false := by simp [h1]
          clear h0 h1
          go_wp2
          go_meet
          case rel => exact ⟨by rw [H0.out], rfl⟩
        · have H0 := Aside0.mk h0
          have b1 := bn h1
          clear h0 h1
          go_wp2
          go_meet
          case rel => exact ⟨by rw [H0.out], rfl⟩
        · have H0 := Aside0.mk h0
          have b1 := bn h1
          clear h0 h1
          go_wp2
          go_meet
          case rel => exact ⟨by rw [H0.out], rfl⟩
        · have H0 := Aside0.mk h0
          have b1 := bn h1
          have b4 : (kk != 3) = false := by simp [h4]
          clear h0 h1 h4
          go_wp2
          go_meet
          case rel => exact ⟨by rw [H0.out], rfl⟩
        · have H0 := Aside0.mk h0
          have b1 := bn h1
          have b4 := bn h4
          clear h0 h1 h4
          go_wp2
          go_meet
          case rel => exact ⟨by rw [H0.out], rfl⟩
      case rest =>
        clear hcs
        obtain ⟨rfl, rfl⟩ := hcut.out
        clear hcut
        go_upto_if 66 with (fail)
        go_cut [] (fun wc => Aside0 (Below w.heap.size w wc ∧ wc.heap[g1.W.heap.size]? = some (.cells #[.string nm, .int .i64 wd, .int .i64 ln, .slice (some ⟨gv, 0, none⟩) ds.length cv1, .slice A4 bd.length c4] 29 (0, 0)) ∧ Kd.N k44 44 wc w.heap.size (fun b => b ≠ g1.W.heap.size) (.slice (some ⟨gv, 0, none⟩) ds.length cv1) (kDs ks ds (k + 1))))
        case first =>
          have KS := Aside0.mk (show kDs ks ds (k + 1) = (kDs ks ds k).set k (kNew ks k (rd_T44 ds (k : Int))) from rfl)
          rcases bcases (kOk (rd_T44 ds (k : Int)) kk) with hb | hb
          · have HBB := Aside0.mk hb
            rw [hb]
            clear hb
            have N0 := Aside0.mk (N44_set0 HREL.out.2.2.1 hlt kk)
            go_wp2
            go_meet
            case rel =>
              refine ⟨HREL.out.1.setCell (p := ⟨gv, k * 4, none⟩) GV.out.1 _, (Below.heap_setCell _ _ _ _ (fun h => ?_)).trans HREL.out.2.1, ?_⟩
              · obtain ⟨cells, hc⟩ := GV.out.2
                rw [← (show g1.W.heap.size = gv from h)] at hc
                have := hc.symm.trans HREL.out.2.1
                injection this with this
                injection this with _ this
                exact absurd this (by decide)
              · have h := N0.out
                rw [kDs_rd ks ds k hk k, if_neg (Nat.lt_irrefl _)] at h
                rw [KS.out]
                unfold kNew
                rw [← HKK.out, if_pos HBB.out]
                exact h
          · have HBB := Aside0.mk hb
            rw [hb]
            clear hb
            go_wp2
            go_meet
            case rel =>
              refine ⟨HREL.out.1, HREL.out.2.1, ?_⟩
              rw [KS.out]
              unfold kNew
              rw [← HKK.out, if_neg (by rw [HBB.out]; decide)]
              have hs : (kDs ks ds k).set k (rd_T44 ds (k : Int)) = kDs ks ds k := by
                have hr := kDs_rd ks ds k hk k
                rw [if_neg (Nat.lt_irrefl _)] at hr
                rw [← hr]
                unfold rd_T44
                rw [Int.toNat_natCast, List.getD_eq_getElem?_getD, List.getElem?_eq_getElem (by rw [kDs_len]; exact hlt)]
                exact List.set_getElem_self _
              rw [hs]
              exact HREL.out.2.2.1
        case rest =>
          have HC := Aside0.mk hcut.out
          have HM := Aside0.mk HREL.out.2.2.2
          clear hcut HREL z3 n0 y0
          have z3 : wc.cell? ⟨g1.W.heap.size, 3, none⟩ = some (.slice (some ⟨gv, 0, none⟩) ds.length cv1) := (blk_cell HC.out.2.1 3).trans rfl
          obtain ⟨A6, c6, n0, n1, n2, n3, ln3, gn3, fz⟩ := N44_at HC.out.2.2 hlt
          have hrd : rd_T44 (kDs ks ds (k + 1)) (k : Int) = kNew ks k (rd_T44 ds (k : Int)) := by rw [kDs_rd ks ds (k + 1) (by omega) k, if_pos (by omega)]
          have hrn : rd_T44 (kDs ks ds ds.length) (k : Int) = kNew ks k (rd_T44 ds (k : Int)) := by rw [kDs_rd ks ds _ (Nat.le_refl _) k, if_pos hlt]
          have T := Aside0.mk (show wordsS ((kDs ks ds ds.length).take (k + 1)) = mz + if (kNew ks k (rd_T44 ds (k : Int))).f0 < 3 then wordsD (kNew ks k (rd_T44 ds (k : Int))) else 0 from by
            rw [take_rd44 (by rw [kDs_len]; exact hlt), hrn, wordsS_add, HM.out.1, isIn_lt (kNew_pos (RD.out k hlt).1)]
            simp only [decide_eq_true_eq])
          have WL := Aside0.mk (words_le (d := kNew ks k (rd_T44 ds (k : Int))) (by rw [(kNew_same ks k (rd_T44 ds (k : Int))).sz]; exact (RD.out k hlt).2))
          rw [hrd] at n0 n1 n2 n3 ln3 gn3
          clear hrd hrn fz
          generalize kNew ks k (rd_T44 ds (k : Int)) = d at *
          have WD := Aside0.mk (fun W (h : Below wc.heap.size wc W) => Words_calls d A6 c6 W (Kd.C_below gn3 h) ln3)
          have HV := Aside0.mk (show wrap64 (mz + wordsD d) = mz + wordsD d from by have h1 := WL.out; have h2 := HM.out.2; have h3 := HG.out.sizes.1; exact wrap_id (by omega) (by omega))
          clear gn3 ln3
          by_cases h3 : d.f0 < 3
          · have H3 := Aside0.mk h3
            go_wp2_with fail
            refine (WD.out wc (Below.refl _ _)).mono ?_
            rintro _ W2 ⟨rfl, hb⟩
            have HB2 := Aside0.mk hb
            clear hb
            go_wp2_with fail
            refine ⟨⟨k + 1, mz + wordsD d, by go_num, by rw [HV.out], by omega, ⟨HC.out.1.trans (HB2.out.mono HC.out.1.size), blk_below HC.out.2.1 HB2.out, Kd.N_below HC.out.2.2 HB2.out, ?_, ?_, ?_⟩⟩, by simp [intOf]; omega⟩
            · rw [T.out, if_pos H3.out]
            · have h1 := WL.out; have h2 := HM.out.2; omega
            · have h1 := WL.out; have h2 := HM.out.2; omega
          · have H3 := Aside0.mk h3
            go_wp2_with fail
            refine ⟨⟨k + 1, mz, by go_num, rfl, by omega, ⟨HC.out.1, HC.out.2.1, HC.out.2.2, ?_, ?_, ?_⟩⟩, by simp [intOf]; omega⟩
            · rw [T.out, if_neg H3.out]; omega
            · have h2 := HM.out.2; omega
            · have h2 := HM.out.2; omega
    · clear z3
      have hk2 : k = ds.length := by omega
      have HW := Aside0.mk (show mz = wordsS (kDs ks ds ds.length) from by
        have h := HREL.out.2.2.2.1
        rw [h, hk2, List.take_of_length_le (by rw [kDs_len]; exact Nat.le_refl _)])
      have HPA := Aside0.mk (show ProgAt wr (kDs ks ds ds.length) bd Av1 cv1 A4 c4 from by
        have h := Kd.N_reads' HREL.out.2.2.1
        rw [hk2] at h
        exact ⟨h.2.2, by rw [← h.1]; exact h.2.1, Kd.C_below PAt.out.hb HREL.out.1, PAt.out.hlb⟩)
      have HGQ := Aside0.mk (kDs_good HG.out ks ds.length (Nat.le_refl _))
      have LAW := Aside0.mk (kinds_law (kDs_same ks ds) HR1.out)
      rw [← HW.out] at LAW
      refine wp_grown0 ?_
      intro g4
      have WG4 := Aside0.mk (show ∀ g : G wr, Below w.heap.size w g.W from fun g => HREL.out.1.trans (g.below.mono HREL.out.1.size))
      have z0 : ∀ g : G wr, g.W.cell? ⟨g1.W.heap.size, 0, none⟩ = some (.string nm) := fun g => (blk_cell (blk_below HREL.out.2.1 g.below) 0).trans rfl
      have z1 : ∀ g : G wr, g.W.cell? ⟨g1.W.heap.size, 1, none⟩ = some (.int .i64 wd) := fun g => (blk_cell (blk_below HREL.out.2.1 g.below) 1).trans rfl
      have z2 : ∀ g : G wr, g.W.cell? ⟨g1.W.heap.size, 2, none⟩ = some (.int .i64 ln) := fun g => (blk_cell (blk_below HREL.out.2.1 g.below) 2).trans rfl
      have z3 : ∀ g : G wr, g.W.cell? ⟨g1.W.heap.size, 3, none⟩ = some (.slice Av1 (kDs ks ds ds.length).length cv1) := fun g => (blk_cell (blk_below HREL.out.2.1 g.below) 3).trans (by rw [kDs_len]; rfl)
      have z4 : ∀ g : G wr, g.W.cell? ⟨g1.W.heap.size, 4, none⟩ = some (.slice A4 bd.length c4) := fun g => (blk_cell (blk_below HREL.out.2.1 g.below) 4).trans rfl
      have hge : ¬ (k : Int) < (ds.length : Int) := by omega
      have z3' : ∀ g : G wr, g.W.cell? ⟨g1.W.heap.size, 3, none⟩ = some (.slice Av1 (kDs ks ds ds.length).length cv1) := z3
      have hge2 : ¬ (k : Int) < ((kDs ks ds ds.length).length : Int) := by rw [kDs_len]; exact hge
      clear hk2 hlt hk
      by_cases h4 : 4096 < mz
      · have H4 := Aside0.mk (show (⟨9, -1, 169⟩ : Ans) = faultS nm wd ln (kDs ks ds ds.length) bd from by rw [LAW.out, if_pos h4])
        go_wp2_with fail
        refine (call_of (g := g4) (check_calls nm wd ln (kDs ks ds ds.length) bd Av1 cv1 A4 c4 g4.W (HPA.out.below g4.below) HGQ.out _ H4.out)).mono ?_
        rintro _ _ ⟨rfl, g4, rfl⟩
        go_wp2_with fail
        refine (call_of (g := g4) (no_calls _ g4.W)).mono ?_
        rintro _ _ ⟨rfl, g4, rfl⟩
        go_wp2_with fail
        go_ret
        exact ⟨rfl, WG4.out _⟩
      · have H4 := Aside0.mk (show (⟨0, 0, 0⟩ : Ans) = faultS nm wd ln (kDs ks ds ds.length) bd from by rw [LAW.out, if_neg h4])
        go_wp2_with fail
        refine (call_of (g := g4) (size_calls nm wd ln (kDs ks ds ds.length) bd Av1 cv1 A4 c4 g4.W (HPA.out.below g4.below) HGQ.out _ (size_right (by rw [← H4.out])))).mono ?_
        rintro _ _ ⟨rfl, g4, rfl⟩
        go_wp2_with fail
        refine (call_of (g := g4) (no_calls _ g4.W)).mono ?_
        rintro _ _ ⟨rfl, g4, rfl⟩
        go_wp2_with fail
        refine (call_of (g := g4) (no_calls _ g4.W)).mono ?_
        rintro _ _ ⟨rfl, g4, rfl⟩
        go_wp2_with fail
        refine (call_of (g := g4) (check_calls nm wd ln (kDs ks ds ds.length) bd Av1 cv1 A4 c4 g4.W (HPA.out.below g4.below) HGQ.out _ H4.out)).mono ?_
        rintro _ _ ⟨rfl, g4, rfl⟩
        go_wp2_with fail
        refine (call_of (g := g4) (no_calls _ g4.W)).mono ?_
        rintro _ _ ⟨rfl, g4, rfl⟩
        go_wp2_with fail
        go_ret
        exact ⟨rfl, WG4.out _⟩
theorem wfKinds_law (v0 : Value) (x0 : Ot.Prog) (v1 : Value) (x1 : List Int) (w : World) (s0 : ∃ cs, v0 = .agg cs ∧ cs.size = Try.prog.cellsOf 29) (k0 : Ot.opensP_K w x0 v0.cells.toList) (g0 : Ot.opensP_good x0) {m0 m1 : Nat} (b0 : Ot.opensP_bulk x0 ≤ m0) (s1 : ∃ A n c, v1 = .slice A n c) (k1 : Ot.opensI_K w x1 v1.cells.toList) (g1 : Ot.opensI_good x1) (b1 : Ot.opensI_bulk x1 ≤ m1) (up : m0 + m1 ≤ 1048576) :
    Calls Try.prog 5 #[v0, v1] w fun e w' => e = .returned (.bool true) ∧ Below w.heap.size w w' := by
  obtain ⟨A3, c3, A4, c4, rfl, l3, g3, l4, g4⟩ := Ot.prog_of_K (s0.imp fun _ h => h.1) k0
  obtain ⟨A, n, c, rfl⟩ := s1
  obtain ⟨A5, c5, e5, l5, g5⟩ := k1
  injection e5 with e5
  rw [e5]
  exact wfKinds_walk x0.nm x0.wd x0.ln x0.ds x0.bd A3 c3 A4 c4 x1 A5 c5 w ⟨g3, l3, g4, l4⟩ ⟨g0, Nat.le_trans b0 (by omega)⟩ g5 l5
end Go.Proofs.Ytfcahachdpjfoaa.L
end
section
namespace Go.Proofs.Ytfcahachdpjfoaa.L
open Go.RowKit Go.Proofs.YtfcahachdpjfoaaW.PrintWords Go.Proofs.YtfcahachdpjfoaaW.PrintLast Go.Proofs.YtfcahachdpjfoaaW.PrintMore Go.Proofs.Ytfcahachdpjfoaa.Gr
set_option linter.unusedVariables false
set_option linter.unusedSimpArgs false
attribute [local go_sem] G.cell
theorem usedEs_any (tw : ByteArray) (l : List S75) : usedEs tw l = l.any (usedE tw) := by
  induction l with
  | nil => rfl
  | cons x r ih => rw [usedEs, ih, List.any_cons]
theorem usedE_eq (tw : ByteArray) (x : S75) : usedE tw x = (eqS x.f2 tw || x.f3.any (usedE tw)) := by obtain ⟨a, b, s, l⟩ := x; rw [usedE, usedEs_any]
theorem standTs_any (tw : ByteArray) (l : List S77) : standTs tw l = l.any (standT tw) := by
  induction l with
  | nil => rfl
  | cons x r ih => rw [standTs, ih, List.any_cons]
theorem any75 {p : S75 → Bool} {l : List S75} {k : Nat} (hk : k < l.length) (h : p (rd_T75 l (k : Int)) = true) : l.any p = true := List.any_eq_true.2 ⟨_, rd75_mem hk, h⟩
theorem none75 {p : S75 → Bool} {l : List S75} (h : ∀ j, j < l.length → p (rd_T75 l (j : Int)) = false) : l.any p = false := by
  rw [List.any_eq_false]
  intro y hy
  obtain ⟨j, hj, rfl⟩ := List.getElem_of_mem hy
  have := h j hj
  unfold rd_T75 at this
  rw [Int.toNat_natCast, List.getD_eq_getElem?_getD, List.getElem?_eq_getElem hj] at this
  simpa using this
theorem any77 {p : S77 → Bool} {l : List S77} {k : Nat} (hk : k < l.length) (h : p (rd_T77 l (k : Int)) = true) : l.any p = true := List.any_eq_true.2 ⟨_, rd77_mem hk, h⟩
theorem none77 {p : S77 → Bool} {l : List S77} (h : ∀ j, j < l.length → p (rd_T77 l (j : Int)) = false) : l.any p = false := by
  rw [List.any_eq_false]
  intro y hy
  obtain ⟨j, hj, rfl⟩ := List.getElem_of_mem hy
  have := h j hj
  unfold rd_T77 at this
  rw [Int.toNat_natCast, List.getD_eq_getElem?_getD, List.getElem?_eq_getElem hj] at this
  simpa using this
def UsedC (tw : ByteArray) (x : S75) : Prop := ∀ (A : Option Addr) (c : Nat) (w : World), k75.C w A x.f3.length x.f3 → x.f3.length ≤ c →
  Calls Try.prog 37 #[.agg #[.int .i64 x.f0, .int .u64 x.f1, .string x.f2, .slice A x.f3.length c], .string tw] w fun e w' => e = .returned (.bool (usedE tw x)) ∧ Below w.heap.size w w'
theorem eqS_cases (a b : ByteArray) : (a.toList = b.toList ∧ eqS a b = true) ∨ ((a.toList == b.toList) = false ∧ eqS a b = false) := by
  by_cases h : a.toList = b.toList
  · exact .inl ⟨h, decide_eq_true h⟩
  · exact .inr ⟨by simpa using h, decide_eq_false h⟩
set_option maxHeartbeats 1000000 in
set_option maxRecDepth 100000 in
theorem used_walk (tw : ByteArray) (x : S75) (ih : ∀ y ∈ x.f3, UsedC tw y) : UsedC tw x := by
  intro A c w hc hl
  rw [usedE_eq]
  have gout : ∀ {o : Obj} (g : G (w.alloc o)), Below w.heap.size w g.W := fun g => ((Below.refl _ _).alloc (Nat.le_refl _) _).trans (g.below.mono (by simp))
  have IH := Aside0.mk ih
  have HC := Aside0.mk hc
  have hlm := hc.2.1
  clear ih hc
  obtain ⟨x0, x1, x2, x3⟩ := x
  simp only at *
  rcases eqS_cases x2 tw with ⟨h1, h2⟩ | ⟨h1, h2⟩
  · rw [h2, Bool.true_or]
    have h3 : (x2.toList == tw.toList) = true := by simp [h1]
    clear h1 h2
    go_enter Try.func37, Try.ntmps37
    go_upto_region 1 with (fail)
    refine wp_grown0 ?_
    intro gg
    go_wp2_with fail
    go_ret
    exact ⟨rfl, gout _⟩
  · rw [h2, Bool.false_or]
    clear h2
    go_enter Try.func37, Try.ntmps37
    go_upto_region 1 with (fail)
    refine wp_grown0 ?_
    intro gg
    go_wp2_with fail
    go_loopw [5] (fun i W => ∃ (k : Nat) (g' : G (gw0 gg)), i = .int .i64 k ∧ W = g'.W ∧ k ≤ x3.length ∧ Aside0 (∀ j, j < k → usedE tw (rd_T75 x3 (j : Int)) = false)) (fun i _ => x3.length - (intOf i).toNat)
    case atStart => exact ⟨0, gg, rfl, rfl, Nat.zero_le _, ⟨fun j hj => absurd hj (Nat.not_lt_zero _)⟩⟩
    case round =>
      obtain ⟨k, g', rfl, rfl, hk, HK⟩ := hrel
      by_cases hlt : k < x3.length
      · obtain ⟨ad, A3, c3, e1, q0, q1, q2, q3, l3, g3⟩ := at_T75 HC.out (k : Int) (Int.natCast_nonneg _) (by omega)
        cases e1
        rw [Int.toNat_natCast] at q0 q1 q2 q3
        replace q0 := held_in (gout g') q0
        replace q1 := held_in (gout g') q1
        replace q2 := held_in (gout g') q2
        replace q3 := held_in (gout g') q3
        have hi1 : (k : Int) < (x3.length : Int) := by omega
        have K := Aside0.mk (And.intro l3 g3)
        clear l3 g3
        have MEM := Aside0.mk (rd75_mem hlt)
        rcases bcases (usedE tw (rd_T75 x3 (k : Int))) with hy | hy
        all_goals
          have HY := Aside0.mk hy
          clear hy
          go_wp2_with fail
          refine (call_of (g := g') (IH.out _ MEM.out A3 c3 g'.W (Kd.C_below K.out.2 (gout _)) K.out.1)).mono ?_
          rw [HY.out]
          rintro _ _ ⟨rfl, gg, rfl⟩
          go_wp2_with fail
        · go_ret
          exact ⟨ret_bool2 (any75 hlt HY.out).symm, gout _⟩
        · refine ⟨⟨k + 1, gg, by go_num, rfl, by omega, ⟨fun j hj => ?_⟩⟩, by simp [intOf]; omega⟩
          by_cases hj2 : j = k
          · rw [hj2]; exact HY.out
          · exact HK.out j (by omega)
      · go_wp2_with fail
        go_ret
        exact ⟨ret_bool2 (none75 (fun j hj => HK.out j (by omega))).symm, gout _⟩
theorem used_calls (tw : ByteArray) : ∀ (n : Nat) (x : S75), SizeOf.sizeOf x ≤ n → UsedC tw x := by
  intro n
  induction n with
  | zero => intro x h; obtain ⟨a, b, c, l⟩ := x; simp at h
  | succ n ih => exact fun x h => used_walk tw x fun y hy => ih y (rd75_size rfl hy h)
theorem used_v {tw : ByteArray} {x : S75} {v : Bool} (h : usedE tw x = v) (A : Option Addr) (c : Nat) (w : World) (hc : k75.C w A x.f3.length x.f3) (hl : x.f3.length ≤ c) :
    Calls Try.prog 37 #[.agg #[.int .i64 x.f0, .int .u64 x.f1, .string x.f2, .slice A x.f3.length c], .string tw] w fun e w' => e = .returned (.bool v) ∧ Below w.heap.size w w' := h ▸ used_calls tw _ x (Nat.le_refl _) A c w hc hl
end Go.Proofs.Ytfcahachdpjfoaa.L
end
section
namespace Go.Proofs.Ytfcahachdpjfoaa.L
open Go.RowKit Go.Proofs.YtfcahachdpjfoaaW.PrintWords Go.Proofs.YtfcahachdpjfoaaW.PrintLast Go.Proofs.YtfcahachdpjfoaaW.PrintMore Go.Proofs.Ytfcahachdpjfoaa.Gr
set_option linter.unusedVariables false
set_option linter.unusedSimpArgs false
attribute [local go_sem] G.cell
def zEx : Value := .agg #[.int .i64 0, .int .u64 0, .string ⟨#[]⟩, .slice none 0 0]
theorem info75 : (Try.prog.info? 75).map (fun i => (i.zero, i.size, i.bytes)) = some (some zEx, 4, 56) := by kernel_rfl
theorem under73 : Try.prog.underlying 73 = some (.slice 75) := by kernel_rfl
theorem rnEs_add (fr tw : ByteArray) (l : List S75) (x : S75) : rnEs fr tw (l ++ [x]) = rnEs fr tw l ++ [rnE fr tw x] := by
  induction l with
  | nil => simp [rnEs]
  | cons y r ih => rw [List.cons_append, rnEs, ih, rnEs, List.cons_append]
def CalledC (fr tw : ByteArray) (x : S75) : Prop := ∀ (A : Option Addr) (c : Nat) (w : World), k75.C w A x.f3.length x.f3 → x.f3.length ≤ c →
  Calls Try.prog 38 #[.agg #[.int .i64 x.f0, .int .u64 x.f1, .string x.f2, .slice A x.f3.length c], .string fr, .string tw] w fun r w' => ∃ v, r = .returned (.agg #[.int .i64 x.f0, .int .u64 x.f1, .string (rn fr tw x.f2), v]) ∧ k75.R 75 w' w.heap.size (fun _ => True) v (rnEs fr tw x.f3) ∧ Below w.heap.size w w'
theorem goodEs_len {l : List S75} {x : S75} (hx : x.f3 = l) (h : Ot.goodE x) : l.length * 56 ≤ 140737488351232 := by
  obtain ⟨a, b, s, r⟩ := x
  rw [Ot.goodE] at h
  exact hx ▸ h.2.2.2.1
set_option maxHeartbeats 2000000 in
set_option maxRecDepth 100000 in
theorem called_walk (fr tw : ByteArray) (x : S75) (hg : Ot.goodE x) (ih : ∀ y ∈ x.f3, CalledC fr tw y) : CalledC fr tw x := by
  intro A c w hc hl
  have IH := Aside0.mk ih
  have HC := Aside0.mk hc
  have HN := Aside0.mk (goodEs_len rfl hg)
  have hlm := hc.2.1
  clear ih hc hg
  obtain ⟨nm, hnm⟩ : ∃ nm, nm = rn fr tw x.f2 := ⟨_, rfl⟩
  rw [← hnm]
  have hcs : (x.f2.toList = fr.toList ∧ nm = tw) ∨ ((x.f2.toList == fr.toList) = false ∧ nm = x.f2) := by
    rw [hnm]; unfold rn
    rcases eqS_cases x.f2 fr with ⟨h1, h2⟩ | ⟨h1, h2⟩
    · exact .inl ⟨h1, by rw [if_pos h2]⟩
    · exact .inr ⟨h1, by rw [if_neg (by rw [h2]; decide)]⟩
  clear hnm
  obtain ⟨x0, x1, x2, x3⟩ := x
  simp only at *
  go_enter Try.func38, Try.ntmps38
  go_upto_if 13 with (fail)
  have K0 : ∀ n : ByteArray, (((w.alloc (.cells #[.int .i64 x0, .int .u64 x1, .string x2, .slice A x3.length c] 75)).alloc (.cells #[.int .i64 0, .int .u64 0, .string ⟨#[]⟩, .slice none 0 0] 75)).alloc (.cells #[.int .i64 x0, .int .u64 x1, .string n, .slice A x3.length c] 75)).heap[w.heap.size]? = some (.cells #[.int .i64 x0, .int .u64 x1, .string x2, .slice A x3.length c] 75 (0, 0)) := fun n => blk_alloc (blk_alloc (blk_new _ _) _) _
  have K1 : ∀ n : ByteArray, (((w.alloc (.cells #[.int .i64 x0, .int .u64 x1, .string x2, .slice A x3.length c] 75)).alloc (.cells #[.int .i64 0, .int .u64 0, .string ⟨#[]⟩, .slice none 0 0] 75)).alloc (.cells #[.int .i64 x0, .int .u64 x1, .string n, .slice A x3.length c] 75)).heap[w.heap.size + 1]? = some (.cells #[.int .i64 0, .int .u64 0, .string ⟨#[]⟩, .slice none 0 0] 75 (0, 0)) := fun n => blk_alloc (by simpa using blk_new (w.alloc (.cells #[.int .i64 x0, .int .u64 x1, .string x2, .slice A x3.length c] 75)) (.cells #[.int .i64 0, .int .u64 0, .string ⟨#[]⟩, .slice none 0 0] 75)) _
  have K2 : ∀ n : ByteArray, (((w.alloc (.cells #[.int .i64 x0, .int .u64 x1, .string x2, .slice A x3.length c] 75)).alloc (.cells #[.int .i64 0, .int .u64 0, .string ⟨#[]⟩, .slice none 0 0] 75)).alloc (.cells #[.int .i64 x0, .int .u64 x1, .string n, .slice A x3.length c] 75)).heap[w.heap.size + 1 + 1]? = some (.cells #[.int .i64 x0, .int .u64 x1, .string n, .slice A x3.length c] 75 (0, 0)) := fun n => by simpa using blk_new ((w.alloc (.cells #[.int .i64 x0, .int .u64 x1, .string x2, .slice A x3.length c] 75)).alloc (.cells #[.int .i64 0, .int .u64 0, .string ⟨#[]⟩, .slice none 0 0] 75)) (.cells #[.int .i64 x0, .int .u64 x1, .string n, .slice A x3.length c] 75)
  have K3 : ∀ n : ByteArray, Below w.heap.size w (((w.alloc (.cells #[.int .i64 x0, .int .u64 x1, .string x2, .slice A x3.length c] 75)).alloc (.cells #[.int .i64 0, .int .u64 0, .string ⟨#[]⟩, .slice none 0 0] 75)).alloc (.cells #[.int .i64 x0, .int .u64 x1, .string n, .slice A x3.length c] 75)) := fun n => (((Below.refl w.heap.size w).alloc (Nat.le_refl _) _).alloc (by simp) _).alloc (by simp; omega) _
  have KK := Aside0.mk (And.intro K0 (And.intro K1 (And.intro K2 K3)))
  clear K0 K1 K2 K3
  go_cut [] (fun wc => Aside0 (Below w.heap.size w wc ∧ wc.heap[w.heap.size]? = some (.cells #[.int .i64 x0, .int .u64 x1, .string x2, .slice A x3.length c] 75 (0, 0)) ∧ wc.heap[w.heap.size + 1]? = some (.cells #[.int .i64 0, .int .u64 0, .string ⟨#[]⟩, .slice none 0 0] 75 (0, 0)) ∧ wc.heap[w.heap.size + 1 + 1]? = some (.cells #[.int .i64 x0, .int .u64 x1, .string nm, .slice A x3.length c] 75 (0, 0))))
  case first =>
    rcases hcs with ⟨h1, h2⟩ | ⟨h1, h2⟩
    · have h3 : (x2.toList == fr.toList) = true := by simp [h1]
      have H2 := Aside0.mk h2
      clear h1 h2
      rw [h3]
      go_wp2
      go_meet
      case rel => exact ⟨by rw [H2.out]; exact ⟨KK.out.2.2.2 _, KK.out.1 _, KK.out.2.1 _, KK.out.2.2.1 _⟩⟩
    · have H2 := Aside0.mk h2
      clear h2
      rw [h1]
      go_wp2
      go_meet
      case rel => exact ⟨by rw [H2.out]; exact ⟨KK.out.2.2.2 _, KK.out.1 _, KK.out.2.1 _, KK.out.2.2.1 _⟩⟩
  case rest =>
    clear KK hcs
    have z3 := (blk_cell hcut.out.2.2.2 3).trans rfl
    have y3 := blk_frozen hcut.out.2.2.2 3
    go_upto_region 5 with (fail)
    clear z3 y3
    obtain ⟨X, hX⟩ : ∃ X, X = wc.setCell ⟨w.heap.size + 1 + 1, 3, none⟩ (.slice none 0 0) := ⟨_, rfl⟩
    have k0 : X.heap[w.heap.size]? = some (.cells #[.int .i64 x0, .int .u64 x1, .string x2, .slice A x3.length c] 75 (0, 0)) := hX ▸ (Below.heap_setCell _ _ _ _ (show w.heap.size ≠ w.heap.size + 1 + 1 by omega)).trans hcut.out.2.1
    have k1 : X.heap[w.heap.size + 1]? = some (.cells #[.int .i64 0, .int .u64 0, .string ⟨#[]⟩, .slice none 0 0] 75 (0, 0)) := hX ▸ (Below.heap_setCell _ _ _ _ (show w.heap.size + 1 ≠ w.heap.size + 1 + 1 by omega)).trans hcut.out.2.2.1
    have k2 : X.heap[w.heap.size + 1 + 1]? = some (.cells #[.int .i64 x0, .int .u64 x1, .string nm, .slice none 0 0] 75 (0, 0)) := hX ▸ blk_put hcut.out.2.2.2 3 _ rfl
    have kb : Below w.heap.size w X := by rw [hX]; exact hcut.out.1.setCell (p := ⟨w.heap.size + 1 + 1, 3, none⟩) (show w.heap.size ≤ w.heap.size + 1 + 1 by omega) _
    rw [← hX]
    clear hX hcut
    have KX := Aside0.mk (And.intro kb (And.intro k0 (And.intro k1 k2)))
    clear k0 k1 k2 kb
    go_wp2_with fail
    go_loopw [8] (fun i W => ∃ k : Nat, i = .int .i64 k ∧ k ≤ x3.length ∧ Aside0 (Below w.heap.size w W ∧ W.heap[w.heap.size]? = some (.cells #[.int .i64 x0, .int .u64 x1, .string x2, .slice A x3.length c] 75 (0, 0)) ∧ W.heap[w.heap.size + 1]? = some (.cells #[.int .i64 0, .int .u64 0, .string ⟨#[]⟩, .slice none 0 0] 75 (0, 0)) ∧
      ∃ v, W.heap[w.heap.size + 1 + 1]? = some (.cells #[.int .i64 x0, .int .u64 x1, .string nm, v] 75 (0, 0)) ∧ k75.R 75 W w.heap.size (fun b => w.heap.size + 1 + 1 < b) v (rnEs fr tw (x3.take k)))) (fun i _ => x3.length - (intOf i).toNat)
    case atStart => exact ⟨0, rfl, Nat.zero_le _, ⟨KX.out.1, KX.out.2.1, KX.out.2.2.1, _, KX.out.2.2.2, by rw [List.take_zero, rnEs]; exact Kd.R_nil _ _ _ _ _⟩⟩
    case round =>
      obtain ⟨k, rfl, hk, HREL⟩ := hrel
      obtain ⟨hB, h0, h1, v, h2, hR⟩ := HREL.out
      have HB := Aside0.mk hB
      have HR := Aside0.mk hR
      have HK := Aside0.mk (And.intro h0 (And.intro h1 h2))
      clear HREL
      by_cases hlt : k < x3.length
      · clear hB hR h0 h1 h2
        have b0 : ∀ g : G wr, g.W.cell? ⟨w.heap.size, 3, none⟩ = some (.slice A x3.length c) := fun g => (blk_cell (blk_below HK.out.1 g.below) 3).trans rfl
        have b2 : ∀ g : G wr, g.W.cell? ⟨w.heap.size + 1 + 1, 3, none⟩ = some v := fun g => (blk_cell (blk_below HK.out.2.2 g.below) 3).trans rfl
        obtain ⟨ad, A3, c3, e1, q0, q1, q2, q3, l3, g3⟩ := at_T75 HC.out (k : Int) (Int.natCast_nonneg _) (by omega)
        cases e1
        rw [Int.toNat_natCast] at q0 q1 q2 q3
        have gw1 : ∀ g : G wr, Below w.heap.size w g.W := fun g => HB.out.trans (g.below.mono HB.out.size)
        replace q0 := fun g : G wr => held_in (gw1 g) q0
        replace q1 := fun g : G wr => held_in (gw1 g) q1
        replace q2 := fun g : G wr => held_in (gw1 g) q2
        replace q3 := fun g : G wr => held_in (gw1 g) q3
        have hi1 : (k : Int) < (x3.length : Int) := by omega
        have K := Aside0.mk (And.intro l3 g3)
        clear l3 g3
        have IH1 := Aside0.mk (IH.out _ (rd75_mem hlt))
        have T := Aside0.mk (congrArg (rnEs fr tw) (take_rd75 hlt))
        generalize rd_T75 x3 (k : Int) = y at *
        have LT := Aside0.mk (show ∀ b, v.ownBlock = some b → b < wr.heap.size from by obtain ⟨_, inner, ho, _⟩ := HR.out; exact fun b hb => own_lt ho b hb)
        refine wp_grown0 ?_
        intro gg
        go_upto_region 8 with (fail)
        refine wp_grown0 ?_
        intro g0
        obtain ⟨gg, hgg⟩ : ∃ g : G wr, g.W = g0.W := ⟨mkG (gg.below.trans (g0.below.mono gg.below.size)), rfl⟩
        rw [← hgg]
        clear hgg g0
        refine start_ (n := 14) (S := fun w' => ∃ g' : G _, w' = g'.W) (ds := [11, 13]) #[false, false, false, false, false, false, false, false, false, false, false, false, false, false] (by kernel_rfl) rfl rfl ⟨mkG (gg.2.drew), rfl⟩ (fun hHeld => ?_)
        obtain ⟨gd, hgd⟩ := hHeld
        rw [hgd]
        clear hgd
        refine pure_ (i := 0) (N := some 24) (v := ?_) (a' := ?_) #[true, false, false, false, false, false, false, false, false, false, false, false, false, false] rfl rfl (by kernel_rfl) (fun _ _ _ h => h) (Or.inl ⟨by rfl, ?_⟩) ?_ ?_
        rotate_left
        · intro w'
          go_simp
          with_reducible rfl
        rotate_left
        · simp only [Act.put, List.setIfInBounds_toArray, List.set_cons_zero, List.set_cons_succ, i64_w, i32_w]
          rfl
        refine take_ (i := 1) (N := some 25) (v := ?_) (a' := ?_) #[true, true, false, false, false, false, false, false, false, false, false, false, false, false] rfl rfl (by kernel_rfl) (fun _ _ _ h => h) (Or.inl ⟨by rfl, ?_⟩) ⟨gd, rfl⟩ ?_ ?_
        rotate_left
        · rintro w' ⟨g', rfl⟩
          go_simp
          with_reducible rfl
        rotate_left
        · simp only [Act.put, List.setIfInBounds_toArray, List.set_cons_zero, List.set_cons_succ, i64_w, i32_w]
          rfl
        refine pure_ (i := 2) (N := some 26) (v := ?_) (a' := ?_) #[true, true, true, false, false, false, false, false, false, false, false, false, false, false] rfl rfl (by kernel_rfl) (fun _ _ _ h => h) (Or.inl ⟨by rfl, ?_⟩) ?_ ?_
        rotate_left
        · intro w'
          go_simp
          with_reducible rfl
        rotate_left
        · simp only [Act.put, List.setIfInBounds_toArray, List.set_cons_zero, List.set_cons_succ, i64_w, i32_w]
          rfl
        refine take_ (i := 3) (N := some 27) (v := ?_) (a' := ?_) #[true, true, true, true, false, false, false, false, false, false, false, false, false, false] rfl rfl (by kernel_rfl) (fun _ _ _ h => h) (Or.inl ⟨by rfl, ?_⟩) ⟨gd, rfl⟩ ?_ ?_
        rotate_left
        · rintro w' ⟨g', rfl⟩
          go_simp
          with_reducible rfl
        rotate_left
        · simp only [Act.put, List.setIfInBounds_toArray, List.set_cons_zero, List.set_cons_succ, i64_w, i32_w]
          rfl
        refine pure_ (i := 4) (N := some 28) (v := ?_) (a' := ?_) #[true, true, true, true, true, false, false, false, false, false, false, false, false, false] rfl rfl (by kernel_rfl) (fun _ _ _ h => h) (Or.inl ⟨by rfl, ?_⟩) ?_ ?_
        rotate_left
        · intro w'
          go_simp
          with_reducible rfl
        rotate_left
        · simp only [Act.put, List.setIfInBounds_toArray, List.set_cons_zero, List.set_cons_succ, i64_w, i32_w]
          rfl
        refine pure_ (i := 5) (N := some 29) (v := ?_) (a' := ?_) #[true, true, true, true, true, true, false, false, false, false, false, false, false, false] rfl rfl (by kernel_rfl) (fun _ _ _ h => h) (Or.inl ⟨by rfl, ?_⟩) ?_ ?_
        rotate_left
        · intro w'
          go_simp
          with_reducible rfl
        rotate_left
        · simp only [Act.put, List.setIfInBounds_toArray, List.set_cons_zero, List.set_cons_succ, i64_w, i32_w]
          rfl
        refine take_ (i := 6) (N := some 30) (v := ?_) (a' := ?_) #[true, true, true, true, true, true, true, false, false, false, false, false, false, false] rfl rfl (by kernel_rfl) (fun _ _ _ h => h) (Or.inl ⟨by rfl, ?_⟩) ⟨gd, rfl⟩ ?_ ?_
        rotate_left
        · rintro w' ⟨g', rfl⟩
          go_simp
          with_reducible rfl
        rotate_left
        · simp only [Act.put, List.setIfInBounds_toArray, List.set_cons_zero, List.set_cons_succ, i64_w, i32_w]
          rfl
        refine pure_ (i := 7) (N := some 31) (v := ?_) (a' := ?_) #[true, true, true, true, true, true, true, true, false, false, false, false, false, false] rfl rfl (by kernel_rfl) (fun _ _ _ h => h) (Or.inl ⟨by rfl, ?_⟩) ?_ ?_
        rotate_left
        · intro w'
          go_simp
          with_reducible rfl
        rotate_left
        · simp only [Act.put, List.setIfInBounds_toArray, List.set_cons_zero, List.set_cons_succ, i64_w, i32_w]
          rfl
        refine pure_ (i := 8) (N := some 32) (v := ?_) (a' := ?_) #[true, true, true, true, true, true, true, true, true, false, false, false, false, false] rfl rfl (by kernel_rfl) (fun _ _ _ h => h) (Or.inl ⟨by rfl, ?_⟩) ?_ ?_
        rotate_left
        · intro w'
          go_simp
          with_reducible rfl
        rotate_left
        · simp only [Act.put, List.setIfInBounds_toArray, List.set_cons_zero, List.set_cons_succ, i64_w, i32_w]
          rfl
        refine one_ (i := 9) (N := some 33) #[true, true, true, true, true, true, true, true, true, true, false, false, false, false] rfl rfl (by kernel_rfl) (by simp) (fun Kr hKr => ?_)
        refine goes_ Try.func38 (by kernel_rfl) rfl #[.agg #[.int .i64 y.f0, .int .u64 y.f1, .string y.f2, .slice A3 y.f3.length c3], .string fr, .string tw] (by rfl) rfl rfl (by (try simp only [List.map_toArray, List.map_cons, List.map_nil]); first | done | rfl) ?_
        refine (IH1.out A3 c3 gd.W (Kd.C_below K.out.2 (gw1 gd)) K.out.1).mono ?_
        rintro _ w9 ⟨v9, rfl, hR9, hb⟩
        refine ⟨_, rfl, ?_⟩
        have HP := Aside0.mk (show k75.M w9 w.heap.size (fun b => gd.W.heap.size ≤ b) (rnE fr tw y) [.int .i64 y.f0, .int .u64 y.f1, .string (rn fr tw y.f2), v9] from by rw [rnE_eq]; exact k75_mkM w9 w.heap.size _ ⟨y.f0, y.f1, rn fr tw y.f2, rnEs fr tw y.f3⟩ (Kd.R_lower (Kd.R_mono (Kd.R_bound hR9) (fun b hb => hb.2.1)) (gw1 gd).size))
        have HSZ := Aside0.mk gd.below.size
        generalize gd.W.heap.size = SZ at HP HSZ
        clear hR9
        obtain ⟨gd, rfl⟩ : ∃ g' : G _, w9 = g'.W := ⟨mkG (gd.below.trans (hb.mono gd.below.size)), rfl⟩
        clear hb
        refine hKr.out _ _ ⟨gd, rfl⟩ (fun _ => ?_)
        clear hKr Kr
        refine norm_ (a' := ?_) ?_ ?_
        rotate_left
        · show Act.put _ (some 33) _ = _
          simp only [Act.put, List.setIfInBounds_toArray, List.set_cons_zero, List.set_cons_succ, i64_w, i32_w]
          rfl
        refine one_ (i := 10) (N := some 34) #[true, true, true, true, true, true, true, true, true, true, true, false, false, false] rfl rfl (by kernel_rfl) (by simp) (fun Kr hKr => ?_)
        refine event_step (v := .slice (some ⟨gd.W.heap.size, 0, none⟩) 1 1) (w1 := gd.W.alloc (.cells #[.int .i64 y.f0, .int .u64 y.f1, .string (rn fr tw y.f2), v9] 75)) (by rfl) (by first | (go_simp; done) | (go_simp; rfl)) ?_
        refine hKr.out _ _ ⟨mkG (G.ball gd _), rfl⟩ (fun _ => ?_)
        clear hKr Kr
        refine norm_ (a' := ?_) ?_ ?_
        rotate_left
        · show Act.put _ (some 34) _ = _
          simp only [Act.put, List.setIfInBounds_toArray, List.set_cons_zero, List.set_cons_succ, i64_w, i32_w]
          rfl
        refine last_ (i := 11) (N := some 35) #[true, true, true, true, true, true, true, true, true, true, true, true, false, false] rfl rfl (by kernel_rfl) (by simp) (fun Kr hKr => ?_)
        refine Kd.R_append_step k75 (w0 := w) w.heap.size (by rfl) (.tmp 25) (.tmp 34) 73 75 zEx 56 rfl under73 info75 rfl (show 0 < 4 by decide) (by decide) v (rnEs fr tw (x3.take k)) (rnE fr tw y) [.int .i64 y.f0, .int .u64 y.f1, .string (rn fr tw y.f2), v9] (fun b => w.heap.size + 1 + 1 < b) (fun b => SZ ≤ b) rfl rfl HP.out (fun b hb => ⟨Nat.lt_of_lt_of_le (blk_lt HK.out.2.2) (Nat.le_trans HSZ.out hb), some_ne_of_lt LT.out (Nat.le_trans HSZ.out hb)⟩) (fun b hb => Nat.lt_of_lt_of_le (blk_lt HK.out.2.2) (Nat.le_trans gd.below.size hb)) (Kd.R_below HR.out gd.below) (gw1 gd) (gw1 gd).size (by have := HN.out; have := List.length_take_le k x3; rw [rnEs_len]; omega) ?_
        intro v1 w1 hr1 hb1 hg1 hat1
        obtain ⟨Av1, cv1, rfl⟩ := Kd.R_slice hr1
        simp only [List.length_append, List.length_singleton] at hr1
        have NE := Aside0.mk (show ∀ b, b ≤ w.heap.size + 1 + 1 → some b ≠ v.ownBlock from fun b hb he => by have h := HR.out.1 b he.symm; exact absurd h (Nat.not_lt.2 hb))
        have E0 := Aside0.mk ((hg1.block w.heap.size (Nat.lt_of_lt_of_le (blk_lt HK.out.1) gd.below.size) (NE.out _ (by omega))).trans (blk_below HK.out.1 gd.below))
        have E1 := Aside0.mk ((hg1.block (w.heap.size + 1) (Nat.lt_of_lt_of_le (blk_lt HK.out.2.1) gd.below.size) (NE.out _ (by omega))).trans (blk_below HK.out.2.1 gd.below))
        have E2 := Aside0.mk ((hg1.block (w.heap.size + 1 + 1) (Nat.lt_of_lt_of_le (blk_lt HK.out.2.2) gd.below.size) (NE.out _ (by omega))).trans (blk_below HK.out.2.2 gd.below))
        have W1 := Aside0.mk (And.intro hr1 hb1)
        clear hr1 hb1 hg1 hat1
        refine hKr.out _ _ ?_
        clear hKr Kr
        refine norm_ (a' := ?_) ?_ ?_
        rotate_left
        · show Act.put _ (some 35) _ = _
          simp only [Act.put, List.setIfInBounds_toArray, List.set_cons_zero, List.set_cons_succ, i64_w, i32_w]
          rfl
        refine pure_ (i := 12) (N := some 36) (v := ?_) (a' := ?_) #[true, true, true, true, true, true, true, true, true, true, true, true, true, false] rfl rfl (by kernel_rfl) (fun _ _ _ h => h) (Or.inl ⟨by rfl, ?_⟩) ?_ ?_
        rotate_left
        · intro w'
          go_simp
          with_reducible rfl
        rotate_left
        · simp only [Act.put, List.setIfInBounds_toArray, List.set_cons_zero, List.set_cons_succ, i64_w, i32_w]
          rfl
        refine last_ (i := 13) (N := none) #[true, true, true, true, true, true, true, true, true, true, true, true, true, true] rfl rfl (by kernel_rfl) (by simp) (fun Kr hKr => ?_)
        have e3 : w1.cell? ⟨w.heap.size + 1 + 1, 3, none⟩ = some v := (blk_cell E2.out 3).trans rfl
        have y3 := blk_frozen E2.out 3
        refine skip_ (w1 := w1.setCell ⟨w.heap.size + 1 + 1, 3, none⟩ (.slice Av1 ((rnEs fr tw (x3.take k)).length + 1) cv1)) (by rfl) rfl (by first | (go_simp; done) | (go_simp; rfl)) ?_
        clear e3 y3
        refine hKr.out _ _ ?_
        clear hKr Kr
        refine done_ (by kernel_rfl) ?_
        go_wp2_with fail
        refine ⟨⟨k + 1, by go_num, by omega, ⟨?_, ?_, ?_, .slice Av1 ((rnEs fr tw (x3.take k)).length + 1) cv1, ?_, ?_⟩⟩, by simp [intOf]; omega⟩
        · exact W1.out.2.setCell (p := ⟨w.heap.size + 1 + 1, 3, none⟩) (show w.heap.size ≤ w.heap.size + 1 + 1 by omega) _
        · exact (Below.heap_setCell _ _ _ _ (show w.heap.size ≠ w.heap.size + 1 + 1 by omega)).trans E0.out
        · exact (Below.heap_setCell _ _ _ _ (show w.heap.size + 1 ≠ w.heap.size + 1 + 1 by omega)).trans E1.out
        · exact blk_put E2.out 3 _ rfl
        · have h := T.out
          rw [rnEs_add] at h
          rw [h]
          exact Kd.R_far W1.out.1 (fun b hb => by show b ≠ w.heap.size + 1 + 1; omega) _
      · have z0 : wr.cell? ⟨w.heap.size, 3, none⟩ = some (.slice A x3.length c) := (blk_cell h0 3).trans rfl
        have r0 : wr.cell? ⟨w.heap.size + 1, 0, none⟩ = some (.int .i64 0) := (blk_cell h1 0).trans rfl
        have r1 : wr.cell? ⟨w.heap.size + 1, 1, none⟩ = some (.int .u64 0) := (blk_cell h1 1).trans rfl
        have r2 : wr.cell? ⟨w.heap.size + 1, 2, none⟩ = some (.string ⟨#[]⟩) := (blk_cell h1 2).trans rfl
        have r3 : wr.cell? ⟨w.heap.size + 1, 3, none⟩ = some (.slice none 0 0) := (blk_cell h1 3).trans rfl
        have s0 : wr.cell? ⟨w.heap.size + 1 + 1, 0, none⟩ = some (.int .i64 x0) := (blk_cell h2 0).trans rfl
        have s1 : wr.cell? ⟨w.heap.size + 1 + 1, 1, none⟩ = some (.int .u64 x1) := (blk_cell h2 1).trans rfl
        have s2 : wr.cell? ⟨w.heap.size + 1 + 1, 2, none⟩ = some (.string nm) := (blk_cell h2 2).trans rfl
        have s3 : wr.cell? ⟨w.heap.size + 1 + 1, 3, none⟩ = some v := (blk_cell h2 3).trans rfl
        have f0 := blk_frozen h1 0
        have f1 := blk_frozen h1 1
        have f2 := blk_frozen h1 2
        have f3 := blk_frozen h1 3
        obtain ⟨Av, cv, rfl⟩ := Kd.R_slice HR.out
        clear hB hR h0 h1 h2
        go_wp2_with fail
        refine bodyPost_ret (results_cell_row rfl _ _ (w.heap.size + 1) 75 #[.int .i64 x0, .int .u64 x1, .string nm, .slice Av (rnEs fr tw (x3.take k)).length cv] (0, 0) _ rfl (blk_put (blk_put (blk_put (blk_put HK.out.2.1 0 _ rfl) 1 _ rfl) 2 _ rfl) 3 _ rfl) Try.underlying75 rfl (by kernel_rfl)) rfl ?_
        refine ⟨_, rfl, ?_, ?_⟩
        · have hk2 : k = x3.length := by omega
          subst hk2
          rw [List.take_length] at HR ⊢
          exact Kd.R_mono (Kd.R_far (Kd.R_far (Kd.R_far (Kd.R_far HR.out (p := ⟨w.heap.size + 1, 0, none⟩) (fun b hb => by show b ≠ w.heap.size + 1; omega) _) (p := ⟨w.heap.size + 1, 1, none⟩) (fun b hb => by show b ≠ w.heap.size + 1; omega) _) (p := ⟨w.heap.size + 1, 2, none⟩) (fun b hb => by show b ≠ w.heap.size + 1; omega) _) (p := ⟨w.heap.size + 1, 3, none⟩) (fun b hb => by show b ≠ w.heap.size + 1; omega) _) (fun _ _ => trivial)
        · exact (((HB.out.setCell (p := ⟨w.heap.size + 1, 0, none⟩) (show w.heap.size ≤ w.heap.size + 1 by omega) _).setCell (p := ⟨w.heap.size + 1, 1, none⟩) (show w.heap.size ≤ w.heap.size + 1 by omega) _).setCell (p := ⟨w.heap.size + 1, 2, none⟩) (show w.heap.size ≤ w.heap.size + 1 by omega) _).setCell (p := ⟨w.heap.size + 1, 3, none⟩) (show w.heap.size ≤ w.heap.size + 1 by omega) _
theorem called_calls (fr tw : ByteArray) : ∀ (n : Nat) (x : S75), SizeOf.sizeOf x ≤ n → Ot.goodE x → CalledC fr tw x := by
  intro n
  induction n with
  | zero => intro x h; obtain ⟨a, b, c, l⟩ := x; simp at h
  | succ n ih =>
    intro x h hg
    refine called_walk fr tw x hg fun y hy => ih y (rd75_size rfl hy h) ?_
    obtain ⟨a, b, s, l⟩ := x
    rw [Ot.goodE] at hg
    exact (Ot.goodEs_iff l).1 hg.2.2.2.2 y hy
end Go.Proofs.Ytfcahachdpjfoaa.L
end
section
namespace Go.Proofs.Ytfcahachdpjfoaa.L
open Go.RowKit Go.Proofs.YtfcahachdpjfoaaW.PrintWords Go.Proofs.YtfcahachdpjfoaaW.PrintLast Go.Proofs.YtfcahachdpjfoaaW.PrintMore Go.Proofs.Ytfcahachdpjfoaa.Gr
set_option linter.unusedVariables false
set_option linter.unusedSimpArgs false
attribute [local go_sem] G.cell
def StandC (tw : ByteArray) (l : List S77) : Prop := ∀ (A : Option Addr) (c : Nat) (w : World), k77.C w A l.length l → l.length ≤ c →
  Calls Try.prog 21 #[.slice A l.length c, .string tw] w fun e w' => e = .returned (.bool (standTs tw l)) ∧ Below w.heap.size w w'
theorem stand_v {tw : ByteArray} {l : List S77} (hs : StandC tw l) {v : Bool} (h : standTs tw l = v) (A : Option Addr) (c : Nat) (w : World) (hc : k77.C w A l.length l) (hl : l.length ≤ c) :
    Calls Try.prog 21 #[.slice A l.length c, .string tw] w fun e w' => e = .returned (.bool v) ∧ Below w.heap.size w w' := h ▸ hs A c w hc hl
theorem standT_eq (tw : ByteArray) (x : S77) : standT tw x = (eqS x.f1 tw || usedE tw x.f2 || usedE tw x.f3 || standTs tw x.f6 || standTs tw x.f7) := by obtain ⟨k, s, e, f, lo, hi, th, el⟩ := x; rw [standT]
set_option maxHeartbeats 2000000 in
set_option maxRecDepth 100000 in
theorem stands_walk (tw : ByteArray) (l : List S77) (ih : ∀ x ∈ l, StandC tw x.f6 ∧ StandC tw x.f7) : StandC tw l := by
  intro A c w hc hl
  rw [standTs_any]
  have IH := Aside0.mk ih
  have HC := Aside0.mk hc
  have hlm := hc.2.1
  clear ih hc
  go_enter Try.func21, Try.ntmps21
  go_upto_region 1 with (fail)
  refine wp_grown0 ?_
  intro gg
  go_wp2_with fail
  go_loopw [5] (fun i W => ∃ (k : Nat) (g' : G (gw0 gg)), i = .int .i64 k ∧ W = g'.W ∧ k ≤ l.length ∧ Aside0 (∀ j, j < k → standT tw (rd_T77 l (j : Int)) = false)) (fun i _ => l.length - (intOf i).toNat)
  case atStart => exact ⟨0, gg, rfl, rfl, Nat.zero_le _, ⟨fun j hj => absurd hj (Nat.not_lt_zero _)⟩⟩
  case round =>
    obtain ⟨k, g', rfl, rfl, hk, HK⟩ := hrel
    by_cases hlt : k < l.length
    · obtain ⟨ad, A5, c5, A9, c9, A12, c12, A13, c13, e1, q0, q1, q2, q3, q4, q5, q6, q7, q8, q9, q10, q11, q12, q13, l5, g5, l9, g9, l12, g12, l13, g13⟩ := at_T77 HC.out (k : Int) (Int.natCast_nonneg _) (by omega)
      cases e1
      rw [Int.toNat_natCast] at q0 q1 q2 q3 q4 q5 q6 q7 q8 q9 q10 q11 q12 q13
      have hi1 : (k : Int) < (l.length : Int) := by omega
      have Q := Aside0.mk (And.intro q1 (And.intro q2 (And.intro q3 (And.intro q4 (And.intro q5 (And.intro q6 (And.intro q7 (And.intro q8 (And.intro q9 (And.intro q12 q13))))))))))
      clear q0 q1 q2 q3 q4 q5 q6 q7 q8 q9 q10 q11 q12 q13
      have K := Aside0.mk (And.intro l5 (And.intro g5 (And.intro l9 (And.intro g9 (And.intro l12 (And.intro g12 (And.intro l13 g13)))))))
      clear l5 g5 l9 g9 l12 g12 l13 g13
      have IH1 := Aside0.mk (IH.out _ (rd77_mem hlt))
      have YES := Aside0.mk (fun h => any77 (p := standT tw) hlt h)
      have NO := Aside0.mk (show standT tw (rd_T77 l (k : Int)) = false → ∀ j, j < k + 1 → standT tw (rd_T77 l (j : Int)) = false from fun h j hj => by
        by_cases hj2 : j = k
        · rw [hj2]; exact h
        · exact HK.out j (by omega))
      rw [standT_eq] at YES NO
      generalize rd_T77 l (k : Int) = y at *
      have q1 : ∀ g : G (gw0 gg), _ := fun g => held_in g.below Q.out.1
      have q2 : ∀ g : G (gw0 gg), _ := fun g => held_in g.below Q.out.2.1
      have q3 : ∀ g : G (gw0 gg), _ := fun g => held_in g.below Q.out.2.2.1
      have q4 : ∀ g : G (gw0 gg), _ := fun g => held_in g.below Q.out.2.2.2.1
      have q5 : ∀ g : G (gw0 gg), _ := fun g => held_in g.below Q.out.2.2.2.2.1
      have q6 : ∀ g : G (gw0 gg), _ := fun g => held_in g.below Q.out.2.2.2.2.2.1
      have q7 : ∀ g : G (gw0 gg), _ := fun g => held_in g.below Q.out.2.2.2.2.2.2.1
      have q8 : ∀ g : G (gw0 gg), _ := fun g => held_in g.below Q.out.2.2.2.2.2.2.2.1
      have q9 : ∀ g : G (gw0 gg), _ := fun g => held_in g.below Q.out.2.2.2.2.2.2.2.2.1
      have q12 : ∀ g : G (gw0 gg), _ := fun g => held_in g.below Q.out.2.2.2.2.2.2.2.2.2.1
      have q13 : ∀ g : G (gw0 gg), _ := fun g => held_in g.below Q.out.2.2.2.2.2.2.2.2.2.2
      rcases eqS_cases y.f1 tw with ⟨h1, h2⟩ | ⟨h1, h2⟩
      · have h3 : (y.f1.toList == tw.toList) = true := by simp [h1]
        have R := Aside0.mk (ret_bool2 (YES.out (by rw [h2]; rfl)).symm)
        clear h1 h2
        go_wp2_with fail
        go_ret
        exact ⟨R.out, g'.below⟩
      have H2 := Aside0.mk h2
      clear h2
      rcases bcases (usedE tw y.f2) with hb | hb
      · have HB := Aside0.mk hb
        clear hb
        go_wp2_with fail
        refine (call_of (g := g') (used_v HB.out A5 c5 g'.W (Kd.C_below K.out.2.1 g'.below) K.out.1)).mono ?_
        rintro _ _ ⟨rfl, gg, rfl⟩
        go_wp2_with fail
        go_ret
        exact ⟨ret_bool2 (YES.out (by rw [H2.out, HB.out]; rfl)).symm, gg.below⟩
      have H3 := Aside0.mk hb
      clear hb
      rcases bcases (usedE tw y.f3) with hb | hb
      · have HB := Aside0.mk hb
        clear hb
        go_wp2_with fail
        refine (call_of (g := g') (used_v H3.out A5 c5 g'.W (Kd.C_below K.out.2.1 g'.below) K.out.1)).mono ?_
        rintro _ _ ⟨rfl, gg, rfl⟩
        go_wp2_with fail
        refine (call_of (g := gg) (used_v HB.out A9 c9 gg.W (Kd.C_below K.out.2.2.2.1 gg.below) K.out.2.2.1)).mono ?_
        rintro _ _ ⟨rfl, gg, rfl⟩
        go_wp2_with fail
        go_ret
        exact ⟨ret_bool2 (YES.out (by rw [H2.out, H3.out, HB.out]; rfl)).symm, gg.below⟩
      have H4 := Aside0.mk hb
      clear hb
      rcases bcases (standTs tw y.f6) with hb | hb
      · have HB := Aside0.mk hb
        clear hb
        go_wp2_with fail
        refine (call_of (g := g') (used_v H3.out A5 c5 g'.W (Kd.C_below K.out.2.1 g'.below) K.out.1)).mono ?_
        rintro _ _ ⟨rfl, gg, rfl⟩
        go_wp2_with fail
        refine (call_of (g := gg) (used_v H4.out A9 c9 gg.W (Kd.C_below K.out.2.2.2.1 gg.below) K.out.2.2.1)).mono ?_
        rintro _ _ ⟨rfl, gg, rfl⟩
        go_wp2_with fail
        refine (call_of (g := gg) (stand_v IH1.out.1 HB.out A12 c12 gg.W (Kd.C_below K.out.2.2.2.2.2.1 gg.below) K.out.2.2.2.2.1)).mono ?_
        rintro _ _ ⟨rfl, gg, rfl⟩
        go_wp2_with fail
        go_ret
        exact ⟨ret_bool2 (YES.out (by rw [H2.out, H3.out, H4.out, HB.out]; rfl)).symm, gg.below⟩
      have H5 := Aside0.mk hb
      clear hb
      rcases bcases (standTs tw y.f7) with hb | hb
      all_goals
        have HB := Aside0.mk hb
        clear hb
        go_wp2_with fail
        refine (call_of (g := g') (used_v H3.out A5 c5 g'.W (Kd.C_below K.out.2.1 g'.below) K.out.1)).mono ?_
        rintro _ _ ⟨rfl, gg, rfl⟩
        go_wp2_with fail
        refine (call_of (g := gg) (used_v H4.out A9 c9 gg.W (Kd.C_below K.out.2.2.2.1 gg.below) K.out.2.2.1)).mono ?_
        rintro _ _ ⟨rfl, gg, rfl⟩
        go_wp2_with fail
        refine (call_of (g := gg) (stand_v IH1.out.1 H5.out A12 c12 gg.W (Kd.C_below K.out.2.2.2.2.2.1 gg.below) K.out.2.2.2.2.1)).mono ?_
        rintro _ _ ⟨rfl, gg, rfl⟩
        go_wp2_with fail
        refine (call_of (g := gg) (stand_v IH1.out.2 HB.out A13 c13 gg.W (Kd.C_below K.out.2.2.2.2.2.2.2 gg.below) K.out.2.2.2.2.2.2.1)).mono ?_
        rintro _ _ ⟨rfl, gg, rfl⟩
        go_wp2_with fail
      · go_ret
        exact ⟨ret_bool2 (YES.out (by rw [H2.out, H3.out, H4.out, H5.out, HB.out]; rfl)).symm, gg.below⟩
      · exact ⟨⟨k + 1, gg, by go_num, rfl, by omega, ⟨NO.out (by rw [H2.out, H3.out, H4.out, H5.out, HB.out]; rfl)⟩⟩, by simp [intOf]; omega⟩
    · go_wp2_with fail
      go_ret
      exact ⟨ret_bool2 (none77 (fun j hj => HK.out j (by omega))).symm, g'.below⟩
theorem stand_size {x : S77} {l : List S77} {n : Nat} (hx : x ∈ l) (h : SizeOf.sizeOf l ≤ n + 1) : SizeOf.sizeOf x.f6 ≤ n ∧ SizeOf.sizeOf x.f7 ≤ n := by
  have := List.sizeOf_lt_of_mem hx
  obtain ⟨k, s, e, f, lo, hi, th, el⟩ := x
  simp at this ⊢
  omega
theorem stands_calls (tw : ByteArray) : ∀ (n : Nat) (l : List S77), SizeOf.sizeOf l ≤ n → StandC tw l := by
  intro n
  induction n with
  | zero => intro l h; cases l <;> simp at h
  | succ n ih => exact fun l h => stands_walk tw l fun x hx => ⟨ih _ (stand_size hx h).1, ih _ (stand_size hx h).2⟩
end Go.Proofs.Ytfcahachdpjfoaa.L
end
