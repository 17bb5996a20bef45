/- Texts joined by a program of mine: Pe Pf Pd Pg. -/
import Derived.Test.YtfigjpehecibeaaGreatZd22
import Derived.Test.YtfigjpehecibeaaGreatZd23
section
namespace Go.Proofs.YtfigjpehecibeaaGreat.L
open Go.RowKit Go.Proofs.YtfigjpehecibeaaGreatW.PrintWords
set_option linter.unusedVariables false
set_option linter.unusedSimpArgs false
theorem mx_words {d : S70} (h : d.f2 = 0 ∨ pow2B d.f2 = true) : mx d.f2 1 = wordsD d ∧ 1 ≤ wordsD d ∧ wordsD d ≤ 256 := by
  have h1 := words_le h
  refine ⟨?_, h1⟩
  unfold mx wordsD
  rcases h with h | h
  · rw [h]; rfl
  · have := pow2_le h
    split <;> split <;> omega
def pubD (d : S70) : List Bool := if d.f0 = 1 ∨ d.f0 = 2 then List.replicate (wordsD d).toNat (d.f0 == 1) else []
def pubs (ds : List S70) : Nat → List Bool
  | 0 => []
  | i + 1 => pubs ds i ++ pubD (rd_T70 ds (i : Int))
def RightDs (ds : List S70) : Prop := ∀ i : Nat, i < ds.length → 1 ≤ (rd_T70 ds (i : Int)).f0 ∧ ((rd_T70 ds (i : Int)).f2 = 0 ∨ pow2B (rd_T70 ds (i : Int)).f2 = true)
theorem pubD_len {d : S70} (h : d.f2 = 0 ∨ pow2B d.f2 = true) : (pubD d).length ≤ 256 := by
  have := (mx_words h).2
  unfold pubD
  split
  · rw [List.length_replicate]; omega
  · simp
theorem pubs_len {ds : List S70} (hr : RightDs ds) : ∀ i, i ≤ ds.length → (pubs ds i).length ≤ 256 * i
  | 0, _ => by simp [pubs]
  | i + 1, h => by
    have := pubs_len hr i (by omega)
    have := pubD_len (hr i (by omega)).2
    rw [pubs, List.length_append]
    omega
theorem wrapS {i : Nat} (h : i ≤ 2000000) : wrap64 ((i : Int) + 1) = ((i + 1 : Nat) : Int) := by unfold wrap64; omega
theorem run_pub {ds : List S70} (hds : ds.length ≤ 1048576) (hr : RightDs ds) : ∀ d i k : Nat, i + d = ds.length → d < k → run_Public.l0 k (pubs ds i) ds (ds.length : Int) (i : Int) = some (pubs ds ds.length, 0) := by
  intro d
  induction d with
  | zero =>
    intro i k hi hk
    obtain ⟨k, rfl⟩ : ∃ a, k = a + 1 := ⟨k - 1, by omega⟩
    have hn : ¬ (i : Int) < (ds.length : Int) := by omega
    have he : i = ds.length := by omega
    rw [run_Public.l0, if_neg hn, he]
  | succ d ih =>
    intro i k hi hk
    obtain ⟨k, rfl⟩ : ∃ a, k = a + 1 := ⟨k - 1, by omega⟩
    have a1 : (i : Int) < (ds.length : Int) := by omega
    have a0 : (0 : Int) ≤ (i : Int) := by omega
    obtain ⟨w1, w2, w3⟩ := mx_words (hr i (by omega)).2
    have hl := pubs_len hr i (by omega)
    rw [run_Public.l0]
    simp only [if_pos a1, if_pos a0, wrapS (show i ≤ 2000000 by omega)]
    have e := ih (i + 1) k (by omega) (by omega)
    rw [pubs, pubD] at e
    have hrep : ∀ b : Bool, slices_Repeat_bool_bool.f [b] (wordsD (rd_T70 ds (i : Int))) = some (List.replicate (wordsD (rd_T70 ds (i : Int))).toNat b) := fun b => by
      show (if 1 ≤ wordsD (rd_T70 ds (i : Int)) ∧ wordsD (rd_T70 ds (i : Int)) ≤ 256 then _ else none) = _
      rw [if_pos ⟨w2, w3⟩]
    have hin : run_input.f (rd_T70 ds (i : Int)).f0 (rd_T70 ds (i : Int)).f1 (rd_T70 ds (i : Int)).f2 (rd_T70 ds (i : Int)).f3 = some (decide ((rd_T70 ds (i : Int)).f0 = 1 ∨ (rd_T70 ds (i : Int)).f0 = 2)) := by
      unfold run_input.f
      by_cases h1 : (rd_T70 ds (i : Int)).f0 = 1
      · simp [h1]
      · rw [if_neg h1]
        congr 1
        by_cases h2 : (rd_T70 ds (i : Int)).f0 = 2 <;> simp [h1, h2]
    rw [hin, Option.bind_some]
    by_cases h : (rd_T70 ds (i : Int)).f0 = 1 ∨ (rd_T70 ds (i : Int)).f0 = 2
    · rw [if_pos h] at e
      rw [decide_eq_true h, if_pos rfl]
      unfold run_words.f
      rw [Option.bind_some, w1, hrep, Option.bind_some, if_pos (by rw [List.length_replicate]; omega)]
      exact e
    · rw [if_neg h, List.append_nil] at e
      rw [decide_eq_false h, if_neg (by decide)]
      exact e
theorem ref_pub1 {ds : List S70} {nm : ByteArray} {wd ln : Int} {bd : List S119} {d : S70} (hd : 1 ≤ d.f0) (h : d.f2 = 0 ∨ pow2B d.f2 = true) (i : Nat) : ∀ (e j k : Nat) (acc : List Bool), ((j + e : Nat) : Int) = wordsD d → acc.length + e ≤ 2000000000 →
    cadenceref17_Public.l1 (k + e + 1) acc (i : Int) (j : Int) nm wd ln ds bd d.f0 d.f1 d.f2 d.f3 = cadenceref17_Public.l0 (k + (if d.f0 ≤ 2 then 0 else e)) (acc ++ if d.f0 ≤ 2 then List.replicate e (d.f0 == 1) else []) (wrap64 ((i : Int) + 1)) nm wd ln ds bd := by
  obtain ⟨w1, w2, w3⟩ := mx_words h
  by_cases h2 : d.f0 ≤ 2
  · simp only [if_pos h2, Nat.add_zero]
    intro e
    induction e with
    | zero =>
      intro j k acc hj hl
      have hn : ¬ (j : Int) < wordsD d := by omega
      rw [cadenceref17_Public.l1]
      unfold cadenceref17_words.f
      rw [Option.bind_some, w1, if_neg hn]
      simp
    | succ e ih =>
      intro j k acc hj hl
      have hp : (j : Int) < wordsD d := by omega
      rw [cadenceref17_Public.l1]
      unfold cadenceref17_words.f
      rw [Option.bind_some, w1, if_pos hp, if_pos h2, if_pos (by omega), wrapS (show j ≤ 2000000 by omega)]
      have := ih (j + 1) k (acc ++ [d.f0 == 1]) (by rw [← hj]; omega) (by rw [List.length_append, List.length_singleton]; omega)
      rw [show k + (e + 1) = k + e + 1 by omega, this, List.append_assoc, List.singleton_append, ← List.replicate_succ]
  · simp only [if_neg h2]
    intro e j k acc hj hl
    rw [cadenceref17_Public.l1]
    unfold cadenceref17_words.f
    rw [Option.bind_some, if_neg h2, ite_self, List.append_nil]
theorem ref_pub {ds : List S70} {nm : ByteArray} {wd ln : Int} {bd : List S119} (hds : ds.length ≤ 1048576) (hr : RightDs ds) : ∀ d i k : Nat, i + d = ds.length → 300 * d < k → cadenceref17_Public.l0 k (pubs ds i) (i : Int) nm wd ln ds bd = some (pubs ds ds.length, 0) := by
  intro d
  induction d with
  | zero =>
    intro i k hi hk
    obtain ⟨k, rfl⟩ : ∃ a, k = a + 1 := ⟨k - 1, by omega⟩
    have hn : ¬ (i : Int) < (ds.length : Int) := by omega
    have he : i = ds.length := by omega
    rw [cadenceref17_Public.l0, if_neg hn, he]
  | succ d ih =>
    intro i k hi hk
    have a1 : (i : Int) < (ds.length : Int) := by omega
    have a0 : (0 : Int) ≤ (i : Int) := by omega
    obtain ⟨h1, h2⟩ := hr i (by omega)
    obtain ⟨w1, w2, w3⟩ := mx_words h2
    have hl := pubs_len hr i (by omega)
    obtain ⟨n, hn⟩ := Int.eq_ofNat_of_zero_le (show 0 ≤ wordsD (rd_T70 ds (i : Int)) by omega)
    obtain ⟨k, rfl⟩ : ∃ a, k = a + n + 1 + 1 := ⟨k - n - 2, by omega⟩
    rw [cadenceref17_Public.l0, if_pos a1, if_pos a0]
    have := ref_pub1 (ds := ds) (nm := nm) (wd := wd) (ln := ln) (bd := bd) h1 h2 i n 0 k (pubs ds i) (by rw [hn]; simp) (by omega)
    rw [show ((0 : Nat) : Int) = 0 from rfl] at this
    rw [this, wrapS (show i ≤ 2000000 by omega)]
    have e := fun kk hk => ih (i + 1) kk (by omega) hk
    rw [pubs, pubD, hn, Int.toNat_natCast] at e
    by_cases h3 : (rd_T70 ds (i : Int)).f0 ≤ 2
    · rw [if_pos h3, if_pos h3]
      rw [if_pos (by omega)] at e
      exact e _ (by omega)
    · rw [if_neg h3, if_neg h3]
      rw [if_neg (by omega)] at e
      exact e _ (by omega)
noncomputable def pubAns (nm : ByteArray) (wd ln : Int) (ds : List S70) (bd : List S119) : List Bool × Int := if (faultS nm wd ln ds bd).e = 0 then (pubs ds ds.length, 0) else ([], (faultS nm wd ln ds bd).e)
theorem public_same {nm : ByteArray} {wd ln : Int} {ds : List S70} {bd : List S119} (hg : PGood nm wd ln ds bd) :
    ∃ k : Nat, run_Public.f k nm wd ln ds bd = some (pubAns nm wd ln ds bd) ∧ cadenceref17_Public.f k nm wd ln ds bd = some (pubAns nm wd ln ds bd) ∧ (pubAns nm wd ln ds bd).1.length ≤ 268435456 := by
  unfold run_Public.f cadenceref17_Public.f cadenceref16_Check.f wf_Check.f pubAns
  simp only [if_pos hg, Option.bind_some]
  by_cases h : (faultS nm wd ln ds bd).e = 0
  · simp only [if_pos h]
    have hs := hg.sizes.1
    have hr : RightDs ds := fun i hi => right_decls h i hi
    refine ⟨300 * ds.length + 1, run_pub hs hr ds.length 0 _ (by omega) (by omega), ref_pub hs hr ds.length 0 _ (by omega) (by omega), ?_⟩
    have := pubs_len hr ds.length (Nat.le_refl _)
    show (pubs ds ds.length).length ≤ _
    omega
  · simp only [if_neg h]
    exact ⟨0, trivial, trivial, by simp⟩
end Go.Proofs.YtfigjpehecibeaaGreat.L
end
section
namespace Go.Proofs.YtfigjpehecibeaaGreat.L
open Go.RowKit Go.Proofs.YtfigjpehecibeaaGreatW.PrintWords Go.Proofs.YtfigjpehecibeaaGreatW.PrintLast Go.Proofs.YtfigjpehecibeaaGreatW.PrintMore Go.Proofs.YtfigjpehecibeaaGreat.Gr
set_option linter.unusedVariables false
set_option linter.unusedSimpArgs false
attribute [local go_sem] G.cell
set_option maxHeartbeats 4000000 in
set_option maxRecDepth 100000 in
theorem runInputs_walk (nm : ByteArray) (wd ln : Int) (ds : List S70) (bd : List S119) (A3 : Option Addr) (c3 : Nat) (A4 : Option Addr) (c4 : Nat) (w : World) (hp : ProgAt w ds bd A3 c3 A4 c4) (hg : PGood nm wd ln ds bd) :
    Calls Tryz.prog 3 #[.agg #[.string nm, .int .i64 wd, .int .i64 ln, .slice A3 ds.length c3, .slice A4 bd.length c4]] w fun e w' => e = .returned (.bool true) ∧ Below w.heap.size w w' := by
  have gout : ∀ {o : Obj} (g : G (w.alloc o)), Below w.heap.size w g.W := fun g => ((Below.refl _ _).alloc (Nat.le_refl _) _).trans (g.below.mono (by simp))
  have PAt := Aside0.mk hp
  have HG := Aside0.mk hg
  obtain ⟨kk, h1, h2, h3⟩ := public_same hg
  obtain ⟨⟨l, er⟩, hle⟩ : ∃ r, r = pubAns nm wd ln ds bd := ⟨_, rfl⟩
  rw [← hle] at h1 h2 h3
  have HP := Aside0.mk (And.intro h1 (And.intro h2 h3))
  have HL1 := Aside0.mk (show run_Length.f kk nm wd ln ds bd = some ((l.length : Int), er) from by unfold run_Length.f; rw [h1]; rfl)
  have HL2 := Aside0.mk (show cadenceref17_Length.f kk nm wd ln ds bd = some ((l.length : Int), er) from by unfold cadenceref17_Length.f; rw [h2]; rfl)
  clear hp hg h1 h2 h3 hle
  go_enter Tryz.func3, Tryz.ntmps3
  go_upto_region 1 with (fail)
  refine wp_grown0 ?_
  intro gg
  go_wp2_with fail
  refine (own_calls nm wd ln ds bd A3 c3 A4 c4 gg.W (PAt.out.below (gout gg)) HG.out).mono ?_
  rintro _ w9 ⟨A31, c31, A41, c41, rfl, hp9, hb⟩
  obtain ⟨gg, rfl⟩ : ∃ g' : G _, w9 = g'.W := ⟨mkG (gg.below.trans (hb.mono gg.below.size)), rfl⟩
  have P1 := Aside0.mk hp9
  clear hp9 hb
  go_wp2_with fail
  refine (call_of (g := gg) (run_Length.calls kk nm wd ln A31 c31 ds A41 c41 bd (l.length : Int) er gg.W P1.out.hd P1.out.hld P1.out.hb P1.out.hlb HL1.out)).mono ?_
  rintro _ _ ⟨rfl, gg, rfl⟩
  go_wp2_with fail
  refine (own_calls nm wd ln ds bd A3 c3 A4 c4 gg.W (PAt.out.below (gout gg)) HG.out).mono ?_
  rintro _ w9 ⟨A32, c32, A42, c42, rfl, hp9, hb⟩
  obtain ⟨gg, rfl⟩ : ∃ g' : G _, w9 = g'.W := ⟨mkG (gg.below.trans (hb.mono gg.below.size)), rfl⟩
  have P2 := Aside0.mk hp9
  clear hp9 hb
  go_wp2_with fail
  refine (run_Public.calls kk nm wd ln A32 c32 ds A42 c42 bd l er gg.W P2.out.hd P2.out.hld P2.out.hb P2.out.hlb HP.out.1).mono ?_
  rintro _ w9 ⟨v9, rfl, hR, hb⟩
  obtain ⟨Al, cl, rfl, ll, gl⟩ := Kd.R_reads hR
  obtain ⟨g1, rfl⟩ : ∃ g' : G _, w9 = g'.W := ⟨mkG (gg.below.trans (hb.mono gg.below.size)), rfl⟩
  have L1 := Aside0.mk (And.intro gl ll)
  clear hR hb gl ll
  go_wp2_with fail
  refine (cadenceref17_Length.calls kk nm wd ln A3 c3 ds A4 c4 bd (l.length : Int) er g1.W (PAt.out.below (gout g1)).hd (PAt.out.below (gout g1)).hld (PAt.out.below (gout g1)).hb (PAt.out.below (gout g1)).hlb HL2.out).mono ?_
  rintro _ w9 ⟨rfl, hb⟩
  have L2 := Aside0.mk (And.intro (Kd.C_below L1.out.1 hb) (g1.below.trans (hb.mono g1.below.size)))
  clear hb
  obtain ⟨g2, rfl⟩ : ∃ g' : G _, w9 = g'.W := ⟨mkG L2.out.2, rfl⟩
  go_wp2_with fail
  refine (cadenceref17_Public.calls kk nm wd ln A3 c3 ds A4 c4 bd l er g2.W (PAt.out.below (gout g2)).hd (PAt.out.below (gout g2)).hld (PAt.out.below (gout g2)).hb (PAt.out.below (gout g2)).hlb HP.out.2.1).mono ?_
  rintro _ wE ⟨v9, rfl, hR, hb⟩
  obtain ⟨Ak, ck, rfl, lk, gk⟩ := Kd.R_reads hR
  have L3 := Aside0.mk (And.intro (Kd.C_below L2.out.1 hb) (And.intro gk (And.intro (show Below w.heap.size w wE from (gout g2).trans (hb.mono (gout g2).size)) HP.out.2.2)))
  clear hR hb gk lk
  go_wp2_with fail
  go_loopw [11] (fun i W => ∃ k : Nat, i = .int .i64 k ∧ k ≤ l.length ∧ Aside0 (Below wE.heap.size wE W)) (fun i _ => l.length - (intOf i).toNat)
  case atStart => exact ⟨0, rfl, Nat.zero_le _, ⟨Below.refl _ _⟩⟩
  case round =>
    obtain ⟨k, rfl, hk, HB⟩ := hrel
    by_cases hlt : k < l.length
    · have hi1 : (k : Int) < (l.length : Int) := by omega
      obtain ⟨ad1, cc1, e1, _, hK1, hc1⟩ := Kd.C_get L3.out.1 false (k : Int) (by omega) (by omega)
      cases e1
      obtain ⟨ad2, cc2, e2, _, hK2, hc2⟩ := Kd.C_get L3.out.2.1 false (k : Int) (by omega) (by omega)
      cases e2
      have q1 : wr.cell? (ad1.add k) = some (.bool (l.getD k false)) := held_in HB.out (by have h := hc1 0 _ (by rw [hK1]; rfl); rw [show Kd.bool.sz = 1 from rfl, Nat.mul_one, Nat.add_zero, Int.toNat_natCast] at h; exact h)
      have q2 : wr.cell? (ad2.add k) = some (.bool (l.getD k false)) := held_in HB.out (by have h := hc2 0 _ (by rw [hK2]; rfl); rw [show Kd.bool.sz = 1 from rfl, Nat.mul_one, Nat.add_zero, Int.toNat_natCast] at h; exact h)
      clear hK1 hK2 hc1 hc2
      generalize l.getD k false = b at q1 q2
      have hm := L3.out.2.2.2
      go_wp2_with fail
      go_region
      go_wp2_with fail
      refine ⟨⟨k + 1, by go_num, by omega, ⟨HB.out.drew⟩⟩, by simp [intOf]; omega⟩
    · have hge : ¬ (k : Int) < (l.length : Int) := by omega
      go_wp2_with fail
      go_ret
      exact ⟨rfl, L3.out.2.2.1.trans (HB.out.mono L3.out.2.2.1.size)⟩
theorem runInputs_law (v0 : Value) (x0 : Ot.Prog) (w : World) (s0 : ∃ cs, v0 = .agg cs ∧ cs.size = Tryz.prog.cellsOf 25) (k0 : Ot.opensP_K w x0 v0.cells.toList) (g0 : Ot.opensP_good x0) {m0 : Nat} (b0 : Ot.opensP_bulk x0 ≤ m0) (up : m0 ≤ 1048576) :
    Calls Tryz.prog 3 #[v0] w fun e w' => e = .returned (.bool true) ∧ Below w.heap.size w w' := by
  obtain ⟨A3, c3, A4, c4, rfl, l3, g3, l4, g4⟩ := Ot.prog_of_K (s0.imp fun _ h => h.1) k0
  exact runInputs_walk x0.nm x0.wd x0.ln x0.ds x0.bd A3 c3 A4 c4 w ⟨g3, l3, g4, l4⟩ ⟨g0, Nat.le_trans b0 up⟩
end Go.Proofs.YtfigjpehecibeaaGreat.L
end
section
namespace Go.Proofs.YtfigjpehecibeaaGreat.L
open Go.RowKit Go.Proofs.YtfigjpehecibeaaGreatW.PrintWords Go.Proofs.YtfigjpehecibeaaGreatW.PrintLast Go.Proofs.YtfigjpehecibeaaGreatW.PrintMore
attribute [local go_sem] max2_int min2_int max_two min_two max_three min_three max_four min_four
set_option linter.unusedVariables false
set_option linter.unusedSimpArgs false
def brute_Bits.l0 : Nat → Int → Int → List Bool → Int → Int → ByteArray → Int → Int → List (S70) → List (S119) → Option (Int × Int × Int)
  | 0, _, _, _, _, _, _, _, _, _, _ => none
  | k + 1, x7, x8, x19, x20, x21, x150000, x150001, x150002, x150003, x150004 => if x21 < x20 then (if 0 ≤ x21 then (if x21 < (x19.length : Int) then (if rdOf false x19 x21 = true then (brute_Bits.l0 k (wrap64 (x7 + x150001)) x8 x19 x20 (wrap64 (x21 + 1)) x150000 x150001 x150002 x150003 x150004) else (brute_Bits.l0 k x7 (wrap64 (x8 + x150001)) x19 x20 (wrap64 (x21 + 1)) x150000 x150001 x150002 x150003 x150004)) else (none)) else (none)) else (some (x7, x8, 0))
noncomputable def brute_Bits.f (k : Nat) (a0_0 : ByteArray) (a0_1 : Int) (a0_2 : Int) (l0_3 : List (S70)) (l0_4 : List (S119)) : Option (Int × Int × Int) := (run_Public.f k a0_0 a0_1 a0_2 l0_3 l0_4).bind fun bt150 => (if bt150.2 = 0 then (brute_Bits.l0 k 0 0 bt150.1 (bt150.1.length : Int) 0 a0_0 a0_1 a0_2 l0_3 l0_4) else (some (0, 0, bt150.2)))
theorem brute_Bits.mono_l : ∀ k, (∀ y0 y1 y2 y3 y4 y5 y6 y7 y8 y9, LeO (brute_Bits.l0 k y0 y1 y2 y3 y4 y5 y6 y7 y8 y9) (brute_Bits.l0 (k + 1) y0 y1 y2 y3 y4 y5 y6 y7 y8 y9))
  | 0 => fun _ _ _ _ _ _ _ _ _ _ r h => by simp [brute_Bits.l0] at h
  | k + 1 => by
    have ih0 := brute_Bits.mono_l k
    · intro y0 y1 y2 y3 y4 y5 y6 y7 y8 y9
      unfold brute_Bits.l0
      repeat' first
      | (with_reducible exact ih0 _ _ _ _ _ _ _ _ _ _)
      | (with_reducible exact run_Public.mono _ _ _ _ _ _)
      | (with_reducible exact LeO.refl _)
      | (with_reducible exact LeO.none _)
      | (with_reducible refine LeO.ite ?_ ?_)
      | (with_reducible refine LeO.bind ?_ (fun _ => ?_))
      | exact ih0 _ _ _ _ _ _ _ _ _ _
      | exact run_Public.mono _ _ _ _ _ _
      | exact LeO.none _
      | refine LeO.ite ?_ ?_
      | refine LeO.bind ?_ (fun _ => ?_)
theorem brute_Bits.mono : ∀ a0 a1 a2 a3 a4 k, LeO (brute_Bits.f k a0 a1 a2 a3 a4) (brute_Bits.f (k + 1) a0 a1 a2 a3 a4) := by
  intro a0 a1 a2 a3 a4 k
  have ih0 := brute_Bits.mono_l k
  unfold brute_Bits.f
  repeat' first
      | (with_reducible exact ih0 _ _ _ _ _ _ _ _ _ _)
      | (with_reducible exact run_Public.mono _ _ _ _ _ _)
      | (with_reducible exact LeO.refl _)
      | (with_reducible exact LeO.none _)
      | (with_reducible refine LeO.ite ?_ ?_)
      | (with_reducible refine LeO.bind ?_ (fun _ => ?_))
      | exact ih0 _ _ _ _ _ _ _ _ _ _
      | exact run_Public.mono _ _ _ _ _ _
      | exact LeO.none _
      | refine LeO.ite ?_ ?_
      | refine LeO.bind ?_ (fun _ => ?_)
set_option maxHeartbeats 8000000 in
set_option maxRecDepth 100000 in
theorem brute_Bits.calls (k : Nat) (a0_0 : ByteArray) (a0_1 : Int) (a0_2 : Int) (A0_3 : Option Addr) (c0_3 : Nat) (l0_3 : List (S70)) (A0_4 : Option Addr) (c0_4 : Nat) (l0_4 : List (S119)) (r1 : Int) (r2 : Int) (r3 : Int) (w : World) (hr0_3 : Kd.C k70 w A0_3 l0_3.length l0_3) (hc0_3 : l0_3.length ≤ c0_3) (hr0_4 : Kd.C k119 w A0_4 l0_4.length l0_4) (hc0_4 : l0_4.length ≤ c0_4) (h : brute_Bits.f k a0_0 a0_1 a0_2 l0_3 l0_4 = some (r1, r2, r3)) :
    Calls Tryz.prog 20 #[.agg #[.string a0_0, .int .i64 a0_1, .int .i64 a0_2, .slice A0_3 l0_3.length c0_3, .slice A0_4 l0_4.length c0_4]] w fun e w' => e = .returned (.tuple #[.int .i64 r1, .int .i64 r2, .int .i64 r3]) ∧ Below w.heap.size w w' := by
  have hu25 := Tryz.underlying25
  have HR0_3 := Aside0.mk hr0_3
  have HC0_3 := Aside0.mk hc0_3
  clear hr0_3 hc0_3
  have HR0_4 := Aside0.mk hr0_4
  have HC0_4 := Aside0.mk hc0_4
  clear hr0_4 hc0_4
  have HB := Aside0.mk (Below.refl w.heap.size w)
  have H : ((run_Public.f k a0_0 a0_1 a0_2 l0_3 l0_4).bind fun bt150 => (if bt150.2 = 0 then (brute_Bits.l0 k 0 0 bt150.1 (bt150.1.length : Int) 0 a0_0 a0_1 a0_2 l0_3 l0_4) else (some (0, 0, bt150.2)))) = some (r1, r2, r3) := h
  clear h
  replace H := Option.bind_eq_some_iff.mp H
  obtain ⟨⟨t150, t153⟩, A20, H⟩ := H
  replace H : (if t153 = 0 then (brute_Bits.l0 k 0 0 t150 (t150.length : Int) 0 a0_0 a0_1 a0_2 l0_3 l0_4) else (some (0, 0, t153))) = some (r1, r2, r3) := H
  have A2 := Aside0.mk A20
  clear A20
  by_cases c3 : t153 = 0
  · rw [if_pos c3] at H
    have c3b0 : (t153 == 0) = true := beq_iff_eq.mpr c3
    have c3b1 : (t153 != 0) = false := bne_eq_false_iff_eq.mpr c3
    clear c3
    have H' := Aside0.mk H
    clear H
    go_enter Tryz.func20, Tryz.ntmps20
    go_wp2_with (first | ((with_reducible refine gate_dst (N := 1) rfl ?_); refine box_event ?hg (N := 1) ?hd (cs := #[.string a0_0, .int .i64 a0_1, .int .i64 a0_2, .slice A0_3 l0_3.length c0_3, .slice A0_4 l0_4.length c0_4]) (t := 25) ?hr ?_; (case hd => rfl); (case hg => rfl); (case hr => first | (go_simp; done) | (go_simp; rfl)); intro gb149 hg w4 hbox hb; have n0_ := Aside0.mk (below_step (by repeat (first | (with_reducible first | exact HB.out | apply below_alloc | apply pw_below_drewN | apply below_drew1) | exact HB.out)) hb); have n1_ := Aside0.mk (hbox); have n2_ := Aside0.mk ((by rw [hg]; exact (below_size (by repeat (first | (with_reducible first | exact HB.out | apply below_alloc | apply pw_below_drewN | apply below_drew1) | exact HB.out))) : w.heap.size ≤ gb149)); have n3_ := Aside0.mk ((by rw [hg]; exact (below_size (by repeat (first | (with_reducible first | exact HB.out | apply below_alloc | apply pw_below_drewN | apply below_drew1) | exact HB.out))) : w.heap.size ≤ gb149)); clear HB; have HB := n0_; have BK149 := n1_; have GW149 := n2_; have GE149 := n3_; clear n0_ n1_ n2_ n3_; clear hb hbox hg; have hcz5_0 : w4.cell? ⟨gb149, 0, none⟩ = some (.string a0_0) := (blk_cell BK149.out 0).trans rfl; have hcz5_1 : w4.cell? ⟨gb149, 1, none⟩ = some (.int .i64 a0_1) := (blk_cell BK149.out 1).trans rfl; have hcz5_2 : w4.cell? ⟨gb149, 2, none⟩ = some (.int .i64 a0_2) := (blk_cell BK149.out 2).trans rfl; have hcz5_3 : w4.cell? ⟨gb149, 3, none⟩ = some (.slice A0_3 l0_3.length c0_3) := (blk_cell BK149.out 3).trans rfl; have hcz5_4 : w4.cell? ⟨gb149, 4, none⟩ = some (.slice A0_4 l0_4.length c0_4) := (blk_cell BK149.out 4).trans rfl; have hfz5_0 := blk_frozen BK149.out 0; have hfz5_1 := blk_frozen BK149.out 1; have hfz5_2 := blk_frozen BK149.out 2; have hfz5_3 := blk_frozen BK149.out 3; have hfz5_4 := blk_frozen BK149.out 4) | ((with_reducible refine gate_callee (f := 17) rfl ?_); refine goesL_ (some 13) rfl rfl Tryz.func17 (by kernel_rfl) rfl #[.agg #[.string a0_0, .int .i64 a0_1, .int .i64 a0_2, .slice A0_3 l0_3.length c0_3, .slice A0_4 l0_4.length c0_4]] rfl (by (try simp only [List.map_toArray, List.map_cons, List.map_nil]); first | done | rfl | (simp only [List.length_drop, List.length_take]; rfl)) ?_; (with_reducible refine (run_Public.calls k a0_0 a0_1 a0_2 _ _ l0_3 _ _ l0_4 t150 t153 _ ?side1 ?side2 ?side3 ?side4 A2.out).mono ?_); (case side1 => repeat (first | exact (Kd.C_below HR0_3.out HB.out) | (with_reducible refine Kd.C_alloc ?_ _) | (with_reducible refine Kd.C_drewN ?_ _) | (with_reducible refine Kd.C_drew ?_))); (case side2 => exact HC0_3.out); (case side3 => repeat (first | exact (Kd.C_below HR0_4.out HB.out) | (with_reducible refine Kd.C_alloc ?_ _) | (with_reducible refine Kd.C_drewN ?_ _) | (with_reducible refine Kd.C_drew ?_))); (case side4 => exact HC0_4.out); rintro e w6 ⟨v151, rfl, ho0, hb⟩; refine ⟨_, rfl, ?_⟩; have n0_ := Aside0.mk (Kd.R_lower ho0 (below_size (by repeat (first | (with_reducible first | exact HB.out | apply below_alloc | apply pw_below_drewN | apply below_drew1 | refine below_set ?_ GE149.out) | exact HB.out)))); have n1_ := Aside0.mk (blk_below (g := gb149) (o := .cells #[.string a0_0, .int .i64 a0_1, .int .i64 a0_2, .slice A0_3 l0_3.length c0_3, .slice A0_4 l0_4.length c0_4] 25 (0, 0)) (by (with_reducible repeat (first | refine blk_drewN ?_ _ | refine blk_drew ?_ | refine blk_alloc ?_ _)); exact BK149.out) hb); have n2_ := Aside0.mk (below_step (by repeat (first | (with_reducible first | exact HB.out | apply below_alloc | apply pw_below_drewN | apply below_drew1 | refine below_set ?_ GE149.out) | exact HB.out)) hb); clear BK149; clear HB; have HO152 := n0_; have BK149 := n1_; have HB := n2_; clear n0_ n1_ n2_; (try clear hb); (try clear hb2); (try clear hk); (try clear hi); (try clear ho0); obtain ⟨Ao7, co7, eo7⟩ := Kd.R_slice HO152.out; subst eo7))
    go_loopg [7, 8, 21] k (fun kq v7 v8 v21 w' => ∃ (x7_1 : Int) (x8_1 : Int) (x21_1 : Int), v7 = .int .i64 x7_1 ∧ v8 = .int .i64 x8_1 ∧ v21 = .int .i64 x21_1 ∧ Aside0 (brute_Bits.l0 kq x7_1 x8_1 t150 (t150.length : Int) x21_1 a0_0 a0_1 a0_2 l0_3 l0_4 = some (r1, r2, r3)) ∧ Aside0 (kq ≤ k) ∧ Aside0 (Kd.R Kd.bool 4 w' w.heap.size (fun _ => True) (.slice Ao7 t150.length co7) t150) ∧ Aside0 (w'.heap[gb149]? = some (.cells #[.string a0_0, .int .i64 a0_1, .int .i64 a0_2, (.slice A0_3 l0_3.length c0_3), (.slice A0_4 l0_4.length c0_4)] 25 (0, 0))) ∧ Aside0 (Below w.heap.size w w'))
    case atStart => exact ⟨(0), (0), (0), (by first | rfl | (simp; done) | (simp [*]; done)), (by first | rfl | (simp; done) | (simp [*]; done)), (by first | rfl | (simp; done) | (simp [*]; done)), H', ⟨Nat.le_refl _⟩, ⟨by (with_reducible repeat (first | apply Kd.R_alloc | apply Kd.R_drewN | apply Kd.R_drew)); exact HO152.out⟩, ⟨by (with_reducible repeat (first | refine blk_drewN ?_ _ | refine blk_drew ?_ | refine blk_alloc ?_ _)); exact BK149.out⟩, ⟨by repeat (first | (with_reducible first | exact HB.out | apply below_alloc | apply pw_below_drewN | apply below_drew1 | refine below_set ?_ GE149.out) | exact HB.out)⟩⟩
    case round =>
      clear H'
      try clear c1
      try clear c2
      try clear p2
      try clear c3
      try clear c3b0
      try clear c3b1
      try clear hcz5_0
      try clear hcz5_1
      try clear hcz5_2
      try clear hcz5_3
      try clear hcz5_4
      try clear hfz5_0
      try clear hfz5_1
      try clear hfz5_2
      try clear hfz5_3
      try clear hfz5_4
      obtain ⟨x7_1, x8_1, x21_1, rfl, rfl, rfl, HA, HK1, HO_19, BK149, HB⟩ := hrel
      cases gk with
      | zero => exact absurd HA.out (by simp [brute_Bits.l0])
      | succ k1 =>
        have H := HA.out
        clear HA
        simp only [brute_Bits.l0] at H
        by_cases c8 : x21_1 < (t150.length : Int)
        · rw [if_pos c8] at H
          have c8b0 : decide (x21_1 < (t150.length : Int)) = true := decide_eq_true c8
          clear c8
          by_cases c9 : 0 ≤ x21_1
          · rw [if_pos c9] at H
            have c9b0 : decide (0 ≤ x21_1) = true := decide_eq_true c9
            clear c9
            by_cases c10 : x21_1 < (t150.length : Int)
            · rw [if_pos c10] at H
              have c10b0 : decide (x21_1 < (t150.length : Int)) = true := decide_eq_true c10
              clear c10
              obtain ⟨bq11, hbq11⟩ : ∃ b_ : Bool, b_ = (rdOf false t150 x21_1) := ⟨_, rfl⟩
              replace H : (if bq11 = true then (brute_Bits.l0 k1 (wrap64 (x7_1 + a0_1)) x8_1 t150 (t150.length : Int) (wrap64 (x21_1 + 1)) a0_0 a0_1 a0_2 l0_3 l0_4) else (brute_Bits.l0 k1 x7_1 (wrap64 (x8_1 + a0_1)) t150 (t150.length : Int) (wrap64 (x21_1 + 1)) a0_0 a0_1 a0_2 l0_3 l0_4)) = some (r1, r2, r3) := by rw [← hbq11] at H; exact H
              have Nbq11 := Aside0.mk hbq11
              clear hbq11
              by_cases c12 : bq11 = true
              · subst c12
                have H1 : (brute_Bits.l0 k1 (wrap64 (x7_1 + a0_1)) x8_1 t150 (t150.length : Int) (wrap64 (x21_1 + 1)) a0_0 a0_1 a0_2 l0_3 l0_4) = some (r1, r2, r3) := by rw [if_pos rfl] at H; exact H
                clear H
                have H := H1
                clear H1
                have H' := Aside0.mk H
                clear H
                have p154 : 0 ≤ (x21_1 : Int) := of_decide_eq_true (by first | (with_reducible assumption) | assumption)
                have q154 : x21_1 < (t150.length : Int) := of_decide_eq_true (by first | (with_reducible assumption) | assumption)
                obtain ⟨ad154, e154, hx154_0⟩ := Kd.at_bool (Kd.R_reads' HO_19.out).2.2 x21_1 p154 q154
                (try rw [← Nbq11.out] at hx154_0)
                cases e154
                replace p154 := eq_true p154
                replace q154 := eq_true q154
                have hcz13_0 : wr.cell? ⟨gb149, 0, none⟩ = some (.string a0_0) := (blk_cell BK149.out 0).trans rfl
                have hcz13_1 : wr.cell? ⟨gb149, 1, none⟩ = some (.int .i64 a0_1) := (blk_cell BK149.out 1).trans rfl
                have hcz13_2 : wr.cell? ⟨gb149, 2, none⟩ = some (.int .i64 a0_2) := (blk_cell BK149.out 2).trans rfl
                have hcz13_3 : wr.cell? ⟨gb149, 3, none⟩ = some (.slice A0_3 l0_3.length c0_3) := (blk_cell BK149.out 3).trans rfl
                have hcz13_4 : wr.cell? ⟨gb149, 4, none⟩ = some (.slice A0_4 l0_4.length c0_4) := (blk_cell BK149.out 4).trans rfl
                have hfz13_0 := blk_frozen BK149.out 0
                have hfz13_1 := blk_frozen BK149.out 1
                have hfz13_2 := blk_frozen BK149.out 2
                have hfz13_3 := blk_frozen BK149.out 3
                have hfz13_4 := blk_frozen BK149.out 4
                go_wp2
                go_roundg k1
                case measure => have := HK1.out; omega
                case rel => exact ⟨(wrap64 (x7_1 + a0_1)), (x8_1), (wrap64 (x21_1 + 1)), (by first | rfl | (simp; done) | (simp [*]; done)), (by first | rfl | (simp; done) | (simp [*]; done)), (by first | rfl | (simp; done) | (simp [*]; done)), H', ⟨by have := HK1.out; omega⟩, ⟨by (with_reducible repeat (first | apply Kd.R_alloc | apply Kd.R_drewN | apply Kd.R_drew)); exact HO_19.out⟩, ⟨by (with_reducible repeat (first | refine blk_drewN ?_ _ | refine blk_drew ?_ | refine blk_alloc ?_ _)); exact BK149.out⟩, ⟨by repeat (first | (with_reducible first | exact HB.out | apply below_alloc | apply pw_below_drewN | apply below_drew1 | refine below_set ?_ GE149.out) | exact HB.out)⟩⟩
              · replace c12 := Bool.eq_false_iff.mpr c12
                subst c12
                have H1 : (brute_Bits.l0 k1 x7_1 (wrap64 (x8_1 + a0_1)) t150 (t150.length : Int) (wrap64 (x21_1 + 1)) a0_0 a0_1 a0_2 l0_3 l0_4) = some (r1, r2, r3) := by rw [if_neg (show ¬ (false = true) by decide)] at H; exact H
                clear H
                have H := H1
                clear H1
                have H' := Aside0.mk H
                clear H
                have p154 : 0 ≤ (x21_1 : Int) := of_decide_eq_true (by first | (with_reducible assumption) | assumption)
                have q154 : x21_1 < (t150.length : Int) := of_decide_eq_true (by first | (with_reducible assumption) | assumption)
                obtain ⟨ad154, e154, hx154_0⟩ := Kd.at_bool (Kd.R_reads' HO_19.out).2.2 x21_1 p154 q154
                (try rw [← Nbq11.out] at hx154_0)
                cases e154
                replace p154 := eq_true p154
                replace q154 := eq_true q154
                have hcz14_0 : wr.cell? ⟨gb149, 0, none⟩ = some (.string a0_0) := (blk_cell BK149.out 0).trans rfl
                have hcz14_1 : wr.cell? ⟨gb149, 1, none⟩ = some (.int .i64 a0_1) := (blk_cell BK149.out 1).trans rfl
                have hcz14_2 : wr.cell? ⟨gb149, 2, none⟩ = some (.int .i64 a0_2) := (blk_cell BK149.out 2).trans rfl
                have hcz14_3 : wr.cell? ⟨gb149, 3, none⟩ = some (.slice A0_3 l0_3.length c0_3) := (blk_cell BK149.out 3).trans rfl
                have hcz14_4 : wr.cell? ⟨gb149, 4, none⟩ = some (.slice A0_4 l0_4.length c0_4) := (blk_cell BK149.out 4).trans rfl
                have hfz14_0 := blk_frozen BK149.out 0
                have hfz14_1 := blk_frozen BK149.out 1
                have hfz14_2 := blk_frozen BK149.out 2
                have hfz14_3 := blk_frozen BK149.out 3
                have hfz14_4 := blk_frozen BK149.out 4
                go_wp2
                go_roundg k1
                case measure => have := HK1.out; omega
                case rel => exact ⟨(x7_1), (wrap64 (x8_1 + a0_1)), (wrap64 (x21_1 + 1)), (by first | rfl | (simp; done) | (simp [*]; done)), (by first | rfl | (simp; done) | (simp [*]; done)), (by first | rfl | (simp; done) | (simp [*]; done)), H', ⟨by have := HK1.out; omega⟩, ⟨by (with_reducible repeat (first | apply Kd.R_alloc | apply Kd.R_drewN | apply Kd.R_drew)); exact HO_19.out⟩, ⟨by (with_reducible repeat (first | refine blk_drewN ?_ _ | refine blk_drew ?_ | refine blk_alloc ?_ _)); exact BK149.out⟩, ⟨by repeat (first | (with_reducible first | exact HB.out | apply below_alloc | apply pw_below_drewN | apply below_drew1 | refine below_set ?_ GE149.out) | exact HB.out)⟩⟩
            · rw [if_neg c10] at H
              exact absurd H (by simp)
          · rw [if_neg c9] at H
            exact absurd H (by simp)
        · rw [if_neg c8] at H
          have c8b0 : decide (x21_1 < (t150.length : Int)) = false := decide_eq_false c8
          clear c8
          simp only [Option.some.injEq, Prod.mk.injEq] at H
          obtain ⟨rfl, rfl, rfl⟩ := H
          go_wp2
          go_ret3
          exact ⟨by first | rfl | (simp [errW_none, errW_some] <;> rfl) | (simp [*, errW_none, errW_some] <;> rfl), by repeat (first | (with_reducible first | exact HB.out | apply below_alloc | apply pw_below_drewN | apply below_drew1 | refine below_set ?_ GE149.out) | exact HB.out)⟩
  · rw [if_neg c3] at H
    have c3b0 : (t153 == 0) = false := beq_eq_false_iff_ne.mpr c3
    have c3b1 : (t153 != 0) = true := bne_iff_ne.mpr c3
    simp only [Option.some.injEq, Prod.mk.injEq] at H
    obtain ⟨rfl, rfl, rfl⟩ := H
    go_enter Tryz.func20, Tryz.ntmps20
    go_wp2_with (first | ((with_reducible refine gate_dst (N := 1) rfl ?_); refine box_event ?hg (N := 1) ?hd (cs := #[.string a0_0, .int .i64 a0_1, .int .i64 a0_2, .slice A0_3 l0_3.length c0_3, .slice A0_4 l0_4.length c0_4]) (t := 25) ?hr ?_; (case hd => rfl); (case hg => rfl); (case hr => first | (go_simp; done) | (go_simp; rfl)); intro gb149 hg w15 hbox hb; have n0_ := Aside0.mk (below_step (by repeat (first | (with_reducible first | exact HB.out | apply below_alloc | apply pw_below_drewN | apply below_drew1) | exact HB.out)) hb); have n1_ := Aside0.mk (hbox); have n2_ := Aside0.mk ((by rw [hg]; exact (below_size (by repeat (first | (with_reducible first | exact HB.out | apply below_alloc | apply pw_below_drewN | apply below_drew1) | exact HB.out))) : w.heap.size ≤ gb149)); have n3_ := Aside0.mk ((by rw [hg]; exact (below_size (by repeat (first | (with_reducible first | exact HB.out | apply below_alloc | apply pw_below_drewN | apply below_drew1) | exact HB.out))) : w.heap.size ≤ gb149)); clear HB; have HB := n0_; have BK149 := n1_; have GW149 := n2_; have GE149 := n3_; clear n0_ n1_ n2_ n3_; clear hb hbox hg; have hcz16_0 : w15.cell? ⟨gb149, 0, none⟩ = some (.string a0_0) := (blk_cell BK149.out 0).trans rfl; have hcz16_1 : w15.cell? ⟨gb149, 1, none⟩ = some (.int .i64 a0_1) := (blk_cell BK149.out 1).trans rfl; have hcz16_2 : w15.cell? ⟨gb149, 2, none⟩ = some (.int .i64 a0_2) := (blk_cell BK149.out 2).trans rfl; have hcz16_3 : w15.cell? ⟨gb149, 3, none⟩ = some (.slice A0_3 l0_3.length c0_3) := (blk_cell BK149.out 3).trans rfl; have hcz16_4 : w15.cell? ⟨gb149, 4, none⟩ = some (.slice A0_4 l0_4.length c0_4) := (blk_cell BK149.out 4).trans rfl; have hfz16_0 := blk_frozen BK149.out 0; have hfz16_1 := blk_frozen BK149.out 1; have hfz16_2 := blk_frozen BK149.out 2; have hfz16_3 := blk_frozen BK149.out 3; have hfz16_4 := blk_frozen BK149.out 4) | ((with_reducible refine gate_callee (f := 17) rfl ?_); refine goesL_ (some 13) rfl rfl Tryz.func17 (by kernel_rfl) rfl #[.agg #[.string a0_0, .int .i64 a0_1, .int .i64 a0_2, .slice A0_3 l0_3.length c0_3, .slice A0_4 l0_4.length c0_4]] rfl (by (try simp only [List.map_toArray, List.map_cons, List.map_nil]); first | done | rfl | (simp only [List.length_drop, List.length_take]; rfl)) ?_; (with_reducible refine (run_Public.calls k a0_0 a0_1 a0_2 _ _ l0_3 _ _ l0_4 t150 t153 _ ?side1 ?side2 ?side3 ?side4 A2.out).mono ?_); (case side1 => repeat (first | exact (Kd.C_below HR0_3.out HB.out) | (with_reducible refine Kd.C_alloc ?_ _) | (with_reducible refine Kd.C_drewN ?_ _) | (with_reducible refine Kd.C_drew ?_))); (case side2 => exact HC0_3.out); (case side3 => repeat (first | exact (Kd.C_below HR0_4.out HB.out) | (with_reducible refine Kd.C_alloc ?_ _) | (with_reducible refine Kd.C_drewN ?_ _) | (with_reducible refine Kd.C_drew ?_))); (case side4 => exact HC0_4.out); rintro e w17 ⟨v151, rfl, ho0, hb⟩; refine ⟨_, rfl, ?_⟩; have n0_ := Aside0.mk (Kd.R_lower ho0 (below_size (by repeat (first | (with_reducible first | exact HB.out | apply below_alloc | apply pw_below_drewN | apply below_drew1 | refine below_set ?_ GE149.out) | exact HB.out)))); have n1_ := Aside0.mk (blk_below (g := gb149) (o := .cells #[.string a0_0, .int .i64 a0_1, .int .i64 a0_2, .slice A0_3 l0_3.length c0_3, .slice A0_4 l0_4.length c0_4] 25 (0, 0)) (by (with_reducible repeat (first | refine blk_drewN ?_ _ | refine blk_drew ?_ | refine blk_alloc ?_ _)); exact BK149.out) hb); have n2_ := Aside0.mk (below_step (by repeat (first | (with_reducible first | exact HB.out | apply below_alloc | apply pw_below_drewN | apply below_drew1 | refine below_set ?_ GE149.out) | exact HB.out)) hb); clear BK149; clear HB; have HO152 := n0_; have BK149 := n1_; have HB := n2_; clear n0_ n1_ n2_; (try clear hb); (try clear hb2); (try clear hk); (try clear hi); (try clear ho0)))
    go_ret3
    exact ⟨by first | rfl | (simp [errW_none, errW_some] <;> rfl) | (simp [*, errW_none, errW_some] <;> rfl), by repeat (first | (with_reducible first | exact HB.out | apply below_alloc | apply pw_below_drewN | apply below_drew1 | refine below_set ?_ GE149.out) | exact HB.out)⟩
def cadenceref29_Bits.l0 : Nat → List Bool → Int → Int → Int → Int → ByteArray → Int → Int → List (S70) → List (S119) → Option (Int × Int × Int)
  | 0, _, _, _, _, _, _, _, _, _, _ => none
  | k + 1, x5, x6, x7, x8, x9, x307000, x307001, x307002, x307003, x307004 => if x9 < (x5.length : Int) then (if 0 ≤ x9 then (if rdOf false x5 x9 = true then (cadenceref29_Bits.l0 k x5 x6 (wrap64 (x7 + x307001)) x8 (wrap64 (x9 + 1)) x307000 x307001 x307002 x307003 x307004) else (cadenceref29_Bits.l0 k x5 x6 x7 (wrap64 (x8 + x307001)) (wrap64 (x9 + 1)) x307000 x307001 x307002 x307003 x307004)) else (none)) else (some (x7, x8, x6))
noncomputable def cadenceref29_Bits.f (k : Nat) (a0_0 : ByteArray) (a0_1 : Int) (a0_2 : Int) (l0_3 : List (S70)) (l0_4 : List (S119)) : Option (Int × Int × Int) := (cadenceref17_Public.f k a0_0 a0_1 a0_2 l0_3 l0_4).bind fun bt307 => (cadenceref29_Bits.l0 k bt307.1 bt307.2 0 0 0 a0_0 a0_1 a0_2 l0_3 l0_4)
theorem cadenceref29_Bits.mono_l : ∀ k, (∀ y0 y1 y2 y3 y4 y5 y6 y7 y8 y9, LeO (cadenceref29_Bits.l0 k y0 y1 y2 y3 y4 y5 y6 y7 y8 y9) (cadenceref29_Bits.l0 (k + 1) y0 y1 y2 y3 y4 y5 y6 y7 y8 y9))
  | 0 => fun _ _ _ _ _ _ _ _ _ _ r h => by simp [cadenceref29_Bits.l0] at h
  | k + 1 => by
    have ih0 := cadenceref29_Bits.mono_l k
    · intro y0 y1 y2 y3 y4 y5 y6 y7 y8 y9
      unfold cadenceref29_Bits.l0
      repeat' first
      | (with_reducible exact ih0 _ _ _ _ _ _ _ _ _ _)
      | (with_reducible exact cadenceref17_Public.mono _ _ _ _ _ _)
      | (with_reducible exact LeO.refl _)
      | (with_reducible exact LeO.none _)
      | (with_reducible refine LeO.ite ?_ ?_)
      | (with_reducible refine LeO.bind ?_ (fun _ => ?_))
      | exact ih0 _ _ _ _ _ _ _ _ _ _
      | exact cadenceref17_Public.mono _ _ _ _ _ _
      | exact LeO.none _
      | refine LeO.ite ?_ ?_
      | refine LeO.bind ?_ (fun _ => ?_)
theorem cadenceref29_Bits.mono : ∀ a0 a1 a2 a3 a4 k, LeO (cadenceref29_Bits.f k a0 a1 a2 a3 a4) (cadenceref29_Bits.f (k + 1) a0 a1 a2 a3 a4) := by
  intro a0 a1 a2 a3 a4 k
  have ih0 := cadenceref29_Bits.mono_l k
  unfold cadenceref29_Bits.f
  repeat' first
      | (with_reducible exact ih0 _ _ _ _ _ _ _ _ _ _)
      | (with_reducible exact cadenceref17_Public.mono _ _ _ _ _ _)
      | (with_reducible exact LeO.refl _)
      | (with_reducible exact LeO.none _)
      | (with_reducible refine LeO.ite ?_ ?_)
      | (with_reducible refine LeO.bind ?_ (fun _ => ?_))
      | exact ih0 _ _ _ _ _ _ _ _ _ _
      | exact cadenceref17_Public.mono _ _ _ _ _ _
      | exact LeO.none _
      | refine LeO.ite ?_ ?_
      | refine LeO.bind ?_ (fun _ => ?_)
set_option maxHeartbeats 8000000 in
set_option maxRecDepth 100000 in
theorem cadenceref29_Bits.calls (k : Nat) (a0_0 : ByteArray) (a0_1 : Int) (a0_2 : Int) (A0_3 : Option Addr) (c0_3 : Nat) (l0_3 : List (S70)) (A0_4 : Option Addr) (c0_4 : Nat) (l0_4 : List (S119)) (r1 : Int) (r2 : Int) (r3 : Int) (w : World) (hr0_3 : Kd.C k70 w A0_3 l0_3.length l0_3) (hc0_3 : l0_3.length ≤ c0_3) (hr0_4 : Kd.C k119 w A0_4 l0_4.length l0_4) (hc0_4 : l0_4.length ≤ c0_4) (h : cadenceref29_Bits.f k a0_0 a0_1 a0_2 l0_3 l0_4 = some (r1, r2, r3)) :
    Calls Tryz.prog 22 #[.agg #[.string a0_0, .int .i64 a0_1, .int .i64 a0_2, .slice A0_3 l0_3.length c0_3, .slice A0_4 l0_4.length c0_4]] w fun e w' => e = .returned (.tuple #[.int .i64 r1, .int .i64 r2, .int .i64 r3]) ∧ Below w.heap.size w w' := by
  have hu25 := Tryz.underlying25
  have HR0_3 := Aside0.mk hr0_3
  have HC0_3 := Aside0.mk hc0_3
  clear hr0_3 hc0_3
  have HR0_4 := Aside0.mk hr0_4
  have HC0_4 := Aside0.mk hc0_4
  clear hr0_4 hc0_4
  have HB := Aside0.mk (Below.refl w.heap.size w)
  have H : ((cadenceref17_Public.f k a0_0 a0_1 a0_2 l0_3 l0_4).bind fun bt307 => (cadenceref29_Bits.l0 k bt307.1 bt307.2 0 0 0 a0_0 a0_1 a0_2 l0_3 l0_4)) = some (r1, r2, r3) := h
  clear h
  replace H := Option.bind_eq_some_iff.mp H
  obtain ⟨⟨t307, t310⟩, A20, H⟩ := H
  replace H : (cadenceref29_Bits.l0 k t307 t310 0 0 0 a0_0 a0_1 a0_2 l0_3 l0_4) = some (r1, r2, r3) := H
  have A2 := Aside0.mk A20
  clear A20
  have H' := Aside0.mk H
  clear H
  go_enter Tryz.func22, Tryz.ntmps22
  go_wp2_with (first | ((with_reducible refine gate_dst (N := 1) rfl ?_); refine box_event ?hg (N := 1) ?hd (cs := #[.string a0_0, .int .i64 a0_1, .int .i64 a0_2, .slice A0_3 l0_3.length c0_3, .slice A0_4 l0_4.length c0_4]) (t := 25) ?hr ?_; (case hd => rfl); (case hg => rfl); (case hr => first | (go_simp; done) | (go_simp; rfl)); intro gb306 hg w3 hbox hb; have n0_ := Aside0.mk (below_step (by repeat (first | (with_reducible first | exact HB.out | apply below_alloc | apply pw_below_drewN | apply below_drew1) | exact HB.out)) hb); have n1_ := Aside0.mk (hbox); have n2_ := Aside0.mk ((by rw [hg]; exact (below_size (by repeat (first | (with_reducible first | exact HB.out | apply below_alloc | apply pw_below_drewN | apply below_drew1) | exact HB.out))) : w.heap.size ≤ gb306)); have n3_ := Aside0.mk ((by rw [hg]; exact (below_size (by repeat (first | (with_reducible first | exact HB.out | apply below_alloc | apply pw_below_drewN | apply below_drew1) | exact HB.out))) : w.heap.size ≤ gb306)); clear HB; have HB := n0_; have BK306 := n1_; have GW306 := n2_; have GE306 := n3_; clear n0_ n1_ n2_ n3_; clear hb hbox hg; have hcz4_0 : w3.cell? ⟨gb306, 0, none⟩ = some (.string a0_0) := (blk_cell BK306.out 0).trans rfl; have hcz4_1 : w3.cell? ⟨gb306, 1, none⟩ = some (.int .i64 a0_1) := (blk_cell BK306.out 1).trans rfl; have hcz4_2 : w3.cell? ⟨gb306, 2, none⟩ = some (.int .i64 a0_2) := (blk_cell BK306.out 2).trans rfl; have hcz4_3 : w3.cell? ⟨gb306, 3, none⟩ = some (.slice A0_3 l0_3.length c0_3) := (blk_cell BK306.out 3).trans rfl; have hcz4_4 : w3.cell? ⟨gb306, 4, none⟩ = some (.slice A0_4 l0_4.length c0_4) := (blk_cell BK306.out 4).trans rfl; have hfz4_0 := blk_frozen BK306.out 0; have hfz4_1 := blk_frozen BK306.out 1; have hfz4_2 := blk_frozen BK306.out 2; have hfz4_3 := blk_frozen BK306.out 3; have hfz4_4 := blk_frozen BK306.out 4) | ((with_reducible refine gate_callee (f := 19) rfl ?_); refine goesL_ (some 12) rfl rfl Tryz.func19 (by kernel_rfl) rfl #[.agg #[.string a0_0, .int .i64 a0_1, .int .i64 a0_2, .slice A0_3 l0_3.length c0_3, .slice A0_4 l0_4.length c0_4]] rfl (by (try simp only [List.map_toArray, List.map_cons, List.map_nil]); first | done | rfl | (simp only [List.length_drop, List.length_take]; rfl)) ?_; (with_reducible refine (cadenceref17_Public.calls k a0_0 a0_1 a0_2 _ _ l0_3 _ _ l0_4 t307 t310 _ ?side1 ?side2 ?side3 ?side4 A2.out).mono ?_); (case side1 => repeat (first | exact (Kd.C_below HR0_3.out HB.out) | (with_reducible refine Kd.C_alloc ?_ _) | (with_reducible refine Kd.C_drewN ?_ _) | (with_reducible refine Kd.C_drew ?_))); (case side2 => exact HC0_3.out); (case side3 => repeat (first | exact (Kd.C_below HR0_4.out HB.out) | (with_reducible refine Kd.C_alloc ?_ _) | (with_reducible refine Kd.C_drewN ?_ _) | (with_reducible refine Kd.C_drew ?_))); (case side4 => exact HC0_4.out); rintro e w5 ⟨v308, rfl, ho0, hb⟩; refine ⟨_, rfl, ?_⟩; have n0_ := Aside0.mk (Kd.R_lower ho0 (below_size (by repeat (first | (with_reducible first | exact HB.out | apply below_alloc | apply pw_below_drewN | apply below_drew1 | refine below_set ?_ GE306.out) | exact HB.out)))); have n1_ := Aside0.mk (blk_below (g := gb306) (o := .cells #[.string a0_0, .int .i64 a0_1, .int .i64 a0_2, .slice A0_3 l0_3.length c0_3, .slice A0_4 l0_4.length c0_4] 25 (0, 0)) (by (with_reducible repeat (first | refine blk_drewN ?_ _ | refine blk_drew ?_ | refine blk_alloc ?_ _)); exact BK306.out) hb); have n2_ := Aside0.mk (below_step (by repeat (first | (with_reducible first | exact HB.out | apply below_alloc | apply pw_below_drewN | apply below_drew1 | refine below_set ?_ GE306.out) | exact HB.out)) hb); clear BK306; clear HB; have HO309 := n0_; have BK306 := n1_; have HB := n2_; clear n0_ n1_ n2_; (try clear hb); (try clear hb2); (try clear hk); (try clear hi); (try clear ho0)))
  go_loopg [7, 8, 9] k (fun kq v7 v8 v9 w' => ∃ (x7_1 : Int) (x8_1 : Int) (x9_1 : Int), v7 = .int .i64 x7_1 ∧ v8 = .int .i64 x8_1 ∧ v9 = .int .i64 x9_1 ∧ Aside0 (cadenceref29_Bits.l0 kq t307 t310 x7_1 x8_1 x9_1 a0_0 a0_1 a0_2 l0_3 l0_4 = some (r1, r2, r3)) ∧ Aside0 (kq ≤ k) ∧ Aside0 (Kd.R Kd.bool 4 w' w.heap.size (fun _ => True) v308 t307) ∧ Aside0 (w'.heap[gb306]? = some (.cells #[.string a0_0, .int .i64 a0_1, .int .i64 a0_2, (.slice A0_3 l0_3.length c0_3), (.slice A0_4 l0_4.length c0_4)] 25 (0, 0))) ∧ Aside0 (Below w.heap.size w w'))
  case atStart => exact ⟨(0), (0), (0), (by first | rfl | (simp; done) | (simp [*]; done)), (by first | rfl | (simp; done) | (simp [*]; done)), (by first | rfl | (simp; done) | (simp [*]; done)), H', ⟨Nat.le_refl _⟩, ⟨by (with_reducible repeat (first | apply Kd.R_alloc | apply Kd.R_drewN | apply Kd.R_drew)); exact HO309.out⟩, ⟨by (with_reducible repeat (first | refine blk_drewN ?_ _ | refine blk_drew ?_ | refine blk_alloc ?_ _)); exact BK306.out⟩, ⟨by repeat (first | (with_reducible first | exact HB.out | apply below_alloc | apply pw_below_drewN | apply below_drew1 | refine below_set ?_ GE306.out) | exact HB.out)⟩⟩
  case round =>
    clear H'
    try clear c1
    try clear c2
    try clear p2
    try clear hcz4_0
    try clear hcz4_1
    try clear hcz4_2
    try clear hcz4_3
    try clear hcz4_4
    try clear hfz4_0
    try clear hfz4_1
    try clear hfz4_2
    try clear hfz4_3
    try clear hfz4_4
    obtain ⟨x7_1, x8_1, x9_1, rfl, rfl, rfl, HA, HK1, HO_5, BK306, HB⟩ := hrel
    cases gk with
    | zero => exact absurd HA.out (by simp [cadenceref29_Bits.l0])
    | succ k1 =>
      have H := HA.out
      clear HA
      simp only [cadenceref29_Bits.l0] at H
      by_cases c6 : x9_1 < (t307.length : Int)
      · rw [if_pos c6] at H
        have c6b0 : decide (x9_1 < (t307.length : Int)) = true := decide_eq_true c6
        clear c6
        by_cases c7 : 0 ≤ x9_1
        · rw [if_pos c7] at H
          have c7b0 : decide (0 ≤ x9_1) = true := decide_eq_true c7
          clear c7
          obtain ⟨bq8, hbq8⟩ : ∃ b_ : Bool, b_ = (rdOf false t307 x9_1) := ⟨_, rfl⟩
          replace H : (if bq8 = true then (cadenceref29_Bits.l0 k1 t307 t310 (wrap64 (x7_1 + a0_1)) x8_1 (wrap64 (x9_1 + 1)) a0_0 a0_1 a0_2 l0_3 l0_4) else (cadenceref29_Bits.l0 k1 t307 t310 x7_1 (wrap64 (x8_1 + a0_1)) (wrap64 (x9_1 + 1)) a0_0 a0_1 a0_2 l0_3 l0_4)) = some (r1, r2, r3) := by rw [← hbq8] at H; exact H
          have Nbq8 := Aside0.mk hbq8
          clear hbq8
          by_cases c9 : bq8 = true
          · subst c9
            have H1 : (cadenceref29_Bits.l0 k1 t307 t310 (wrap64 (x7_1 + a0_1)) x8_1 (wrap64 (x9_1 + 1)) a0_0 a0_1 a0_2 l0_3 l0_4) = some (r1, r2, r3) := by rw [if_pos rfl] at H; exact H
            clear H
            have H := H1
            clear H1
            have H' := Aside0.mk H
            clear H
            obtain ⟨Ao10, co10, eo10⟩ := Kd.R_slice HO_5.out
            subst eo10
            have p311 : 0 ≤ (x9_1 : Int) := of_decide_eq_true (by first | (with_reducible assumption) | assumption)
            have q311 : x9_1 < (t307.length : Int) := of_decide_eq_true (by first | (with_reducible assumption) | assumption)
            obtain ⟨ad311, e311, hx311_0⟩ := Kd.at_bool (Kd.R_reads' HO_5.out).2.2 x9_1 p311 q311
            (try rw [← Nbq8.out] at hx311_0)
            cases e311
            replace p311 := eq_true p311
            replace q311 := eq_true q311
            have hcz11_0 : wr.cell? ⟨gb306, 0, none⟩ = some (.string a0_0) := (blk_cell BK306.out 0).trans rfl
            have hcz11_1 : wr.cell? ⟨gb306, 1, none⟩ = some (.int .i64 a0_1) := (blk_cell BK306.out 1).trans rfl
            have hcz11_2 : wr.cell? ⟨gb306, 2, none⟩ = some (.int .i64 a0_2) := (blk_cell BK306.out 2).trans rfl
            have hcz11_3 : wr.cell? ⟨gb306, 3, none⟩ = some (.slice A0_3 l0_3.length c0_3) := (blk_cell BK306.out 3).trans rfl
            have hcz11_4 : wr.cell? ⟨gb306, 4, none⟩ = some (.slice A0_4 l0_4.length c0_4) := (blk_cell BK306.out 4).trans rfl
            have hfz11_0 := blk_frozen BK306.out 0
            have hfz11_1 := blk_frozen BK306.out 1
            have hfz11_2 := blk_frozen BK306.out 2
            have hfz11_3 := blk_frozen BK306.out 3
            have hfz11_4 := blk_frozen BK306.out 4
            go_wp2
            go_roundg k1
            case measure => have := HK1.out; omega
            case rel => exact ⟨(wrap64 (x7_1 + a0_1)), (x8_1), (wrap64 (x9_1 + 1)), (by first | rfl | (simp; done) | (simp [*]; done)), (by first | rfl | (simp; done) | (simp [*]; done)), (by first | rfl | (simp; done) | (simp [*]; done)), H', ⟨by have := HK1.out; omega⟩, ⟨by (with_reducible repeat (first | apply Kd.R_alloc | apply Kd.R_drewN | apply Kd.R_drew)); exact HO_5.out⟩, ⟨by (with_reducible repeat (first | refine blk_drewN ?_ _ | refine blk_drew ?_ | refine blk_alloc ?_ _)); exact BK306.out⟩, ⟨by repeat (first | (with_reducible first | exact HB.out | apply below_alloc | apply pw_below_drewN | apply below_drew1 | refine below_set ?_ GE306.out) | exact HB.out)⟩⟩
          · replace c9 := Bool.eq_false_iff.mpr c9
            subst c9
            have H1 : (cadenceref29_Bits.l0 k1 t307 t310 x7_1 (wrap64 (x8_1 + a0_1)) (wrap64 (x9_1 + 1)) a0_0 a0_1 a0_2 l0_3 l0_4) = some (r1, r2, r3) := by rw [if_neg (show ¬ (false = true) by decide)] at H; exact H
            clear H
            have H := H1
            clear H1
            have H' := Aside0.mk H
            clear H
            obtain ⟨Ao12, co12, eo12⟩ := Kd.R_slice HO_5.out
            subst eo12
            have p311 : 0 ≤ (x9_1 : Int) := of_decide_eq_true (by first | (with_reducible assumption) | assumption)
            have q311 : x9_1 < (t307.length : Int) := of_decide_eq_true (by first | (with_reducible assumption) | assumption)
            obtain ⟨ad311, e311, hx311_0⟩ := Kd.at_bool (Kd.R_reads' HO_5.out).2.2 x9_1 p311 q311
            (try rw [← Nbq8.out] at hx311_0)
            cases e311
            replace p311 := eq_true p311
            replace q311 := eq_true q311
            have hcz13_0 : wr.cell? ⟨gb306, 0, none⟩ = some (.string a0_0) := (blk_cell BK306.out 0).trans rfl
            have hcz13_1 : wr.cell? ⟨gb306, 1, none⟩ = some (.int .i64 a0_1) := (blk_cell BK306.out 1).trans rfl
            have hcz13_2 : wr.cell? ⟨gb306, 2, none⟩ = some (.int .i64 a0_2) := (blk_cell BK306.out 2).trans rfl
            have hcz13_3 : wr.cell? ⟨gb306, 3, none⟩ = some (.slice A0_3 l0_3.length c0_3) := (blk_cell BK306.out 3).trans rfl
            have hcz13_4 : wr.cell? ⟨gb306, 4, none⟩ = some (.slice A0_4 l0_4.length c0_4) := (blk_cell BK306.out 4).trans rfl
            have hfz13_0 := blk_frozen BK306.out 0
            have hfz13_1 := blk_frozen BK306.out 1
            have hfz13_2 := blk_frozen BK306.out 2
            have hfz13_3 := blk_frozen BK306.out 3
            have hfz13_4 := blk_frozen BK306.out 4
            go_wp2
            go_roundg k1
            case measure => have := HK1.out; omega
            case rel => exact ⟨(x7_1), (wrap64 (x8_1 + a0_1)), (wrap64 (x9_1 + 1)), (by first | rfl | (simp; done) | (simp [*]; done)), (by first | rfl | (simp; done) | (simp [*]; done)), (by first | rfl | (simp; done) | (simp [*]; done)), H', ⟨by have := HK1.out; omega⟩, ⟨by (with_reducible repeat (first | apply Kd.R_alloc | apply Kd.R_drewN | apply Kd.R_drew)); exact HO_5.out⟩, ⟨by (with_reducible repeat (first | refine blk_drewN ?_ _ | refine blk_drew ?_ | refine blk_alloc ?_ _)); exact BK306.out⟩, ⟨by repeat (first | (with_reducible first | exact HB.out | apply below_alloc | apply pw_below_drewN | apply below_drew1 | refine below_set ?_ GE306.out) | exact HB.out)⟩⟩
        · rw [if_neg c7] at H
          exact absurd H (by simp)
      · rw [if_neg c6] at H
        have c6b0 : decide (x9_1 < (t307.length : Int)) = false := decide_eq_false c6
        clear c6
        simp only [Option.some.injEq, Prod.mk.injEq] at H
        obtain ⟨rfl, rfl, rfl⟩ := H
        obtain ⟨Ao14, co14, eo14⟩ := Kd.R_slice HO_5.out
        subst eo14
        go_wp2
        go_ret3
        exact ⟨by first | rfl | (simp [errW_none, errW_some] <;> rfl) | (simp [*, errW_none, errW_some] <;> rfl), by repeat (first | (with_reducible first | exact HB.out | apply below_alloc | apply pw_below_drewN | apply below_drew1 | refine below_set ?_ GE306.out) | exact HB.out)⟩
end Go.Proofs.YtfigjpehecibeaaGreat.L
end
section
namespace Go.Proofs.YtfigjpehecibeaaGreat.L
open Go.RowKit Go.Proofs.YtfigjpehecibeaaGreatW.PrintWords
set_option linter.unusedVariables false
set_option linter.unusedSimpArgs false
theorem leO_up {α : Type} {f : Nat → Option α} (h : ∀ k, LeO (f k) (f (k + 1))) {r : α} {k : Nat} (e : f k = some r) : ∀ n, f (k + n) = some r
  | 0 => e
  | n + 1 => h (k + n) r (leO_up h e n)
theorem wrapS' {i : Nat} (h : i ≤ 300000000) : wrap64 ((i : Int) + 1) = ((i + 1 : Nat) : Int) := by unfold wrap64; omega
theorem bits_loops (l : List Bool) (hl : l.length ≤ 268435456) (er : Int) (nm : ByteArray) (wd ln : Int) (ds : List S70) (bd : List S119) : ∀ d i k : Nat, i + d = l.length → d < k → ∀ a b : Int, ∃ x y : Int,
    brute_Bits.l0 k a b l (l.length : Int) (i : Int) nm wd ln ds bd = some (x, y, 0) ∧ cadenceref29_Bits.l0 k l er a b (i : Int) nm wd ln ds bd = some (x, y, er) := by
  intro d
  induction d with
  | zero =>
    intro i k hi hk a b
    obtain ⟨k, rfl⟩ : ∃ a, k = a + 1 := ⟨k - 1, by omega⟩
    have hn : ¬ (i : Int) < (l.length : Int) := by omega
    refine ⟨a, b, ?_, ?_⟩
    · rw [brute_Bits.l0, if_neg hn]
    · rw [cadenceref29_Bits.l0, if_neg hn]
  | succ d ih =>
    intro i k hi hk a b
    obtain ⟨k, rfl⟩ : ∃ a, k = a + 1 := ⟨k - 1, by omega⟩
    have a1 : (i : Int) < (l.length : Int) := by omega
    have a0 : (0 : Int) ≤ (i : Int) := by omega
    rw [brute_Bits.l0, cadenceref29_Bits.l0]
    simp only [if_pos a1, if_pos a0, wrapS' (show i ≤ 300000000 by omega)]
    by_cases h : rdOf false l (i : Int) = true
    · simp only [if_pos h]
      exact ih (i + 1) k (by omega) (by omega) _ _
    · simp only [if_neg h]
      exact ih (i + 1) k (by omega) (by omega) _ _
theorem bits_same {nm : ByteArray} {wd ln : Int} {ds : List S70} {bd : List S119} (hg : PGood nm wd ln ds bd) :
    ∃ (k : Nat) (x y e : Int), brute_Bits.f k nm wd ln ds bd = some (x, y, e) ∧ cadenceref29_Bits.f k nm wd ln ds bd = some (x, y, e) := by
  obtain ⟨k, h1, h2, h3⟩ := public_same hg
  obtain ⟨⟨l, er⟩, hle⟩ : ∃ r, r = pubAns nm wd ln ds bd := ⟨_, rfl⟩
  rw [← hle] at h1 h2 h3
  have g1 := leO_up (f := fun k => run_Public.f k nm wd ln ds bd) (fun k => run_Public.mono _ _ _ _ _ k) h1 (l.length + 1)
  have g2 := leO_up (f := fun k => cadenceref17_Public.f k nm wd ln ds bd) (fun k => cadenceref17_Public.mono _ _ _ _ _ k) h2 (l.length + 1)
  obtain ⟨x, y, p, q⟩ := bits_loops l h3 er nm wd ln ds bd l.length 0 (k + (l.length + 1)) (by omega) (by omega) 0 0
  unfold brute_Bits.f cadenceref29_Bits.f
  by_cases h : er = 0
  · refine ⟨k + (l.length + 1), x, y, er, ?_, ?_⟩
    · rw [show run_Public.f (k + (l.length + 1)) nm wd ln ds bd = some (l, er) from g1, Option.bind_some]
      rw [if_pos h, h]
      exact p
    · rw [show cadenceref17_Public.f (k + (l.length + 1)) nm wd ln ds bd = some (l, er) from g2, Option.bind_some]
      exact q
  · have hl : l = [] := by
      unfold pubAns at hle
      split at hle
      · rename_i h0
        injection hle with _ h4
        exact absurd h4 h
      · injection hle
    subst hl
    refine ⟨k + 1, 0, 0, er, ?_, ?_⟩
    · rw [show run_Public.f (k + 1) nm wd ln ds bd = some ([], er) from g1, Option.bind_some]
      rw [if_neg h]
    · rw [show cadenceref17_Public.f (k + 1) nm wd ln ds bd = some ([], er) from g2, Option.bind_some]
      rw [cadenceref29_Bits.l0, if_neg (by simp)]
end Go.Proofs.YtfigjpehecibeaaGreat.L
end
