/- Texts joined by a program of mine: Rg Na Rh Ri Rj Rk Rl. -/
import Derived.Test.YtfigjpehecibeaaGreatZe1
import Derived.Test.YtfigjpehecibeaaGreatZe4
import Derived.Test.YtfigjpehecibeaaGreatZe5
open And renaming intro -> ae
open Bool renaming true -> af, false -> J
open Go.Act renaming put -> ax
open Go.Proofs.Tryz renaming prog -> ak, underlying74 -> jr
open Go.Proofs.YtfigjpehecibeaaGreatW.PrintWords.Aside0 renaming mk -> I
open Go.RowKit.Below renaming refl -> aq, alloc -> gy, drew -> fk
open Go.Value renaming ownBlock -> dh, int -> ba, bool -> ia
open Int renaming toNat_natCast -> av, eq_ofNat_of_zero_le -> dn
open List renaming range -> br, replicate -> bu, mem_range -> ja, length_replicate -> iz, length_drop -> dx, getD_eq_getElem?_getD -> au, setIfInBounds_toArray -> aa, set_cons_zero -> ah, set_cons_succ -> ai, map_toArray -> cb, map_cons -> cm, map_nil -> cw, getElem?_eq_getElem -> az, take_of_length_le -> ku, append_nil -> df, getElem_mem -> ef, mem_cons -> gi, length_cons -> iv, sizeOf_lt_of_mem -> eu, getElem?_set -> kn, getElem?_eq_none -> ed, range_succ -> js
open Nat renaming le_refl -> ar, not_lt_zero -> cq, zero_le -> bi, le_trans -> bh, lt_of_lt_of_le -> bq, add_zero -> fq, min_eq_right -> iw, min_eq_left -> cy, le_succ -> iy
open Option renaming some -> ac, none -> ag, map_eq_some_iff -> gf
open Or renaming inl -> bg
open SizeOf renaming sizeOf -> cd
set_option linter.unusedVariables false
set_option linter.unusedSimpArgs false
set_option maxHeartbeats 8000000
namespace Go.Proofs.YtfigjpehecibeaaGreat.L
open Go.RowKit Bm C Go.Maps Go.Proofs.YtfigjpehecibeaaGreatW.PrintWords Go.Proofs.YtfigjpehecibeaaGreatW.PrintLast Go.Proofs.YtfigjpehecibeaaGreatW.PrintMore Go.Proofs.YtfigjpehecibeaaGreat.Gr
section
set_option maxRecDepth 100000
theorem words_v {d : S70} {n : Nat} (h : d.f2 = 0 \/ cZ d.f2 = af) (hn : (n : Int) = cK d) (A : Option Addr) (c : Nat) (W : World) (ha : (Kd.int .u64).C W A d.f3.length d.f3) (hc : d.f3.length <= c) :
 Calls ak 63 #[.agg #[.int .i64 d.f0, .string d.f1, .int .i64 d.f2, .slice A d.f3.length c]] W fun e W' => e = .returned (.int .i64 (n : Int)) /\ Below W.heap.size W W' :=
 run_words.calls d.f0 d.f1 d.f2 A c d.f3 n W ha hc (by rw [hn, <- (hU h).1]; rfl)
theorem input_v {d : S70} {b : Bool} (hb : b = decide (d.f0 = 1 \/ d.f0 = 2)) (A : Option Addr) (c : Nat) (W : World) (ha : (Kd.int .u64).C W A d.f3.length d.f3) (hc : d.f3.length <= c) :
 Calls ak 61 #[.agg #[.int .i64 d.f0, .string d.f1, .int .i64 d.f2, .slice A d.f3.length c]] W fun e W' => e = .returned (.bool b) /\ Below W.heap.size W W' :=
 run_input.calls d.f0 d.f1 d.f2 A c d.f3 b W ha hc (by
  unfold run_input.f
  rw [hb]
  by_cases h1 : d.f0 = 1
  ·simp [h1]
  ·rw [if_neg h1]
   congr 1
   by_cases h2 : d.f0 = 2 <;> simp [h1, h2])
def mid0 (wd : Int) (d : S70) (inp : List Int) (o n m : Nat) : List Int := (br n).map fun k => if k < m then kI wd d inp o k else 0
theorem mid0_len (wd : Int) (d : S70) (inp : List Int) (o n m : Nat) : (mid0 wd d inp o n m).length = n := by unfold mid0; simp
theorem mid0_zero (wd : Int) (d : S70) (inp : List Int) (o n : Nat) : mid0 wd d inp o n 0 = bu n 0 := by
 unfold mid0
 refine List.ext_getElem (by simp) fun i h1 h2 => by simp
theorem mid0_succ (wd : Int) (d : S70) (inp : List Int) (o n m : Nat) : (mid0 wd d inp o n m).set m (kI wd d inp o m) = mid0 wd d inp o n (m + 1) := by
 unfold mid0
 refine List.ext_getElem (by simp) fun i h1 h2 => ?_
 rw [List.getElem_set]
 simp only [List.getElem_map, List.getElem_range]
 by_cases e : m = i
 ·subst e; simp
 ·rw [if_neg e]
  by_cases h : i < m
  ·rw [if_pos h, if_pos (by omega)]
  ·rw [if_neg h, if_neg (by omega)]
theorem mid0_full (wd : Int) (d : S70) (inp : List Int) (o n : Nat) : mid0 wd d inp o n n = kD wd d inp o n := by
 unfold mid0 kD
 refine List.map_congr_left fun k hk => if_pos (ja.1 hk)
theorem start_calls (nm : ByteArray) (wd ln : Int) (ds : List S70) (bd : List S119) (A3 : Option Addr) (c3 : Nat) (A4 : Option Addr) (c4 : Nat) (w0 W : World) (eb : Nat) (most : Int) (hp : ProgAt w0 ds bd A3 c3 A4 c4) (hg : PGood nm wd ln ds bd) (h : (bJ nm wd ln ds bd).e = 0) (inp : List Int) (A : Option Addr) (cI : Nat) (hI : dJ w0 A inp) (hc : inp.length <= cI) (hu : ∀ v ∈ inp, U64 v) (hl : inp.length = (hO ds ds.length).length) (hw : Below w0.heap.size w0 W) (he0 : w0.heap.size <= eb)
 (he : ∃ vt, W.heap[eb]? = ac (.cells #[vt, .int .i64 most] 84 (0, 0)) /\ oD.R 101 W w0.heap.size (fun _ => True) vt []) :
 Calls ak 66 #[.agg #[.string nm, .int .i64 wd, .int .i64 ln, .slice A3 ds.length c3, .slice A4 bd.length c4], .slice A inp.length cI, .iface 80 (.pointer (ac ⟨eb, 0, ag⟩))] W fun e W' => ∃ mb ab lb, e = .returned (.pointer (ac ⟨mb, 0, ag⟩)) /\ MAt ⟨w0, nm, wd, ln, ds, bd, A3, c3, A4, c4, mb, eb, ab, lb, most⟩ (fT wd ds inp ds.length) [] [] W' /\ Kt [36, 74, 93] (ac ab) W W' := by
 obtain ⟨n, hn⟩ : ∃ n, n = ds.length := ⟨_, rfl⟩
 obtain ⟨ni, hni⟩ : ∃ n, n = inp.length := ⟨_, rfl⟩
 have hmm := @run_makeMap ak
 have hS := jM h
 have w1 : 1 <= wd := by
  obtain ⟨m, e, hm⟩ := hS.wd
  have := hm.le; omega
 obtain ⟨xb, hxb⟩ : ∃ b, b = W.heap.size := ⟨_, rfl⟩
 obtain ⟨X0, hX0⟩ : ∃ X, X = W.alloc (.cells #[.string nm, .int .i64 wd, .int .i64 ln, .slice A3 ds.length c3, .slice A4 bd.length c4] 25) := ⟨_, rfl⟩
 obtain ⟨X1, hX1⟩ : ∃ X, X = X0.alloc (.map #[] 0) := ⟨_, rfl⟩
 obtain ⟨X2, hX2⟩ : ∃ X, X = X1.alloc (.map #[] 0) := ⟨_, rfl⟩
 have hS0 : X0.heap.size = W.heap.size + 1 := by rw [hX0]; simp
 have hS1 : X1.heap.size = W.heap.size + 2 := by rw [hX1]; simp [hS0]
 have hS2 : X2.heap.size = W.heap.size + 3 := by rw [hX2]; simp [hS1]
 obtain ⟨c, hcc⟩ : ∃ c : Cfg, c = ⟨w0, nm, wd, ln, ds, bd, A3, c3, A4, c4, W.heap.size + 3, eb, W.heap.size + 1, W.heap.size + 2, most⟩ := ⟨_, rfl⟩
 obtain ⟨X, hX⟩ : ∃ X, X = X2.alloc (.cells (c.cells (.slice ag 0 0)) 93) := ⟨_, rfl⟩
 have b0 : Below W.heap.size W X0 := by rw [hX0]; exact (aq _ _).alloc (ar _) _
 have b1 : Below X0.heap.size X0 X1 := by rw [hX1]; exact (aq _ _).alloc (ar _) _
 have b2 : Below X1.heap.size X1 X2 := by rw [hX2]; exact (aq _ _).alloc (ar _) _
 have b3 : Below X2.heap.size X2 X := by rw [hX]; exact bA _ _
 have hXB : Below W.heap.size W X := b0.trans ((b1.trans ((b2.trans (b3.mono b2.size)).mono b1.size)).mono b0.size)
 have hbx : X.heap[W.heap.size]? = ac (.cells #[.string nm, .int .i64 wd, .int .i64 ln, .slice A3 ds.length c3, .slice A4 bd.length c4] 25 (0, 0)) := by
  have h1 : X0.heap[W.heap.size]? = ac (.cells #[.string nm, .int .i64 wd, .int .i64 ln, .slice A3 ds.length c3, .slice A4 bd.length c4] 25 (0, 0)) := by rw [hX0]; exact aV _ _
  exact aB (aB (aB h1 b1) b2) b3
 have HSM := I (show Sm c 0 (.slice ag 0 0) [] [] X from by
  have e0 : c.w0 = w0 := by rw [hcc]
  have e1 : c.mb = X2.heap.size := by rw [hcc, hS2]
  have e2 : c.ab = X0.heap.size := by rw [hcc, hS0]
  have e3 : c.lb = X1.heap.size := by rw [hcc, hS1]
  have e4 : c.eb = eb := by rw [hcc]
  have e5 : c.most = most := by rw [hcc]
  obtain ⟨vt, t1, t2⟩ := he
  refine ⟨by rw [e0]; exact hw.trans (hXB.mono hw.size), by rw [e1, hX]; exact aV _ _, RowsT.nil _ _, ⟨vt, by rw [e4, e5]; exact aB t1 hXB, by rw [e0]; exact Kd.bK t2 hXB⟩, ⟨.map [], ?_, fun j hj => absurd hj (cq _)⟩, ⟨.map [], ?_, ar _, fun s => ⟨rfl, fun v hv => by cases hv⟩⟩⟩
  ·rw [e2]
   have h1 := World.ownsMap_made (H := Unit) X0 ak 9 (plainElem ak 3)
   rw [<- hX1] at h1
   exact (Kt.of_below b3 [] ag).own ((Kt.of_below b2 [] ag).own h1 (by simp)) (by simp)
  ·rw [e3]
   have h1 := World.ownsMap_made (H := Unit) X1 ak 9 (plainElem ak 74)
   rw [<- hX2] at h1
   exact (Kt.of_below b3 [] ag).own h1 (by simp))
 have hp3 := hp.hd
 have HC := I hcc
 have HB := I (show c.w0.heap.size <= c.mb /\ c.w0.heap.size <= c.eb /\ c.w0.heap.size <= c.ab /\ c.w0.heap.size <= c.lb /\ c.ab ≠ c.lb /\ Below c.w0.heap.size c.w0 W /\ c.ds = ds from by
  rw [hcc]
  have := hw.size
  exact ⟨by show w0.heap.size <= W.heap.size + 3; omega, he0, by show w0.heap.size <= W.heap.size + 1; omega, by show w0.heap.size <= W.heap.size + 2; omega, by show W.heap.size + 1 ≠ W.heap.size + 2; omega, hw, rfl⟩)
 have HXE := I (show ((((W.alloc (.cells #[.string nm, .int .i64 wd, .int .i64 ln, .slice A3 n c3, .slice A4 bd.length c4] 25)).alloc (.map #[] 0)).alloc (.map #[] 0)).alloc (.cells #[.string nm, .int .i64 wd, .int .i64 ln, .slice A3 n c3, .slice A4 bd.length c4, .map (ac (W.heap.size + 1)), .slice ag 0 0, .map (ac (W.heap.size + 1 + 1)), .iface 80 (.pointer (ac ⟨eb, 0, ag⟩))] 93)) = X /\ W.heap.size + 1 + 1 + 1 = c.mb from by
  rw [hX, hX2, hX1, hX0, hcc, hn]; exact ⟨rfl, rfl⟩)
 rw [<- hn] at hbx hp3 ⊢
 rw [<- hni] at hl hc ⊢
 have HH := I (ae hg (ae h (ae hu (ae hl (ae hn (ae hni (ae hS hXB)))))))
 have HX := I (ae hp3 (ae (hxb ▸ hbx) (ae hI hc)))
 have hn256 : n <= 256 := by rw [hn]; exact hS.few
 clear hp hp3 hg h hu hl hI hXB hS hn hni hbx hw he0 he hS0 hS1 hS2 hcc b0 b1 b2 b3 hc hX hX0 hX1 hX2
 go_enter Tryz.func66, Tryz.ntmps66
 go_upto_region 1 with (fail)
 go_upto_region 2 with (fail)
 rw [HXE.out.1, HXE.out.2]
 rw [<- hxb]
 have x3 : X.cell? ⟨xb, 3, ag⟩ = ac (.slice A3 n c3) := (aA HX.out.2.1 3).trans rfl
 clear hxb
 go_wp2_with fail
 clear x3
 go_loopw [1, 21] (fun v i W' => ∃ (k : Nat) (Ai : Option Addr) (ti ci : Nat) (vo : Value) (ts : List (Nat × Nat × Nat)), v = .slice Ai ti ci /\ i = .int .i64 k /\ k <= n /\ Aside0 (Kt [36, 74, 93] (ac c.ab) X W' /\ Sm c k vo ts (fT wd ds inp k) W' /\ dJ c.w0 Ai (inp.drop (hO ds k).length) /\ ti = (inp.drop (hO ds k).length).length /\ ti <= ci)) (fun _ i _ => n - (intOf i).toNat)
 case atStart =>
  refine ⟨0, _, _, _, _, [], rfl, rfl, bi _, ⟨Kt.refl _ _ _, HSM.out, ?_, ?_, HX.out.2.2.2⟩⟩
  ·rw [HC.out]; exact HX.out.2.2.1
  ·exact HH.out.2.2.2.2.2.1
 case round =>
  obtain ⟨k, Ai, ti, ci, vo, ts, rfl, rfl, hk, HI⟩ := hrel
  by_cases hlt : k < n
  ·have hlt2 : (k : Int) < (n : Int) := by omega
   have hw0 : Below w0.heap.size w0 wr := by have := HI.out.2.1.low; rwa [HC.out] at this
   obtain ⟨ad, A9, c9, e1, q0, q1, q2, q3, l9, g9⟩ := dN HX.out.1 (k : Int) (by omega) (by omega)
   cases e1
   rw [av] at q0 q1 q2 q3
   obtain ⟨d, hd⟩ : ∃ d, d = aG ds (k : Int) := ⟨_, rfl⟩
   have hkd : k < ds.length := by rw [<- HH.out.2.2.2.2.1]; exact hlt
   have RD := I (ae (eQ HH.out.2.1 k hkd) (fun h3 => vals_right HH.out.2.1 hkd h3))
   have RS := rows0_succ wd ds inp k
   have PS := qD ds k
   have PM := pubs_mono ds (show k + 1 <= ds.length from hkd)
   rw [<- hd] at q0 q1 q2 q3 l9 g9 RD RS PS
   have p0 := aE hw0 q0
   have p1 := aE hw0 q1
   have p2 := aE hw0 q2
   have p3 := aE hw0 q3
   obtain ⟨wn, w2, w3⟩ := hU RD.out.1.2
   obtain ⟨nw, hnw⟩ := dn (show 0 <= cK d by omega)
   rw [hnw, av] at PS
   obtain ⟨o, ho⟩ : ∃ o, o = (hO ds k).length := ⟨_, rfl⟩
   rw [<- ho] at PS RS HI
   obtain ⟨Wi, hWi⟩ : ∃ Wi, Wi = wr.alloc (.cells #[.int .i64 d.f0, .string d.f1, .int .i64 d.f2, .slice A9 d.f3.length c9] 70) := ⟨_, rfl⟩
   have hWB : Below wr.heap.size wr Wi := by rw [hWi]; exact bA _ _
   obtain ⟨gb, hgb⟩ : ∃ b, b = wr.heap.size := ⟨_, rfl⟩
   have hbw : Wi.heap[gb]? = ac (.cells #[.int .i64 d.f0, .string d.f1, .int .i64 d.f2, .slice A9 d.f3.length c9] 70 (0, 0)) := by rw [hWi, hgb]; exact aV _ _
   have hS := (HI.out.2.1.below hWB).below (aq _ _).drew
   have hgd := (HH.out.1.good.ds d (by rw [hd]; exact dO hkd))
   obtain ⟨w5, hr5, hs5, hk5⟩ := hS.name HB.out.2.2.1 HB.out.2.2.2.2.1 (by rw [HB.out.2.2.2.2.2.2]; exact hkd) (by omega) (by rw [HB.out.2.2.2.2.2.2, <- hd]; exact bh hgd.2.1 (by unfold maxLen; omega)) (by rw [HB.out.2.2.2.2.2.2]; exact names_apart HH.out.2.1 hkd)
   rw [HB.out.2.2.2.2.2.2, <- hd] at hr5
   have hk6 : Kt [36, 74, 93] (ac c.ab) X w5 := (HI.out.1.trans ((Kt.of_below hWB _ _).trans (Kt.of_below (aq _ _).drew _ _))).trans (hk5.more (by simp) (fun _ h => h))
   have HSK := I (show ∀ w1, Kt [] (ac c.ab) Wi.drew w1 -> w1.cell? ⟨c.mb, 5, ag⟩ = ac (.map (ac c.ab)) /\ w1.cell? ⟨gb, 1, ag⟩ = ac (.string d.f1) from fun w1 hkk => ⟨(aA (hkk.blk _ _ _ _ hS.m (by simp)) 5).trans rfl, (aA (hkk.blk _ _ _ _ hbw (by simp)) 1).trans rfl⟩)
   have HW := I (ae hk6 (ae (hk5.blk _ _ _ _ hbw (by simp)) (ae hnw.symm (ae RS (ae PS (ae PM (ae hkd (ae g9 (ae l9 hs5)))))))))
   have hnw1 : 1 <= nw /\ nw <= 256 := by omega
   have hk0 := RD.out.1.1
   have HK5 := I hk5
   obtain ⟨s5, s1⟩ := HSK.out _ (Kt.refl _ _ _)
   clear q0 q1 q2 q3 l9 g9 RS PS PM wn w2 w3 hnw hd hkd hbw hWB ho hS hgd hs5 hk5 hk6 hw0
   go_upto_region 5 with (fail)
   rw [<- hgb]
   rw [<- hWi]
   clear hWi hgb p0 p1 p2 p3
   go_region_held3 (fun w' => w'.cell? ⟨c.mb, 5, ag⟩ = ac (.map (ac c.ab)) /\ w'.cell? ⟨gb, 1, ag⟩ = ac (.string d.f1))
    (first | exact HSK.out _ (Kt.refl _ _ _) | exact HSK.out _ HK5.out | go_keep)
    (fail)
   clear s5 s1 hr5 HK5 HSK
   have b0 : ∀ g : G w5, g.W.cell? ⟨gb, 0, ag⟩ = ac (.int .i64 d.f0) := fun g => (aA (aB HW.out.2.1 g.below) 0).trans rfl
   have b1 : ∀ g : G w5, g.W.cell? ⟨gb, 1, ag⟩ = ac (.string d.f1) := fun g => (aA (aB HW.out.2.1 g.below) 1).trans rfl
   have b2 : ∀ g : G w5, g.W.cell? ⟨gb, 2, ag⟩ = ac (.int .i64 d.f2) := fun g => (aA (aB HW.out.2.1 g.below) 2).trans rfl
   have b3 : ∀ g : G w5, g.W.cell? ⟨gb, 3, ag⟩ = ac (.slice A9 d.f3.length c9) := fun g => (aA (aB HW.out.2.1 g.below) 3).trans rfl
   go_upto_region 6 with (fail)
   refine aH ?_
   intro gg
   have H3 := I (show ∀ g : G w5, (Kd.int .u64).C g.W A9 d.f3.length d.f3 from fun g => by
    have h1 := (HW.out.2.2.2.2.2.2.2.2.2.below g.below).low
    rw [HC.out] at h1
    exact Kd.aF HW.out.2.2.2.2.2.2.2.1 h1)
   go_wp2_with fail
   refine (aD (g := gg) (words_v RD.out.1.2 HW.out.2.2.1 A9 c9 gg.W (H3.out gg) HW.out.2.2.2.2.2.2.2.2.1)).mono ?_
   rintro _ _ ⟨rfl, gg, rfl⟩
   have hw8 : (nw : Int).toNat * 8 <= 281474976710656 := by omega
   have hw9 : (0 : Int) <= (nw : Int) := by omega
   go_wp2_with (at_make; refine Kd.R_make (Kd.int .u64) (w0 := gg.W) gg.W.heap.size 74 rfl rfl 36 (.tmp 34) (.tmp 34) rfl (nw : Int) rfl rfl kO (.int .u64 0) 8 pY rfl (by decide) (by decide) (0 : Int) (ok := fun _ => True) (okp := fun _ => False) rfl (fun _ h => h.elim) trivial hw9 hw8 (aq _ _) (ar _) ?_)
   intro v1 u1 hr1 hb1 hg1 bq1 hat1 hat2
   obtain ⟨b, cap, cs, hv1, hcs, hcells⟩ := oP hr1 (by rw [iz]; omega)
   rw [iz] at hv1
   subst hv1
   have hbV : gg.W.heap.size <= b := Kd.R_base hr1 b (by simp [dh])
   have HVS := I (show ∀ W', Below gg.W.heap.size gg.W W' -> Sm c (k + 1) vo ts (fT wd ds inp k) W' /\ W'.heap[gb]? = ac (.cells #[.int .i64 d.f0, .string d.f1, .int .i64 d.f2, .slice A9 d.f3.length c9] 70 (0, 0)) /\ W'.heap[xb]? = ac (.cells #[.string nm, .int .i64 wd, .int .i64 ln, .slice (ac ad) n c3, .slice A4 bd.length c4] 25 (0, 0)) from fun W' h =>
    ⟨(HW.out.2.2.2.2.2.2.2.2.2.below gg.below).below h, aB (aB HW.out.2.1 gg.below) h, aB (aB (HW.out.1.blk _ _ _ _ HX.out.2.1 (by simp)) gg.below) h⟩)
   have HBB := I (show c.w0.heap.size <= b /\ ∀ i, i < (fT wd ds inp k).length -> (ts.getD i zSl).1 < b from ⟨bh (HVS.out _ (aq _ _)).1.low.size hbV, fun i hi => bq ((HVS.out _ (aq _ _)).1.rows.lt hi) hbV⟩)
   have HKV := I (HW.out.1.trans (Kt.of_below gg.below _ _))
   have HU := I (show Below gg.W.heap.size gg.W u1 /\ iS u1 b (mid0 wd d inp o nw 0) /\ (Kd.int .u64).R 74 u1 gg.W.heap.size (fun _ => True) (.slice (ac ⟨b, 0, ag⟩) nw cap) (bu nw 0) /\ gg.W.heap.size <= b from ⟨hb1, by rw [mid0_zero]; exact ⟨cs, hcs, hcells⟩, hr1, hbV⟩)
   have HPL := I (show (kD wd d inp o nw).length = nw from by unfold kD; simp)
   have TL := I (show (ts.length + 1) * 24 <= 140737488355328 by rw [(HVS.out _ (aq _ _)).1.rows.len]; simp [fT]; omega)
   clear hr1 hb1 hg1 hat1 hat2 hcs hcells hbV b0 b1 b2 b3 H3 hw8 hw9
   have d0 : u1.cell? ⟨gb, 0, ag⟩ = ac (.int .i64 d.f0) := (aA (HVS.out _ HU.out.1).2.1 0).trans rfl
   have d1 : u1.cell? ⟨gb, 1, ag⟩ = ac (.string d.f1) := (aA (HVS.out _ HU.out.1).2.1 1).trans rfl
   have d2 : u1.cell? ⟨gb, 2, ag⟩ = ac (.int .i64 d.f2) := (aA (HVS.out _ HU.out.1).2.1 2).trans rfl
   have d3 : u1.cell? ⟨gb, 3, ag⟩ = ac (.slice A9 d.f3.length c9) := (aA (HVS.out _ HU.out.1).2.1 3).trans rfl
   have HS6 := I (show ∀ W', Below gg.W.heap.size gg.W W' -> W'.cell? ⟨c.mb, 6, ag⟩ = ac vo from fun W' h => (aA (HVS.out _ h).1.m 6).trans rfl)
   have HC9 := I (show ∀ W', Below gg.W.heap.size gg.W W' -> (Kd.int .u64).C W' A9 d.f3.length d.f3 from fun W' h => by
    have h1 := (HVS.out _ h).1.low
    rw [HC.out] at h1
    exact Kd.aF HW.out.2.2.2.2.2.2.2.1 h1)
   have hkk : (d.f0 = 1 \/ d.f0 = 2) \/ d.f0 = 3 \/ 4 <= d.f0 := by omega
   rcases hkk with hk1 | hk3 | hk4
   ·have k3 : ¬ d.f0 = 3 := by omega
    have HK := I hk1
    clear hk1
    go_wp2_with fail
    refine (input_v (b := af) (by rw [decide_eq_true HK.out]) A9 c9 u1 (HC9.out _ HU.out.1) HW.out.2.2.2.2.2.2.2.2.1).mono ?_
    rintro _ u3 ⟨rfl, hb3⟩
    have HU3 := I (show Below gg.W.heap.size gg.W u3 /\ iS u3 b (mid0 wd d inp o nw 0) from ⟨HU.out.1.trans (hb3.mono HU.out.1.size), HU.out.2.1.imp fun cs h => ⟨aB h.1 hb3, h.2⟩⟩)
    clear hb3 d0 d1 d2 d3
    go_wp2_with fail
    go_loopw [49] (fun i W' => ∃ m : Nat, i = .int .i64 m /\ m <= nw /\ Aside0 (Below gg.W.heap.size gg.W W' /\ iS W' b (mid0 wd d inp o nw m))) (fun i _ => nw - (intOf i).toNat)
    case atStart => exact ⟨0, rfl, bi _, HU3⟩
    case round =>
     obtain ⟨m, rfl, hm, HM⟩ := hrel
     by_cases hmn : m < nw
     ·have hm2 : (m : Int) < (nw : Int) := by omega
      have hti : m < ti := by
       have h1 := HW.out.2.2.2.2.1
       have h2 := HW.out.2.2.2.2.2.1
       have h3 := HH.out.2.2.2.1
       have h4 := HI.out.2.2.2.1
       have h5 := HH.out.2.2.2.2.2.1
       rw [dx] at h4
       rw [if_pos HK.out] at h1
       omega
      have hti2 : (m : Int) < (ti : Int) := by omega
      obtain ⟨adI, eA, qI⟩ := HI.out.2.2.1 m (by rw [<- HI.out.2.2.2.1]; exact hti)
      subst eA
      obtain ⟨xv, hxv⟩ : ∃ x, x = (inp.drop o).getD m 0 := ⟨_, rfl⟩
      rw [<- hxv] at qI
      have hxv2 : xv = inp.getD (o + m) 0 := by rw [hxv]; simp [au]
      have XU := I (show U64 xv from hxv2 ▸ oQ HH.out.2.2.1 (o + m))
      have W0 := I (show kI wd d inp o m = trnI wd xv from by unfold kI; rw [if_neg k3, if_pos HK.out, hxv2])
      obtain ⟨cs, hcs, hcells⟩ := HM.out.2
      have hcm := hcells m (by rw [mid0_len]; exact hmn)
      obtain ⟨ov, hov⟩ : ∃ v, v = (mid0 wd d inp o nw m).getD m 0 := ⟨_, rfl⟩
      rw [<- hov] at hcm
      have HG := I (show ∀ g : G wr, Below gg.W.heap.size gg.W g.W from fun g => HM.out.1.trans (g.below.mono HM.out.1.size))
      have x1 : ∀ g : G wr, g.W.cell? ⟨xb, 1, ag⟩ = ac (.int .i64 wd) := fun g => (aA (HVS.out _ (HG.out g)).2.2 1).trans rfl
      have xi : ∀ g : G wr, g.W.cell? (adI.add m) = ac (.int .u64 xv) := fun g => aE (HVS.out _ (HG.out g)).1.low qI
      have rf : ∀ g : G wr, g.W.frozen? ⟨b, m, ag⟩ = J := fun g => aI (aB hcs g.below) m
      have rc : ∀ g : G wr, g.W.cell? ⟨b, m, ag⟩ = ac (.int .u64 ov) := fun g => (aA (aB hcs g.below) m).trans hcm
      clear hxv hxv2 qI hcs hcells hcm hov hti
      go_wp2_with fail
      refine aH ?_
      intro g4
      refine fZ (n := 11) (S := fun w' => ∃ g' : G _, w' = g'.W) (ds := [10]) #[J, J, J, J, J, J, J, J, J, J, J] (by kernel_rfl) rfl rfl ⟨mkG (g4.2.drew), rfl⟩ (fun hHeld => ?_)
      obtain ⟨gd, hgd⟩ := hHeld
      rw [hgd]
      clear hgd
      refine bB (i := 0) (N := ac 52) (v := ?_) (a' := ?_) #[af, J, J, J, J, J, J, J, J, J, J] rfl rfl (by kernel_rfl) (fun _ _ _ h => h) (bg ⟨by rfl, ?_⟩) ?_ ?_
      rotate_left
      ·intro w'
       go_simp
       with_reducible rfl
      rotate_left
      ·simp only [ax, aa, ah, ai, aN, aM]
       rfl
      refine bB (i := 1) (N := ac 53) (v := ?_) (a' := ?_) #[af, af, J, J, J, J, J, J, J, J, J] rfl rfl (by kernel_rfl) (fun _ _ _ h => h) (bg ⟨by rfl, ?_⟩) ?_ ?_
      rotate_left
      ·intro w'
       go_simp
       with_reducible rfl
      rotate_left
      ·simp only [ax, aa, ah, ai, aN, aM]
       rfl
      refine bB (i := 2) (N := ac 54) (v := ?_) (a' := ?_) #[af, af, af, J, J, J, J, J, J, J, J] rfl rfl (by kernel_rfl) (fun _ _ _ h => h) (bg ⟨by rfl, ?_⟩) ?_ ?_
      rotate_left
      ·intro w'
       go_simp
       with_reducible rfl
      rotate_left
      ·simp only [ax, aa, ah, ai, aN, aM]
       rfl
      refine dP (i := 3) (N := ac 55) (v := ?_) (a' := ?_) #[af, af, af, af, J, J, J, J, J, J, J] rfl rfl (by kernel_rfl) (fun _ _ _ h => h) (bg ⟨by rfl, ?_⟩) ⟨gd, rfl⟩ ?_ ?_
      rotate_left
      ·rintro w' ⟨g', rfl⟩
       go_simp
       with_reducible rfl
      rotate_left
      ·simp only [ax, aa, ah, ai, aN, aM]
       rfl
      refine bB (i := 4) (N := ac 56) (v := ?_) (a' := ?_) #[af, af, af, af, af, J, J, J, J, J, J] rfl rfl (by kernel_rfl) (fun _ _ _ h => h) (bg ⟨by rfl, ?_⟩) ?_ ?_
      rotate_left
      ·intro w'
       go_simp
       with_reducible rfl
      rotate_left
      ·simp only [ax, aa, ah, ai, aN, aM]
       rfl
      refine bB (i := 5) (N := ac 57) (v := ?_) (a' := ?_) #[af, af, af, af, af, af, J, J, J, J, J] rfl rfl (by kernel_rfl) (fun _ _ _ h => h) (bg ⟨by rfl, ?_⟩) ?_ ?_
      rotate_left
      ·intro w'
       go_simp
       with_reducible rfl
      rotate_left
      ·simp only [ax, aa, ah, ai, aN, aM]
       rfl
      refine bB (i := 6) (N := ac 58) (v := ?_) (a' := ?_) #[af, af, af, af, af, af, af, J, J, J, J] rfl rfl (by kernel_rfl) (fun _ _ _ h => h) (bg ⟨by rfl, ?_⟩) ?_ ?_
      rotate_left
      ·intro w'
       go_simp
       with_reducible rfl
      rotate_left
      ·simp only [ax, aa, ah, ai, aN, aM]
       rfl
      refine dP (i := 7) (N := ac 59) (v := ?_) (a' := ?_) #[af, af, af, af, af, af, af, af, J, J, J] rfl rfl (by kernel_rfl) (fun _ _ _ h => h) (bg ⟨by rfl, ?_⟩) ⟨gd, rfl⟩ ?_ ?_
      rotate_left
      ·rintro w' ⟨g', rfl⟩
       go_simp
       with_reducible rfl
      rotate_left
      ·simp only [ax, aa, ah, ai, aN, aM]
       rfl
      refine kJ (i := 8) (N := ac 60) #[af, af, af, af, af, af, af, af, af, J, J] rfl rfl (by kernel_rfl) (by simp) (fun Kr hKr => ?_)
      refine j5 Tryz.func72 (by kernel_rfl) rfl #[.int .i64 wd, .int .u64 xv] (by rfl) rfl rfl (by (try simp only [cb, cm, cw]); first | done | rfl) ?_
      refine (trimI w1 XU.out gd.W).mono ?_
      rintro _ w9 ⟨rfl, hb⟩
      refine ⟨_, rfl, ?_⟩
      obtain ⟨gd, rfl⟩ : ∃ g' : G _, w9 = g'.W := ⟨mkG (gd.below.trans (hb.mono gd.below.size)), rfl⟩
      clear hb
      refine hKr.out _ _ ⟨gd, rfl⟩ (fun _ => ?_)
      clear hKr Kr
      refine cU (a' := ?_) ?_ ?_
      rotate_left
      ·show ax _ (ac 60) _ = _
       simp only [ax, aa, ah, ai, aN, aM]
       rfl
      refine bB (i := 9) (N := ac 61) (v := ?_) (a' := ?_) #[af, af, af, af, af, af, af, af, af, af, J] rfl rfl (by kernel_rfl) (fun _ _ _ h => h) (bg ⟨by rfl, ?_⟩) ?_ ?_
      rotate_left
      ·intro w'
       go_simp
       with_reducible rfl
      rotate_left
      ·simp only [ax, aa, ah, ai, aN, aM]
       rfl
      refine oF (i := 10) (N := ag) #[af, af, af, af, af, af, af, af, af, af, af] rfl rfl (by kernel_rfl) (by simp) (fun Kr hKr => ?_)
      refine skip_ (w1 := gd.W.setCell ⟨b, m, ag⟩ (.int .u64 (trnI wd xv))) (by rfl) rfl (by first | (go_simp; done) | (go_simp; rfl)) ?_
      refine hKr.out _ _ ?_
      clear hKr Kr
      refine kH (by kernel_rfl) ?_
      have HN := I (show Below gg.W.heap.size gg.W (gd.W.setCell ⟨b, m, ag⟩ (.int .u64 (trnI wd xv))) /\ iS (gd.W.setCell ⟨b, m, ag⟩ (.int .u64 (trnI wd xv))) b (mid0 wd d inp o nw (m + 1)) from ⟨(HG.out gd).setCell (p := ⟨b, m, ag⟩) HU.out.2.2.2 _, by
       rw [<- mid0_succ, W0.out]
       exact iS.set (HM.out.2.imp fun cs h => ⟨aB h.1 gd.below, h.2⟩) (by rw [mid0_len]; exact hmn) _⟩)
      clear x1 xi rf rc
      go_wp2_with fail
      go_roundw
      case measure => simp [intOf]; omega
      case rel => exact ⟨m + 1, show _ = ba .i64 ((m + 1 : Nat) : Int) from by go_num, by omega, HN⟩
     ·have hmn2 : nw = m := by omega
      subst hmn2
      have hm2 : ¬ (nw : Int) < (nw : Int) := by omega
      have hti : nw <= ti := by
       have h1 := HW.out.2.2.2.2.1
       have h2 := HW.out.2.2.2.2.2.1
       have h3 := HH.out.2.2.2.1
       have h4 := HI.out.2.2.2.1
       have h5 := HH.out.2.2.2.2.2.1
       rw [dx] at h4
       rw [if_pos HK.out] at h1
       omega
      have hsl := slice_from Ai hti HI.out.2.2.2.2
      obtain ⟨Aj, hAj⟩ : ∃ x, x = cutA Ai ci nw := ⟨_, rfl⟩
      obtain ⟨tj, htj⟩ : ∃ x, x = ti - nw := ⟨_, rfl⟩
      obtain ⟨cj, hcj⟩ : ∃ x, x = ci - nw := ⟨_, rfl⟩
      rw [<- hAj, <- htj, <- hcj] at hsl
      have HIN := I (show dJ c.w0 Aj (inp.drop (hO ds (k + 1)).length) /\ tj = (inp.drop (hO ds (k + 1)).length).length /\ tj <= cj from by
       have h1 := HW.out.2.2.2.2.1
       rw [if_pos HK.out] at h1
       have h4 := HI.out.2.2.2.1
       have h6 := HI.out.2.2.2.2
       rw [h1, <- List.drop_drop, hAj, htj, hcj]
       refine ⟨dJ.cut HI.out.2.2.1 (by rw [<- h4]; exact h6), ?_, by omega⟩
       rw [dx, <- h4])
      have HWC := I (show Below gg.W.heap.size gg.W wr /\ iS wr b (kD wd d inp o nw) from ⟨HM.out.1, by rw [<- mid0_full]; exact HM.out.2⟩)
      have s6 := HS6.out _ HM.out.1
      clear hAj htj hcj hti
      go_wp2_with (at_builtin; refine Kd.cW kSl (w0 := c.w0) c.w0.heap.size rfl (.tmp 71) (.tmp 73) 37 36 (.slice ag 0 0) 24 rfl nG info36 rfl (by decide) (by decide) vo ts (b, nw, cap) [.slice (ac ⟨b, 0, ag⟩) nw cap] (fun _ => True) (fun _ => False) rfl rfl rfl (fun _ h => h.elim) (fun _ _ => trivial) (HVS.out _ HWC.out.1).1.rows.out (HVS.out _ HWC.out.1).1.low (HVS.out _ HWC.out.1).1.low.size TL.out ?_)
      intro v2 u2 hr2 hb2 hg2 hat2
      have HSR := I ((HVS.out _ HWC.out.1).1.row hg2 (b := b) (cap := cap) (l := kD wd d inp o nw) (by rw [HPL.out]; exact hr2) HWC.out.2 HBB.out.1 HBB.out.2 hb2 HB.out.1)
      obtain ⟨A2, k2, hv2⟩ := Kd.cD hr2
      subst hv2
      have y0 : u2.cell? ⟨c.mb, 6, ag⟩ = ac vo := (aA HSR.out.2 6).trans rfl
      have y1 : u2.frozen? ⟨c.mb, 6, ag⟩ = J := aI HSR.out.2 6
      have HN := I (show Kt [36, 74, 93] (ac c.ab) X (u2.setCell ⟨c.mb, 6, ag⟩ (.slice A2 (ts ++ [(b, nw, cap)]).length k2)) /\ Sm c (k + 1) (.slice A2 (ts ++ [(b, nw, cap)]).length k2) (ts ++ [(b, nw, cap)]) (fT wd ds inp (k + 1)) (u2.setCell ⟨c.mb, 6, ag⟩ (.slice A2 (ts ++ [(b, nw, cap)]).length k2)) from ⟨(((HKV.out.trans (Kt.of_below HWC.out.1 _ _))).grown hg2 (fun j hj => by
       obtain ⟨inner, ho⟩ := Kd.mJ (HVS.out _ HWC.out.1).1.rows.out
       obtain ⟨cells, hc⟩ := dY ho j hj
       exact ⟨cells, 36, _, by simp, hc⟩)).set HSR.out.2 (by simp) 6 _, by
       have h1 := HSR.out.1
       rw [HPL.out] at h1
       rw [HW.out.2.2.2.1, show row0 wd d inp o = kD wd d inp o nw from by unfold row0 kD; rw [<- HW.out.2.2.1, av]]
       exact h1⟩)
      rw [show (ts ++ [(b, nw, cap)]).length = ts.length + 1 from by simp] at HN ⊢
      clear hr2 hb2 hg2 hat2
      go_wp2_with fail
      clear s6 y0 y1 hsl
      go_roundw
      case measure => simp [intOf]; omega
      case rel => exact ⟨k + 1, Aj, tj, cj, _, _, rfl, show _ = ba .i64 ((k + 1 : Nat) : Int) from by go_num, by omega, ⟨HN.out.1, HN.out.2, HIN.out⟩⟩
   ·have hln : d.f3.length = nw := by have := RD.out.2 hk3; have := HW.out.2.2.1; omega
    have HK3 := I hk3
    have k3 : (d.f0 == 3) = af := beq_iff_eq.2 hk3
    have HIN := I (show dJ c.w0 Ai (inp.drop (hO ds (k + 1)).length) /\ ti = (inp.drop (hO ds (k + 1)).length).length /\ ti <= ci from by
     have h1 := HW.out.2.2.2.2.1
     rw [if_neg (by omega), fq] at h1
     rw [h1]
     exact ⟨HI.out.2.2.1, HI.out.2.2.2.1, HI.out.2.2.2.2⟩)
    have HC3 := I (show (Kd.int .u64).C u1 A9 nw d.f3 from hln ▸ HC9.out _ HU.out.1)
    have HL3 := I hln
    rw [hln] at d3
    clear hk3 hln
    go_wp2_with (refine Kd.R_copy (enc := fun x : Int => .int .u64 x) (h1 := fun _ => rfl) (0 : Int) (w0 := gg.W) gg.W.heap.size rfl (.tmp 40) (.tmp 42) 36 36 74 rfl kO (by kernel_rfl) (.slice (ac ⟨b, 0, ag⟩) nw cap) (bu nw (0 : Int)) d.f3 A9 nw c9 (fun _ => True) rfl rfl HU.out.2.2.1 HC3.out HU.out.1 HU.out.1.size ?_)
    intro u3 hr3 hb3 hg3
    have HWC := I (show Below gg.W.heap.size gg.W u3 /\ iS u3 b (kD wd d inp o nw) from ⟨hb3, by
     have e : kD wd d inp o nw = d.f3 := by
      unfold kD
      refine List.ext_getElem (by simp [HL3.out]) fun i h1 h2 => ?_
      rw [List.getElem_map, List.getElem_range]
      unfold kI
      rw [if_pos HK3.out, au, az h2]; rfl
     have hr4 : (Kd.int .u64).R 74 u3 gg.W.heap.size (fun _ => True) (.slice (ac ⟨b, 0, ag⟩) nw cap) (List.take nw d.f3) := hr3
     rw [ku (by rw [HL3.out]; exact ar _)] at hr4
     rw [e]
     obtain ⟨b', cap', cs, hv, hcs, hcells⟩ := oP hr4 (by rw [HL3.out]; omega)
     injection hv with hv
     injection hv with hv
     injection hv with hv
     subst hv
     exact ⟨cs, hcs, hcells⟩⟩)
    have s6 := HS6.out _ hb3
    clear hr3 hb3 hg3 d0 d1 d2 d3
    go_wp2_with (at_builtin; refine Kd.cW kSl (w0 := c.w0) c.w0.heap.size rfl (.tmp 71) (.tmp 73) 37 36 (.slice ag 0 0) 24 rfl nG info36 rfl (by decide) (by decide) vo ts (b, nw, cap) [.slice (ac ⟨b, 0, ag⟩) nw cap] (fun _ => True) (fun _ => False) rfl rfl rfl (fun _ h => h.elim) (fun _ _ => trivial) (HVS.out _ HWC.out.1).1.rows.out (HVS.out _ HWC.out.1).1.low (HVS.out _ HWC.out.1).1.low.size TL.out ?_)
    intro v2 u2 hr2 hb2 hg2 hat2
    have HSR := I ((HVS.out _ HWC.out.1).1.row hg2 (b := b) (cap := cap) (l := kD wd d inp o nw) (by rw [HPL.out]; exact hr2) HWC.out.2 HBB.out.1 HBB.out.2 hb2 HB.out.1)
    obtain ⟨A2, k2, hv2⟩ := Kd.cD hr2
    subst hv2
    have y0 : u2.cell? ⟨c.mb, 6, ag⟩ = ac vo := (aA HSR.out.2 6).trans rfl
    have y1 : u2.frozen? ⟨c.mb, 6, ag⟩ = J := aI HSR.out.2 6
    have HN := I (show Kt [36, 74, 93] (ac c.ab) X (u2.setCell ⟨c.mb, 6, ag⟩ (.slice A2 (ts ++ [(b, nw, cap)]).length k2)) /\ Sm c (k + 1) (.slice A2 (ts ++ [(b, nw, cap)]).length k2) (ts ++ [(b, nw, cap)]) (fT wd ds inp (k + 1)) (u2.setCell ⟨c.mb, 6, ag⟩ (.slice A2 (ts ++ [(b, nw, cap)]).length k2)) from ⟨(((HKV.out.trans (Kt.of_below HWC.out.1 _ _))).grown hg2 (fun j hj => by
     obtain ⟨inner, ho⟩ := Kd.mJ (HVS.out _ HWC.out.1).1.rows.out
     obtain ⟨cells, hc⟩ := dY ho j hj
     exact ⟨cells, 36, _, by simp, hc⟩)).set HSR.out.2 (by simp) 6 _, by
     have h1 := HSR.out.1
     rw [HPL.out] at h1
     rw [HW.out.2.2.2.1, show row0 wd d inp o = kD wd d inp o nw from by unfold row0 kD; rw [<- HW.out.2.2.1, av]]
     exact h1⟩)
    rw [show (ts ++ [(b, nw, cap)]).length = ts.length + 1 from by simp] at HN ⊢
    clear hr2 hb2 hg2 hat2
    go_wp2_with fail
    clear s6 y0 y1
    go_roundw
    case measure => simp [intOf]; omega
    case rel => exact ⟨k + 1, _, _, _, _, _, rfl, show _ = ba .i64 ((k + 1 : Nat) : Int) from by go_num, by omega, ⟨HN.out.1, HN.out.2, HIN.out⟩⟩
   ·have k3 : ¬ d.f0 = 3 := by omega
    have HK4 := I (show ¬ (d.f0 = 1 \/ d.f0 = 2) by omega)
    have HIN := I (show dJ c.w0 Ai (inp.drop (hO ds (k + 1)).length) /\ ti = (inp.drop (hO ds (k + 1)).length).length /\ ti <= ci from by
     have h1 := HW.out.2.2.2.2.1
     rw [if_neg (by omega), fq] at h1
     rw [h1]
     exact ⟨HI.out.2.2.1, HI.out.2.2.2.1, HI.out.2.2.2.2⟩)
    go_wp2_with fail
    refine (input_v (b := J) (by rw [decide_eq_false HK4.out]) A9 c9 u1 (HC9.out _ HU.out.1) HW.out.2.2.2.2.2.2.2.2.1).mono ?_
    rintro _ u3 ⟨rfl, hb3⟩
    have hb4 := HU.out.1.trans (hb3.mono HU.out.1.size)
    have HWC := I (show Below gg.W.heap.size gg.W u3 /\ iS u3 b (kD wd d inp o nw) from ⟨hb4, by
     have e : kD wd d inp o nw = mid0 wd d inp o nw 0 := by
      unfold kD mid0
      refine List.map_congr_left fun i hi => ?_
      rw [if_neg (cq _)]
      unfold kI
      rw [if_neg k3, if_neg HK4.out]
     rw [e]
     exact HU.out.2.1.imp fun cs h => ⟨aB h.1 hb3, h.2⟩⟩)
    have s6 := HS6.out _ hb4
    clear hb3 hb4 d0 d1 d2 d3
    go_wp2_with (at_builtin; refine Kd.cW kSl (w0 := c.w0) c.w0.heap.size rfl (.tmp 71) (.tmp 73) 37 36 (.slice ag 0 0) 24 rfl nG info36 rfl (by decide) (by decide) vo ts (b, nw, cap) [.slice (ac ⟨b, 0, ag⟩) nw cap] (fun _ => True) (fun _ => False) rfl rfl rfl (fun _ h => h.elim) (fun _ _ => trivial) (HVS.out _ HWC.out.1).1.rows.out (HVS.out _ HWC.out.1).1.low (HVS.out _ HWC.out.1).1.low.size TL.out ?_)
    intro v2 u2 hr2 hb2 hg2 hat2
    have HSR := I ((HVS.out _ HWC.out.1).1.row hg2 (b := b) (cap := cap) (l := kD wd d inp o nw) (by rw [HPL.out]; exact hr2) HWC.out.2 HBB.out.1 HBB.out.2 hb2 HB.out.1)
    obtain ⟨A2, k2, hv2⟩ := Kd.cD hr2
    subst hv2
    have y0 : u2.cell? ⟨c.mb, 6, ag⟩ = ac vo := (aA HSR.out.2 6).trans rfl
    have y1 : u2.frozen? ⟨c.mb, 6, ag⟩ = J := aI HSR.out.2 6
    have HN := I (show Kt [36, 74, 93] (ac c.ab) X (u2.setCell ⟨c.mb, 6, ag⟩ (.slice A2 (ts ++ [(b, nw, cap)]).length k2)) /\ Sm c (k + 1) (.slice A2 (ts ++ [(b, nw, cap)]).length k2) (ts ++ [(b, nw, cap)]) (fT wd ds inp (k + 1)) (u2.setCell ⟨c.mb, 6, ag⟩ (.slice A2 (ts ++ [(b, nw, cap)]).length k2)) from ⟨(((HKV.out.trans (Kt.of_below HWC.out.1 _ _))).grown hg2 (fun j hj => by
     obtain ⟨inner, ho⟩ := Kd.mJ (HVS.out _ HWC.out.1).1.rows.out
     obtain ⟨cells, hc⟩ := dY ho j hj
     exact ⟨cells, 36, _, by simp, hc⟩)).set HSR.out.2 (by simp) 6 _, by
     have h1 := HSR.out.1
     rw [HPL.out] at h1
     rw [HW.out.2.2.2.1, show row0 wd d inp o = kD wd d inp o nw from by unfold row0 kD; rw [<- HW.out.2.2.1, av]]
     exact h1⟩)
    rw [show (ts ++ [(b, nw, cap)]).length = ts.length + 1 from by simp] at HN ⊢
    clear hr2 hb2 hg2 hat2
    go_wp2_with fail
    clear s6 y0 y1
    go_roundw
    case measure => simp [intOf]; omega
    case rel => exact ⟨k + 1, _, _, _, _, _, rfl, show _ = ba .i64 ((k + 1 : Nat) : Int) from by go_num, by omega, ⟨HN.out.1, HN.out.2, HIN.out⟩⟩
  ·have hkn : k = n := by omega
   have HKN := I hkn
   have hge : ¬ (k : Int) < (n : Int) := by omega
   clear hkn
   go_wp2_with fail
   go_ret
   have hdn : c.ds.length = k := by rw [HB.out.2.2.2.2.2.2, <- HH.out.2.2.2.2.1, HKN.out]
   obtain ⟨D, a1, a2⟩ := HI.out.2.1.ha
   have h6 := HI.out.2.1
   have hM : MAt c (fT wd ds inp k) [] [] wr := ⟨h6.low, ⟨HB.out.1, HB.out.2.1, HB.out.2.2.1, HB.out.2.2.2.1, HB.out.2.2.2.2.1⟩, ⟨_, h6.m, _, h6.rows⟩, h6.eye, ⟨D, by rw [hdn]; exact a1, rA.ok (by rw [hdn]; exact a2)⟩, h6.hl⟩
   have hK := (Kt.of_below HH.out.2.2.2.2.2.2.2 [36, 74, 93] (ac c.ab)).trans HI.out.1
   rw [HKN.out] at hM
   rw [HC.out] at hM hK ⊢
   exact ⟨_, rfl, _, ⟨_, hM⟩, hK⟩
end
section
variable (nm : ByteArray) (wd ln : Int) (ds : List S70) (bd : List S119) (A3 : Option Addr) (c3 : Nat) (A4 : Option Addr) (c4 : Nat)
section
set_option maxRecDepth 100000
theorem bool_lit (W : World) (b : Bool) : Kd.bool.C (W.alloc (.cells #[.bool b] 4)) (ac ⟨W.heap.size, 0, ag⟩) 1 [b] :=
 (Kd.oY (n := 1) (c := 1) (show Kd.bool.R 4 (W.alloc (.cells #[.bool b] 4)) W.heap.size (fun _ => True) (.slice (ac ⟨W.heap.size, 0, ag⟩) 1 1) [b] from ⟨fun _ _ => trivial, [.bool b], own_lit_of (enc := ia) W W.heap.size 4 [b] (ar _) (by simp), dF.one rfl (dF.none _ _)⟩)).2.2
theorem lA {a b c : World} (h : Below a.heap.size a b) (k : Below b.heap.size b c) : Below a.heap.size a c := h.trans (k.mono h.size)
theorem lit_at {W V U : World} {b : Bool} (h : Below (W.alloc (.cells #[.bool b] 4)).heap.size (W.alloc (.cells #[.bool b] 4)) V) (k : Below V.heap.size V U) : Kd.bool.C U (ac ⟨W.heap.size, 0, ag⟩) 1 [b] := Kd.aF (bool_lit W b) (lA h k)
theorem public_calls (W : World) (hp : ProgAt W ds bd A3 c3 A4 c4) (hg : PGood nm wd ln ds bd) :
 Calls ak 17 #[.agg #[.string nm, .int .i64 wd, .int .i64 ln, .slice A3 ds.length c3, .slice A4 bd.length c4]] W fun e W' => ∃ v, e = .returned (.tuple #[v, .int .i64 (fS nm wd ln ds bd).2]) /\ Kd.bool.R 4 W' W.heap.size (fun _ => True) v (fS nm wd ln ds bd).1 /\ Below W.heap.size W W' := by
 obtain ⟨xb, hxb⟩ : ∃ b, b = W.heap.size := ⟨_, rfl⟩
 obtain ⟨n, hn⟩ : ∃ n, n = ds.length := ⟨_, rfl⟩
 obtain ⟨X, hX⟩ : ∃ X, X = W.alloc (.cells #[.string nm, .int .i64 wd, .int .i64 ln, .slice A3 ds.length c3, .slice A4 bd.length c4] 25) := ⟨_, rfl⟩
 have hXB : Below W.heap.size W X := by rw [hX]; exact bA _ _
 have hbx : X.heap[xb]? = ac (.cells #[.string nm, .int .i64 wd, .int .i64 ln, .slice A3 ds.length c3, .slice A4 bd.length c4] 25 (0, 0)) := by rw [hX, hxb]; exact aV _ _
 obtain ⟨r, hr⟩ : ∃ r, r = bJ nm wd ln ds bd := ⟨_, rfl⟩
 have HCK := I (pJ nm wd ln ds bd A3 c3 A4 c4 X (hp.below hXB) hg r hr)
 have hn1 : n <= 1048576 := by rw [hn]; exact hg.sizes.1
 have hd := hp.hd
 rw [<- hn] at HCK hbx hX hd ⊢
 have HX := I (ae hXB (ae hbx (ae hd (ae hn (ae hr hxb)))))
 have HXE := I (ae hX hxb)
 have x0 : X.cell? ⟨xb, 0, ag⟩ = ac (.string nm) := (aA hbx 0).trans rfl
 have x1 : X.cell? ⟨xb, 1, ag⟩ = ac (.int .i64 wd) := (aA hbx 1).trans rfl
 have x2 : X.cell? ⟨xb, 2, ag⟩ = ac (.int .i64 ln) := (aA hbx 2).trans rfl
 have x3 : X.cell? ⟨xb, 3, ag⟩ = ac (.slice A3 n c3) := (aA hbx 3).trans rfl
 have x4 : X.cell? ⟨xb, 4, ag⟩ = ac (.slice A4 bd.length c4) := (aA hbx 4).trans rfl
 clear hp hg hX hxb hXB hbx hr hd hn
 go_enter Tryz.func17, Tryz.ntmps17
 go_upto_region 1 with (fail)
 rw [<- HXE.out.1, <- HXE.out.2]
 go_wp2_with fail
 refine HCK.out.mono ?_
 rintro _ w1 ⟨rfl, hb1⟩
 have H1 := I hb1
 clear x0 x1 x2 x3 x4 hb1
 by_cases he : r.e = 0
 ·have HF := I (show (bJ nm wd ln ds bd).e = 0 from by rw [<- HX.out.2.2.2.2.1]; exact he)
  have he0 : (r.e == 0) = af := beq_iff_eq.2 he
  have x3 : w1.cell? ⟨xb, 3, ag⟩ = ac (.slice A3 n c3) := (aA (aB HX.out.2.1 H1.out) 3).trans rfl
  go_wp2_with fail
  clear x3
  go_loopw [5, 16] (fun o i W' => ∃ (k : Nat) (vo : Value), vo = o /\ i = .int .i64 k /\ k <= n /\ Aside0 (Below X.heap.size X W' /\ Kd.bool.R 4 W' X.heap.size (fun _ => True) vo (hO ds k))) (fun _ i _ => n - (intOf i).toNat)
  case atStart => exact ⟨0, _, rfl, rfl, bi _, ⟨H1.out, Kd.jN _ _ _ _ _⟩⟩
  case round =>
   obtain ⟨k, vo, rfl, rfl, hk, HB⟩ := hrel
   by_cases hlt : k < n
   ·have hlt2 : (k : Int) < (n : Int) := by omega
    have hw0 := HX.out.1.trans (HB.out.1.mono HX.out.1.size)
    obtain ⟨ad, A9, c9, e1, q0, q1, q2, q3, l9, g9⟩ := dN HX.out.2.2.1 (k : Int) (by omega) (by omega)
    cases e1
    rw [av] at q0 q1 q2 q3
    have hkd : k < ds.length := by rw [<- HX.out.2.2.2.1]; exact hlt
    have RD := eQ HF.out k hkd
    have PL := oM (fun i hi => eQ HF.out i hi) k (Nat.le_of_lt hkd)
    obtain ⟨d, hd⟩ : ∃ d, d = aG ds (k : Int) := ⟨_, rfl⟩
    have PS : hO ds (k + 1) = hO ds k ++ pubD d := by rw [hd]; rfl
    rw [<- hd] at q0 q1 q2 q3 l9 g9 RD
    have p0 := aE hw0 q0
    have p1 := aE hw0 q1
    have p2 := aE hw0 q2
    have p3 := aE hw0 q3
    obtain ⟨wn, w2, w3⟩ := hU RD.2
    obtain ⟨nw, hnw⟩ := dn (show 0 <= cK d by omega)
    obtain ⟨Wi, hWi⟩ : ∃ Wi, Wi = wr.alloc (.cells #[.int .i64 d.f0, .string d.f1, .int .i64 d.f2, .slice A9 d.f3.length c9] 70) := ⟨_, rfl⟩
    obtain ⟨gb, hgb⟩ : ∃ b, b = wr.heap.size := ⟨_, rfl⟩
    have hWB : Below wr.heap.size wr Wi := by rw [hWi]; exact bA _ _
    have hbw : Wi.heap[gb]? = ac (.cells #[.int .i64 d.f0, .string d.f1, .int .i64 d.f2, .slice A9 d.f3.length c9] 70 (0, 0)) := by rw [hWi, hgb]; exact aV _ _
    have hXW := HB.out.1.trans (hWB.mono HB.out.1.size)
    have HW := I (ae hXW (ae hbw (ae (Kd.bK HB.out.2 hWB) (ae g9 (ae l9 (ae hnw.symm (ae RD.2 (ae PS PL))))))))
    have hk0 := RD.1
    have hnw1 : nw <= 256 := by omega
    have PLK := I (show (hO ds k).length <= 268435456 by omega)
    clear q0 q1 q2 q3 l9 g9 hd hkd RD PS PL wn w2 w3 hnw hWB hbw hXW hw0
    go_upto_region 8 with (fail)
    rw [<- hgb]
    rw [<- hWi]
    clear hWi hgb p0 p1 p2 p3
    have HBW := I (show ∀ g : G Wi, g.W.heap[gb]? = ac (.cells #[.int .i64 d.f0, .string d.f1, .int .i64 d.f2, .slice A9 d.f3.length c9] 70 (0, 0)) from fun g => aB HW.out.2.1 g.below)
    have b0 : ∀ g : G Wi, g.W.cell? ⟨gb, 0, ag⟩ = ac (.int .i64 d.f0) := fun g => (aA (HBW.out g) 0).trans rfl
    have b1 : ∀ g : G Wi, g.W.cell? ⟨gb, 1, ag⟩ = ac (.string d.f1) := fun g => (aA (HBW.out g) 1).trans rfl
    have b2 : ∀ g : G Wi, g.W.cell? ⟨gb, 2, ag⟩ = ac (.int .i64 d.f2) := fun g => (aA (HBW.out g) 2).trans rfl
    have b3 : ∀ g : G Wi, g.W.cell? ⟨gb, 3, ag⟩ = ac (.slice A9 d.f3.length c9) := fun g => (aA (HBW.out g) 3).trans rfl
    have HC9 := I (show ∀ W', Below Wi.heap.size Wi W' -> (Kd.int .u64).C W' A9 d.f3.length d.f3 from fun W' h => Kd.aF HW.out.2.2.2.1 (HX.out.1.trans ((HW.out.1.trans (h.mono HW.out.1.size)).mono HX.out.1.size)))
    refine aH ?_
    intro gg
    obtain ⟨inb, hin⟩ : ∃ b, b = decide (d.f0 = 1 \/ d.f0 = 2) := ⟨_, rfl⟩
    go_wp2_with fail
    refine (aD (g := gg) (input_v hin A9 c9 gg.W (HC9.out _ gg.below) HW.out.2.2.2.2.1)).mono ?_
    rintro _ _ ⟨rfl, gg, rfl⟩
    by_cases hi1 : d.f0 = 1 \/ d.f0 = 2
    ·have HI1 := I hi1
     rw [decide_eq_true hi1] at hin
     subst hin
     obtain ⟨b, hbb⟩ : ∃ b, (d.f0 == 1) = b := ⟨_, rfl⟩
     have HBB := I hbb
     clear hi1
     have HNW := I (show 1 <= nw /\ nw <= 256 from ⟨by have := (hU HW.out.2.2.2.2.2.2.1).2; have := HW.out.2.2.2.2.2.1; omega, hnw1⟩)
     have HVO := I (show Kd.bool.R 4 gg.W X.heap.size (fun _ => True) vo (hO ds k) /\ Below X.heap.size X gg.W from ⟨Kd.bK HW.out.2.2.1 gg.below, HW.out.1.trans (gg.below.mono HW.out.1.size)⟩)
     have LEN := I (show ((hO ds k).length + nw) * 1 <= 140737488355328 by have := PLK.out; omega)
     have HBX := I (HBW.out gg)
     have HC0 := I (HC9.out _ gg.below)
     have CF := I (show ∀ w' : World, w'.heap[gb]? = ac (.cells #[.int .i64 d.f0, .string d.f1, .int .i64 d.f2, .slice A9 d.f3.length c9] 70 (0, 0)) -> w'.cell? ⟨gb, 0, ag⟩ = ac (.int .i64 d.f0) /\ w'.cell? ⟨gb, 1, ag⟩ = ac (.string d.f1) /\ w'.cell? ⟨gb, 2, ag⟩ = ac (.int .i64 d.f2) /\ w'.cell? ⟨gb, 3, ag⟩ = ac (.slice A9 d.f3.length c9) from fun w' h => ⟨(aA h 0).trans rfl, (aA h 1).trans rfl, (aA h 2).trans rfl, (aA h 3).trans rfl⟩)
     obtain ⟨c0, c1, c2, c3⟩ := CF.out gg.W.drew HBX.out
     go_upto_region 9 with (fail)
     clear b0 b1 b2 b3
     go_region_held3 (fun w' => w'.cell? ⟨gb, 0, ag⟩ = ac (.int .i64 d.f0) /\ w'.cell? ⟨gb, 1, ag⟩ = ac (.string d.f1) /\ w'.cell? ⟨gb, 2, ag⟩ = ac (.int .i64 d.f2) /\ w'.cell? ⟨gb, 3, ag⟩ = ac (.slice A9 d.f3.length c9))
      (first | exact CF.out _ hx5 | exact CF.out _ hx4 | exact CF.out _ hx3 | exact CF.out _ HBX.out | exact CF.out _ (aB hx3 (by first | exact aq _ _ | exact gy (aq _ _) (ar _) _ | exact fk (aq _ _) | exact fk (gy (aq _ _) (ar _) _) | exact fk (gy (fk (aq _ _)) (ar _) _))) | exact CF.out _ (aB HBX.out (by first | exact aq _ _ | exact gy (aq _ _) (ar _) _ | exact fk (aq _ _) | exact fk (gy (aq _ _) (ar _) _) | exact fk (gy (fk (aq _ _)) (ar _) _))))
      (first | (go_at_call 63; refine (words_v HW.out.2.2.2.2.2.2.1 HW.out.2.2.2.2.2.1 A9 c9 _ (Kd.aF HC0.out (by first | exact aq _ _ | exact gy (aq _ _) (ar _) _ | exact fk (aq _ _) | exact fk (gy (aq _ _) (ar _) _) | exact fk (gy (fk (aq _ _)) (ar _) _))) HW.out.2.2.2.2.1).mono ?_; rintro _ w3 ⟨rfl, hb3⟩; have hB3 : Below gg.W.heap.size gg.W w3 := lA (by first | exact aq _ _ | exact gy (aq _ _) (ar _) _ | exact fk (aq _ _) | exact fk (gy (aq _ _) (ar _) _) | exact fk (gy (fk (aq _ _)) (ar _) _)) hb3; have hx3 := aB HBX.out hB3; first | (have hl3 := lit_at (W := gg.W) (b := b) (fk (aq _ _)) hb3) | (have hl3 := lit_at (W := gg.W) (b := b) (aq _ _) hb3) | skip) | (go_at_call 62; (first | (refine (nV b nw HNW.out.1 HNW.out.2 (ac ⟨gg.W.heap.size, 0, ag⟩) 1 w3 hl3 (by simp)).mono ?_) | (refine (nV b nw HNW.out.1 HNW.out.2 (ac ⟨w3.heap.size, 0, ag⟩) 1 _ (lit_at (W := w3) (b := b) (by first | exact aq _ _ | exact gy (aq _ _) (ar _) _ | exact fk (aq _ _) | exact fk (gy (aq _ _) (ar _) _) | exact fk (gy (fk (aq _ _)) (ar _) _)) (aq _ _)) (by simp)).mono ?_)); rintro _ w4 ⟨vr, rfl, hvr, hb4⟩; obtain ⟨Ar, cr, hv, lr, hcr⟩ := Kd.d7 hvr; subst hv; rw [iz] at lr hcr ⊢; have hB4 : Below gg.W.heap.size gg.W w4 := lA hB3 (lA (by first | exact aq _ _ | exact gy (aq _ _) (ar _) _ | exact fk (aq _ _) | exact fk (gy (aq _ _) (ar _) _) | exact fk (gy (fk (aq _ _)) (ar _) _)) hb4); have hx4 := aB HBX.out hB4; clear hvr) | (refine Kd.dQ Kd.bool (Rr := Kd.bool.K w4) (w0 := X) X.heap.size (by rfl) (.tmp 22) (.tmp 29) 30 4 (.bool J) 1 rfl under30 info4 rfl (show 0 < 1 by decide) (by decide) vo (hO ds k) (bu nw b) Ar nw cr (fun _ => True) (fun _ => False) (by rfl) (by rfl) (Kd.bK HVO.out.1 hB4) hcr (fun _ _ h => h) (fun _ h => h.elim) (fun _ _ => trivial) (lA HVO.out.2 hB4) (lA HVO.out.2 hB4).size LEN.out ?_; intro v1 u1 hr1 hb1 hg1 hat1; have hx5 := fU hx4 hg1 (Kd.R_ne (Kd.bK HVO.out.1 hB4) hx4 (by decide))))
     all_goals (
      have HN := I (show Below X.heap.size X u1 /\ Kd.bool.R 4 u1 X.heap.size (fun _ => True) v1 (hO ds (k + 1)) from ⟨hb1, by rw [HW.out.2.2.2.2.2.2.2.1, pubD, if_pos HI1.out, <- HW.out.2.2.2.2.2.1, av, HBB.out]; exact hr1⟩)
      clear hr1 hb1 hg1 hat1 hbb
      go_wp2_with fail
      go_roundw
      case measure => simp [intOf]; omega
      case rel => exact ⟨k + 1, _, rfl, show _ = ba .i64 ((k + 1 : Nat) : Int) from by go_num, by omega, HN⟩)
    ·have HN := I (show Below X.heap.size X gg.W /\ Kd.bool.R 4 gg.W X.heap.size (fun _ => True) vo (hO ds (k + 1)) from ⟨HW.out.1.trans (gg.below.mono HW.out.1.size), by rw [HW.out.2.2.2.2.2.2.2.1, pubD, if_neg hi1, df]; exact Kd.bK HW.out.2.2.1 gg.below⟩)
     rw [decide_eq_false hi1] at hin
     subst hin
     clear hi1 b0 b1 b2 b3
     go_wp2_with fail
     go_roundw
     case measure => simp [intOf]; omega
     case rel => exact ⟨k + 1, _, rfl, show _ = ba .i64 ((k + 1 : Nat) : Int) from by go_num, by omega, HN⟩
   ·have hkn : k = n := by omega
    have HKN := I hkn
    have hge : ¬ (k : Int) < (n : Int) := by omega
    clear hkn
    go_wp2_with fail
    go_ret2
    have ha := (mG nm wd ln ds bd).1 HF.out
    refine ⟨vo, ?_, ?_, HX.out.1.trans (HB.out.1.mono HX.out.1.size)⟩
    ·rw [ha]; rfl
    ·rw [ha, <- HX.out.2.2.2.1, <- HKN.out]; exact Kd.fX HB.out.2 HX.out.1.size
 ·have HF := I (show ¬ (bJ nm wd ln ds bd).e = 0 from by rw [<- HX.out.2.2.2.2.1]; exact he)
  go_wp2_with fail
  go_ret2
  have ha := (mG nm wd ln ds bd).2 HF.out
  refine ⟨.slice ag 0 0, ?_, ?_, HX.out.1.trans (H1.out.mono HX.out.1.size)⟩
  ·rw [ha, <- HX.out.2.2.2.2.1]; rfl
  ·rw [ha]; exact Kd.jN _ _ _ _ _
section
attribute [local go_sem] G.cell
theorem length_calls (W : World) (hp : ProgAt W ds bd A3 c3 A4 c4) (hg : PGood nm wd ln ds bd) :
 Calls ak 15 #[.agg #[.string nm, .int .i64 wd, .int .i64 ln, .slice A3 ds.length c3, .slice A4 bd.length c4]] W fun e W' => e = .returned (.tuple #[.int .i64 ((fS nm wd ln ds bd).1.length : Int), .int .i64 (fS nm wd ln ds bd).2]) /\ Below W.heap.size W W' := by
 have gout := @gA W
 have HP := I (fun W' (h : Below W.heap.size W W') => public_calls nm wd ln ds bd A3 c3 A4 c4 W' (hp.below h) hg)
 clear hp hg
 go_enter Tryz.func15, Tryz.ntmps15
 go_upto_region 1 with (fail)
 refine aH ?_
 intro gg
 go_wp2_with fail
 refine (HP.out gg.W (gout gg)).mono ?_
 rintro _ w1 ⟨v, rfl, hR, hB⟩
 obtain ⟨Av, cv, hv⟩ := Kd.cD hR
 subst hv
 have HB := I ((gout gg).trans (hB.mono (gout gg).size))
 clear hR hB
 go_wp2_with fail
 go_ret2
 exact ⟨rfl, HB.out⟩
end
end
end
section
variable (nm : ByteArray) (wd ln : Int) (ds : List S70) (bd : List S119) (A3 : Option Addr) (c3 : Nat) (A4 : Option Addr) (c4 : Nat)
section
set_option maxRecDepth 100000
theorem min64 (ats : Array TypeId) (ty : TypeId) (m : Nat) : Builtin.min_ ats ty #[.int .i64 (m : Int), .int .i64 64] = pure (.int .i64 ((min m 64 : Nat) : Int)) := by
 rw [j9, gY]
 by_cases h : (64 : Int) < (m : Int)
 ·rw [if_pos h, iw (by omega)]; rfl
 ·rw [if_neg h, cy (by omega)]; rfl
attribute [local go_sem high] min64
theorem k101_new {w : World} {base : Nat} {v : Value} (h : w.ownsRow base 101 3 v 0 []) : oD.R 101 w base (fun _ => True) v [] := ⟨fun _ _ => trivial, [], h, dF.none _ _⟩
theorem info101' : ∃ i, Tryz.prog.info? 101 = ac i /\ i.zero = ac (.agg #[.int .i64 0, .int .u64 0, .int .u64 0]) /\ i.size = 3 /\ i.bytes = 24 := by
 obtain ⟨i, hi, hz⟩ := gf.1 info101
 simp only [Prod.mk.injEq] at hz
 exact ⟨i, hi, hz⟩
theorem sizeTop_calls (w : World) (hp : ProgAt w ds bd A3 c3 A4 c4) (hg : PGood nm wd ln ds bd) (r : Int × Int) (hr : r = sizeS 1099511627776 nm wd ln ds bd) :
 Calls ak 65 #[.agg #[.string nm, .int .i64 wd, .int .i64 ln, .slice A3 ds.length c3, .slice A4 bd.length c4]] w fun e w' => e = .returned (.tuple #[.int .i64 r.1, .int .i64 r.2]) /\ Below w.heap.size w w' := size_calls nm wd ln ds bd A3 c3 A4 c4 w hp hg r hr
theorem run_calls (W : World) (hp : ProgAt W ds bd A3 c3 A4 c4) (hg : PGood nm wd ln ds bd) (inp : List Int) (A : Option Addr) (cI : Nat) (hI : dJ W A inp) (hu : ∀ v ∈ inp, U64 v) (hcI : inp.length <= cI) :
 Calls ak 23 #[.agg #[.string nm, .int .i64 wd, .int .i64 ln, .slice A3 ds.length c3, .slice A4 bd.length c4], .slice A inp.length cI] W fun e W' => ∃ vS vT, e = .returned (.tuple #[.agg #[vS, vT], .int .i64 (eX nm wd ln ds bd inp).1]) /\ rH W' vS vT (eX nm wd ln ds bd inp).2.1 (eX nm wd ln ds bd inp).2.2 /\ Below W.heap.size W W' := by
 obtain ⟨X, hX⟩ : ∃ X, X = (W.alloc (.cells #[.string nm, .int .i64 wd, .int .i64 ln, .slice A3 ds.length c3, .slice A4 bd.length c4] 25)).alloc (.cells #[.slice ag 0 0, .slice ag 0 0] 40) := ⟨_, rfl⟩
 have hX1 : Below W.heap.size W (W.alloc (.cells #[.string nm, .int .i64 wd, .int .i64 ln, .slice A3 ds.length c3, .slice A4 bd.length c4] 25)) := (aq _ _).alloc (ar _) _
 have hXB : Below W.heap.size W X := by rw [hX]; exact hX1.alloc (by simp) _
 have hbx : X.heap[W.heap.size]? = ac (.cells #[.string nm, .int .i64 wd, .int .i64 ln, .slice A3 ds.length c3, .slice A4 bd.length c4] 25 (0, 0)) := by
  rw [hX]; exact aB (aV _ _) ((aq _ _).alloc (ar _) _)
 have hbr : X.heap[W.heap.size + 1]? = ac (.cells #[.slice ag 0 0, .slice ag 0 0] 40 (0, 0)) := by
  rw [hX]
  have := aV (W.alloc (.cells #[.string nm, .int .i64 wd, .int .i64 ln, .slice A3 ds.length c3, .slice A4 bd.length c4] 25)) (.cells #[.slice ag 0 0, .slice ag 0 0] 40)
  simpa using this
 obtain ⟨⟨l, er⟩, hle⟩ : ∃ r, r = fS nm wd ln ds bd := ⟨_, rfl⟩
 have HL2 := I (show Calls ak 15 #[.agg #[.string nm, .int .i64 wd, .int .i64 ln, .slice A3 ds.length c3, .slice A4 bd.length c4]] X fun e W' => e = .returned (.tuple #[.int .i64 (l.length : Int), .int .i64 er]) /\ Below X.heap.size X W' from by
  have h := length_calls nm wd ln ds bd A3 c3 A4 c4 X (hp.below hXB) hg
  rw [<- hle] at h; exact h)
 have HX := I (ae hXB (ae hbx (ae hbr (hp.below hXB))))
 have HI := I (ae hI (ae hu (ae hcI hp)))
 have HG := I hg
 have HLE := I hle
 have x0 : X.cell? ⟨W.heap.size, 0, ag⟩ = ac (.string nm) := (aA hbx 0).trans rfl
 have x1 : X.cell? ⟨W.heap.size, 1, ag⟩ = ac (.int .i64 wd) := (aA hbx 1).trans rfl
 have x2 : X.cell? ⟨W.heap.size, 2, ag⟩ = ac (.int .i64 ln) := (aA hbx 2).trans rfl
 have x3 : X.cell? ⟨W.heap.size, 3, ag⟩ = ac (.slice A3 ds.length c3) := (aA hbx 3).trans rfl
 have x4 : X.cell? ⟨W.heap.size, 4, ag⟩ = ac (.slice A4 bd.length c4) := (aA hbx 4).trans rfl
 clear hp hg hI hu hcI hXB hX1 hbx hbr hle
 go_enter Tryz.func23, Tryz.ntmps23
 go_upto_region 1 with (fail)
 rw [<- hX]
 clear hX
 go_wp2_with fail
 refine HL2.out.mono ?_
 rintro _ w1 ⟨rfl, hb1⟩
 have H1 := I hb1
 by_cases he : er = 0
 ·by_cases hn : inp.length = l.length
  ·have HE := I (show (bJ nm wd ln ds bd).e = 0 /\ l = hO ds ds.length from by
    have h := HLE.out
    unfold fS at h
    by_cases h0 : (bJ nm wd ln ds bd).e = 0
    ·rw [if_pos h0] at h
     injection h with h _
     exact ⟨h0, h⟩
    ·rw [if_neg h0] at h
     injection h with _ h
     exact absurd (h.symm.trans he) h0)
   subst he
   rw [hn]
   have HN := I hn
   clear x0 x1 x2 x3 x4 hb1 hn
   have hx1 := aB HX.out.2.1 H1.out
   have x0 : w1.cell? ⟨W.heap.size, 0, ag⟩ = ac (.string nm) := (aA hx1 0).trans rfl
   have x1 : w1.cell? ⟨W.heap.size, 1, ag⟩ = ac (.int .i64 wd) := (aA hx1 1).trans rfl
   have x2 : w1.cell? ⟨W.heap.size, 2, ag⟩ = ac (.int .i64 ln) := (aA hx1 2).trans rfl
   have x3 : w1.cell? ⟨W.heap.size, 3, ag⟩ = ac (.slice A3 ds.length c3) := (aA hx1 3).trans rfl
   have x4 : w1.cell? ⟨W.heap.size, 4, ag⟩ = ac (.slice A4 bd.length c4) := (aA hx1 4).trans rfl
   go_wp2_with fail
   have SZ := I (size_right HE.out.1)
   refine (sizeTop_calls nm wd ln ds bd A3 c3 A4 c4 w1 (HX.out.2.2.2.below H1.out) HG.out _ SZ.out).mono ?_
   rintro _ w2 ⟨rfl, hb2⟩
   have H2 := I (H1.out.trans (hb2.mono H1.out.size))
   have HSZ := I (size_le HE.out.1)
   obtain ⟨most, hmost⟩ : ∃ m : Nat, m = bR bd := ⟨_, rfl⟩
   rw [<- hmost]
   have HMO := I hmost
   have hm1 : (most : Int) <= 65536 := by have := HSZ.out; omega
   clear hmost
   obtain ⟨eb, heb⟩ : ∃ b, b = w2.heap.size := ⟨_, rfl⟩
   obtain ⟨w3, hw3⟩ : ∃ w, w = w2.alloc (.cells #[.slice ag 0 0, .int .i64 (most : Int)] 84) := ⟨_, rfl⟩
   have H3 := I (show Below w2.heap.size w2 w3 /\ w3.heap[eb]? = ac (.cells #[.slice ag 0 0, .int .i64 (most : Int)] 84 (0, 0)) /\ eb = w2.heap.size /\ eb < w3.heap.size from ⟨by rw [hw3]; exact (aq _ _).alloc (ar _) _, by rw [hw3, heb]; exact aV _ _, heb, by rw [hw3, heb]; simp⟩)
   clear x0 x1 x2 x3 x4 hx1 hb2
   go_upto_region 8 with (fail)
   rw [<- heb]
   rw [<- hw3]
   clear heb hw3
   have hm0 : (0 : Int) <= (most : Int) := by omega
   have e1 : w3.cell? ⟨eb, 1, ag⟩ = ac (.int .i64 (most : Int)) := (aA H3.out.2.1 1).trans rfl
   obtain ⟨ii, hi1, hi2, hi3, hi4⟩ := info101'
   have HII := I (ae hi1 (ae hi2 (ae hi3 hi4)))
   clear hi1 hi2 hi3 hi4
   have HBA := I (show W.heap.size <= w3.heap.size from bh (bh HX.out.1.size H2.out.size) H3.out.1.size)
   go_wp2_with (at_make; refine wpList_make_own w3 rfl (.const (.int .i64 0)) (.tmp 42) 38 rfl W.heap.size 101 ii (.agg #[.int .i64 0, .int .u64 0, .int .u64 0]) 3 under38 HII.out.1 HII.out.2.1 HII.out.2.2.1 .i64 .i64 _ (min most 64) rfl rfl rfl (by rw [HII.out.2.2.2]; omega) (by unfold maxLen; omega) HBA.out ?_)
   intro w4 ho4 hg4
   have H4 := I (ae (k101_new ho4) hg4)
   clear ho4 hg4
   have he0 : w4.cell? ⟨eb, 0, ag⟩ = ac (.slice ag 0 0) := (aA (fU H3.out.2.1 H4.out.2 (by simp)) 0).trans rfl
   have he1 : w4.frozen? ⟨eb, 0, ag⟩ = J := aI (fU H3.out.2.1 H4.out.2 (by simp)) 0
   go_upto_region 9 with (fail)
   obtain ⟨w5, hw5⟩ : ∃ w, w = w4.setCell ⟨eb, 0, ag⟩ (.slice (ac ⟨w3.heap.size, 0, ag⟩) 0 (min most 64)) := ⟨_, rfl⟩
   have hb4 := fU H3.out.2.1 H4.out.2 (by simp)
   have hk5 : Kt [84] ag X w5 := by
    rw [hw5]
    exact (((Kt.of_below H2.out [84] ag).trans (Kt.of_below H3.out.1 [84] ag)).grown H4.out.2 (fun k e => by cases e)).set hb4 (by simp) 0 _
   have hB5 : Below W.heap.size W w5 := by
    rw [hw5]
    have h1 := HX.out.1.trans (H2.out.mono HX.out.1.size)
    have h2 := h1.trans (H3.out.1.mono h1.size)
    exact (h2.grown H4.out.2 h2.size (fun k e => by cases e)).setCell (p := ⟨eb, 0, ag⟩) (by show W.heap.size <= eb; rw [H3.out.2.2.1]; exact h1.size) _
   have hE5 : ∃ vt, w5.heap[eb]? = ac (.cells #[vt, .int .i64 (most : Int)] 84 (0, 0)) /\ oD.R 101 w5 W.heap.size (fun _ => True) vt [] := by
    rw [hw5]
    exact ⟨_, by simpa using bT hb4 0 (.slice (ac ⟨w3.heap.size, 0, ag⟩) 0 (min most 64)), Kd.R_set H4.out.1 hb4 (fun q hq => by rw [E101 hq]; decide) 0 _⟩
   have hx5 := hk5.blk _ _ _ _ HX.out.2.1 (by simp)
   have HST := I (start_calls nm wd ln ds bd A3 c3 A4 c4 W w5 eb most HI.out.2.2.2 HG.out HE.out.1 inp A cI HI.out.1 HI.out.2.2.1 HI.out.2.1 (by rw [HN.out, HE.out.2]) hB5 (by rw [H3.out.2.2.1]; exact bh HX.out.1.size H2.out.size) hE5)
   rw [HN.out] at HST
   have H5 := I (ae hk5 hB5)
   rw [<- hw5]
   clear he0 he1 hw5 hb4 hk5 hB5 hE5 e1
   have x0 : w5.cell? ⟨W.heap.size, 0, ag⟩ = ac (.string nm) := (aA hx5 0).trans rfl
   have x1 : w5.cell? ⟨W.heap.size, 1, ag⟩ = ac (.int .i64 wd) := (aA hx5 1).trans rfl
   have x2 : w5.cell? ⟨W.heap.size, 2, ag⟩ = ac (.int .i64 ln) := (aA hx5 2).trans rfl
   have x3 : w5.cell? ⟨W.heap.size, 3, ag⟩ = ac (.slice A3 ds.length c3) := (aA hx5 3).trans rfl
   have x4 : w5.cell? ⟨W.heap.size, 4, ag⟩ = ac (.slice A4 bd.length c4) := (aA hx5 4).trans rfl
   clear hx5
   go_wp2_with fail
   refine HST.out.mono ?_
   rintro _ w6 ⟨mb, ab, lb, rfl, hM6, hk6⟩
   obtain ⟨c, hc⟩ : ∃ c : Cfg, c = ⟨W, nm, wd, ln, ds, bd, A3, c3, A4, c4, mb, eb, ab, lb, most⟩ := ⟨_, rfl⟩
   rw [<- hc] at hM6
   have HC := I hc
   have hX6 := hk6.blk _ _ _ _ (H5.out.1.blk _ _ _ _ HX.out.2.1 (by simp)) (by simp)
   have hR6 := hk6.blk _ _ _ _ (H5.out.1.blk _ _ _ _ HX.out.2.2.1 (by simp)) (by simp)
   have hmb2 : c.mb = mb := by rw [hc]
   have hS := jM HE.out.1
   have HBD := I (show BodyM c bd from body_calls c (by rw [hc]; exact hS) _ bd (ar _))
   have hRK := rok_right (wd := wd) HG.out HE.out.1 HI.out.2.1
   have hTK := tok_right HG.out HE.out.1
   have HCB := I (show dC.C c.w0 A4 bd.length bd /\ bd.length <= c4 /\ ROK c.ds (fT wd ds inp ds.length) /\ (∀ x ∈ bd, TOK c.ds [] x) /\ c.eb = eb /\ c.w0 = W /\ ds.length <= 256 from by rw [hc]; exact ⟨HI.out.2.2.2.hb, HI.out.2.2.2.hlb, hRK, hTK, rfl, rfl, hS.few⟩)
   have H6 := I (ae hM6 (ae hX6 hR6))
   have x4' : w6.cell? ⟨W.heap.size, 4, ag⟩ = ac (.slice A4 bd.length c4) := (aA hX6 4).trans rfl
   rw [<- hmb2]
   clear x0 x1 x2 x3 x4 hk6 hM6 hX6 hR6 hRK hTK hS hmb2 hc
   go_wp2_with fail
   refine (HBD.out w6 _ [] [] A4 c4 H6.out.1 HCB.out.2.2.1 (fun p hp => absurd hp List.not_mem_nil) HCB.out.2.2.2.1 (by rw [List.length_nil]; have := HSZ.out; omega) HCB.out.1 HCB.out.2.1).mono ?_
   rintro _ w7 ⟨rfl, hM7, hk7, hr7⟩
   have HEN := I (show eH c.wd c.ln c.ds bd [] (fT wd ds inp ds.length, []) = endOf wd ln ds bd inp from by rw [HC.out]; rfl)
   rw [HEN.out] at hM7 hr7
   obtain ⟨E, hE⟩ : ∃ E, E = endOf wd ln ds bd inp := ⟨_, rfl⟩
   rw [<- hE] at hM7 hr7
   obtain ⟨vt, heb7, hT7⟩ := hM7.he
   obtain ⟨At, ct, hvt⟩ := Kd.cD hT7
   subst hvt
   obtain ⟨vr, hmb7, ts, hrt⟩ := hM7.hm
   obtain ⟨Ar, cr, hvr, hsl⟩ := hrt.slot
   subst hvr
   have hlen : E.1.length = ds.length := by have := hr7.len; rw [HC.out] at this; exact this
   rw [HCB.out.2.2.2.2.1] at heb7
   have hx7 := hk7.blk _ _ _ _ H6.out.2.1 (by simp)
   have hr70 := hk7.blk _ _ _ _ H6.out.2.2 (by simp)
   have hlow : Below W.heap.size W w7 := by have := hM7.low; rwa [HCB.out.2.2.2.2.2.1] at this
   have t0 : w7.cell? ⟨eb, 0, ag⟩ = ac (.slice At E.2.length ct) := (aA heb7 0).trans rfl
   obtain ⟨n, hn⟩ : ∃ n, n = ds.length := ⟨_, rfl⟩
   obtain ⟨ob, hob⟩ : ∃ b, b = w7.heap.size := ⟨_, rfl⟩
   obtain ⟨w8, hw8⟩ : ∃ w, w = w7.alloc (.cells #[.slice ag 0 0, .slice At E.2.length ct] 40) := ⟨_, rfl⟩
   have hb8 : Below w7.heap.size w7 w8 := by rw [hw8]; exact (aq _ _).alloc (ar _) _
   have ho8 : w8.heap[ob]? = ac (.cells #[.slice ag 0 0, .slice At E.2.length ct] 40 (0, 0)) := by rw [hw8, hob]; exact aV _ _
   have HD3 := HI.out.2.2.2.hd
   rw [hlen] at hsl hmb7 hrt
   rw [<- hn] at hsl hmb7 hrt hx7 HD3
   have H7 := I (ae hx7 (ae hr70 (ae hmb7 (ae hrt (ae hsl (ae hT7 (ae hlow (ae hlen (ae hn (ae hE HD3))))))))))
   have H8 := I (ae hb8 (ae ho8 hob))
   have hn256 : n <= 256 := by rw [hn]; exact HCB.out.2.2.2.2.2.2
   have hx8 : w8.cell? ⟨W.heap.size, 3, ag⟩ = ac (.slice A3 n c3) := (aA (aB hx7 hb8) 3).trans rfl
   clear x4' hM7 hk7 hr7 heb7 hT7 hmb7 hrt hsl hlen hx7 hr70 hlow hn hE HD3 hb8 ho8
   go_upto_region 12 with (fail)
   rw [<- hob]
   rw [<- hw8]
   clear hob hw8 t0
   go_wp2_with fail
   clear hx8
   go_loopw [65] (fun i W' => ∃ (k : Nat) (vo : Value), i = .int .i64 k /\ k <= n /\ Aside0 (Below w7.heap.size w7 W' /\ kSl.R 36 W' w7.heap.size (fun _ => True) vo (cX ds ts k) /\ W'.heap[ob]? = ac (.cells #[vo, .slice At E.2.length ct] 40 (0, 0)))) (fun i _ => n - (intOf i).toNat)
   case atStart => exact ⟨0, _, rfl, bi _, ⟨H8.out.1, Kd.jN _ _ _ _ _, H8.out.2.1⟩⟩
   case round =>
    obtain ⟨k, vo, rfl, hk, HK⟩ := hrel
    by_cases hlt : k < n
    ·have hlt2 : (k : Int) < (n : Int) := by omega
     have hw0 : Below W.heap.size W wr := H7.out.2.2.2.2.2.2.1.trans (HK.out.1.mono H7.out.2.2.2.2.2.2.1.size)
     obtain ⟨ad, A9, c9, e1, q0, q1, q2, q3, l9, g9⟩ := dN H7.out.2.2.2.2.2.2.2.2.2.2 (k : Int) (by omega) (by omega)
     cases e1
     rw [av] at q0 q1 q2 q3
     obtain ⟨d, hd⟩ : ∃ d, d = aG ds (k : Int) := ⟨_, rfl⟩
     have TS := toldT_succ ds ts k
     rw [<- hd] at q0 q1 q2 q3 TS
     have p0 := aE hw0 q0
     have p1 := aE hw0 q1
     have p2 := aE hw0 q2
     have p3 := aE hw0 q3
     obtain ⟨gb, hgb⟩ : ∃ b, b = wr.heap.size := ⟨_, rfl⟩
     obtain ⟨Wi, hWi⟩ : ∃ Wi, Wi = wr.alloc (.cells #[.int .i64 d.f0, .string d.f1, .int .i64 d.f2, .slice A9 d.f3.length c9] 70) := ⟨_, rfl⟩
     have hWB : Below wr.heap.size wr Wi := by rw [hWi]; exact bA _ _
     have hbw : Wi.heap[gb]? = ac (.cells #[.int .i64 d.f0, .string d.f1, .int .i64 d.f2, .slice A9 d.f3.length c9] 70 (0, 0)) := by rw [hWi, hgb]; exact aV _ _
     have d0 : Wi.cell? ⟨gb, 0, ag⟩ = ac (.int .i64 d.f0) := (aA hbw 0).trans rfl
     have HW := I (ae (HK.out.1.trans (hWB.mono HK.out.1.size)) (ae hWB TS))
     clear q0 q1 q2 q3 l9 g9 hd TS hw0 hbw hWB
     go_upto_region 15 with (fail)
     rw [<- hgb]
     rw [<- hWi]
     clear hWi hgb p0 p1 p2 p3
     by_cases h3 : d.f0 = 3
     ·have HN2 := I (show Below w7.heap.size w7 Wi /\ kSl.R 36 Wi w7.heap.size (fun _ => True) vo (cX ds ts (k + 1)) /\ Wi.heap[ob]? = ac (.cells #[vo, .slice At E.2.length ct] 40 (0, 0)) from ⟨HW.out.1, by rw [HW.out.2.2, if_pos h3]; exact Kd.bK HK.out.2.1 HW.out.2.1, aB HK.out.2.2 HW.out.2.1⟩)
      have k3 : (d.f0 == 3) = af := beq_iff_eq.2 h3
      have k4 : (d.f0 != 3) = J := by rw [bne, k3]; rfl
      clear h3
      go_wp2_with fail
      go_roundw
      case measure => simp [intOf]; omega
      case rel => exact ⟨k + 1, _, show _ = ba .i64 ((k + 1 : Nat) : Int) from by go_num, by omega, HN2⟩
     ·obtain ⟨ad2, eA, qs⟩ := H7.out.2.2.2.2.1 k hlt
      subst eA
      obtain ⟨⟨t1, t2, t3⟩, ht⟩ : ∃ t, t = ts.getD k zSl := ⟨_, rfl⟩
      rw [<- ht] at qs
      replace qs : w7.cell? (ad2.add k) = ac (.slice (ac ⟨t1, 0, ag⟩) t2 t3) := qs
      have HT := I (show cX ds ts (k + 1) = cX ds ts k ++ [(t1, t2, t3)] from by rw [HW.out.2.2, if_neg h3, ht])
      have TL := I (show ((cX ds ts k).length + 1) * 24 <= 140737488355328 by have := mX ds k; simp [cX]; omega)
      have HD := I (show ∀ g : G Wi, Below w7.heap.size w7 g.W /\ kSl.R 36 g.W w7.heap.size (fun _ => True) vo (cX ds ts k) /\ g.W.heap[ob]? = ac (.cells #[vo, .slice At E.2.length ct] 40 (0, 0)) from fun g => ⟨HW.out.1.trans (g.below.mono HW.out.1.size), Kd.bK (Kd.bK HK.out.2.1 HW.out.2.1) g.below, aB (aB HK.out.2.2 HW.out.2.1) g.below⟩)
      have m6 : ∀ g : G Wi, g.W.cell? ⟨c.mb, 6, ag⟩ = ac (.slice (ac ad2) n cr) := fun g => (aA (aB H7.out.2.2.1 (HD.out g).1) 6).trans rfl
      have o0 : ∀ g : G Wi, g.W.cell? ⟨ob, 0, ag⟩ = ac vo := fun g => (aA (HD.out g).2.2 0).trans rfl
      have rk : ∀ g : G Wi, g.W.cell? (ad2.add k) = ac (.slice (ac ⟨t1, 0, ag⟩) t2 t3) := fun g => aE (HD.out g).1 qs
      clear ht qs
      go_upto_region 16 with (fail)
      clear d0
      refine aH ?_
      intro gg
      refine fZ (n := 13) (S := fun w' => ∃ g' : G _, w' = g'.W) (ds := [10, 12]) #[J, J, J, J, J, J, J, J, J, J, J, J, J] (by kernel_rfl) rfl rfl ⟨mkG (gg.2.drew), rfl⟩ (fun hHeld => ?_)
      obtain ⟨gd, hgd⟩ := hHeld
      rw [hgd]
      clear hgd
      refine bB (i := 0) (N := ac 73) (v := ?_) (a' := ?_) #[af, J, J, J, J, J, J, J, J, J, J, J, J] rfl rfl (by kernel_rfl) (fun _ _ _ h => h) (bg ⟨by rfl, ?_⟩) ?_ ?_
      rotate_left
      ·intro w'
       go_simp
       with_reducible rfl
      rotate_left
      ·simp only [ax, aa, ah, ai, aN, aM]
       rfl
      refine dP (i := 1) (N := ac 74) (v := ?_) (a' := ?_) #[af, af, J, J, J, J, J, J, J, J, J, J, J] rfl rfl (by kernel_rfl) (fun _ _ _ h => h) (bg ⟨by rfl, ?_⟩) ⟨gd, rfl⟩ ?_ ?_
      rotate_left
      ·rintro w' ⟨g', rfl⟩
       go_simp
       with_reducible rfl
      rotate_left
      ·simp only [ax, aa, ah, ai, aN, aM]
       rfl
      refine bB (i := 2) (N := ac 75) (v := ?_) (a' := ?_) #[af, af, af, J, J, J, J, J, J, J, J, J, J] rfl rfl (by kernel_rfl) (fun _ _ _ h => h) (bg ⟨by rfl, ?_⟩) ?_ ?_
      rotate_left
      ·intro w'
       go_simp
       with_reducible rfl
      rotate_left
      ·simp only [ax, aa, ah, ai, aN, aM]
       rfl
      refine bB (i := 3) (N := ac 76) (v := ?_) (a' := ?_) #[af, af, af, af, J, J, J, J, J, J, J, J, J] rfl rfl (by kernel_rfl) (fun _ _ _ h => h) (bg ⟨by rfl, ?_⟩) ?_ ?_
      rotate_left
      ·intro w'
       go_simp
       with_reducible rfl
      rotate_left
      ·simp only [ax, aa, ah, ai, aN, aM]
       rfl
      refine bB (i := 4) (N := ac 77) (v := ?_) (a' := ?_) #[af, af, af, af, af, J, J, J, J, J, J, J, J] rfl rfl (by kernel_rfl) (fun _ _ _ h => h) (bg ⟨by rfl, ?_⟩) ?_ ?_
      rotate_left
      ·intro w'
       go_simp
       with_reducible rfl
      rotate_left
      ·simp only [ax, aa, ah, ai, aN, aM]
       rfl
      refine dP (i := 5) (N := ac 78) (v := ?_) (a' := ?_) #[af, af, af, af, af, af, J, J, J, J, J, J, J] rfl rfl (by kernel_rfl) (fun _ _ _ h => h) (bg ⟨by rfl, ?_⟩) ⟨gd, rfl⟩ ?_ ?_
      rotate_left
      ·rintro w' ⟨g', rfl⟩
       go_simp
       with_reducible rfl
      rotate_left
      ·simp only [ax, aa, ah, ai, aN, aM]
       rfl
      refine bB (i := 6) (N := ac 79) (v := ?_) (a' := ?_) #[af, af, af, af, af, af, af, J, J, J, J, J, J] rfl rfl (by kernel_rfl) (fun _ _ _ h => h) (bg ⟨by rfl, ?_⟩) ?_ ?_
      rotate_left
      ·intro w'
       go_simp
       with_reducible rfl
      rotate_left
      ·simp only [ax, aa, ah, ai, aN, aM]
       rfl
      refine bB (i := 7) (N := ac 80) (v := ?_) (a' := ?_) #[af, af, af, af, af, af, af, af, J, J, J, J, J] rfl rfl (by kernel_rfl) (fun _ _ _ h => h) (bg ⟨by rfl, ?_⟩) ?_ ?_
      rotate_left
      ·intro w'
       go_simp
       with_reducible rfl
      rotate_left
      ·simp only [ax, aa, ah, ai, aN, aM]
       rfl
      refine dP (i := 8) (N := ac 81) (v := ?_) (a' := ?_) #[af, af, af, af, af, af, af, af, af, J, J, J, J] rfl rfl (by kernel_rfl) (fun _ _ _ h => h) (bg ⟨by rfl, ?_⟩) ⟨gd, rfl⟩ ?_ ?_
      rotate_left
      ·rintro w' ⟨g', rfl⟩
       go_simp
       with_reducible rfl
      rotate_left
      ·simp only [ax, aa, ah, ai, aN, aM]
       rfl
      refine kJ (i := 9) (N := ac 82) #[af, af, af, af, af, af, af, af, af, af, J, J, J] rfl rfl (by kernel_rfl) (by simp) (fun Kr hKr => ?_)
      refine dZ (v := .slice (ac ⟨gd.W.heap.size, 0, ag⟩) 1 1) (w1 := gd.W.alloc (.cells #[.slice (ac ⟨t1, 0, ag⟩) t2 t3] 36)) (by rfl) (by first | (go_simp; done) | (go_simp; rfl)) ?_
      refine hKr.out _ _ ⟨mkG (G.ball gd _), rfl⟩ (fun _ => ?_)
      clear hKr Kr
      refine cU (a' := ?_) ?_ ?_
      rotate_left
      ·show ax _ (ac 82) _ = _
       simp only [ax, aa, ah, ai, aN, aM]
       rfl
      refine oF (i := 10) (N := ac 83) #[af, af, af, af, af, af, af, af, af, af, af, J, J] rfl rfl (by kernel_rfl) (by simp) (fun Kr hKr => ?_)
      refine Kd.gX kSl (w0 := w7) w7.heap.size (by rfl) (.tmp 74) (.tmp 82) 37 36 (.slice ag 0 0) 24 rfl nG info36 rfl (show 0 < 1 by decide) (by decide) vo (cX ds ts k) (t1, t2, t3) [.slice (ac ⟨t1, 0, ag⟩) t2 t3] (fun _ => True) (fun _ => False) (by rfl) (by rfl) rfl (fun _ h => h.elim) (fun _ _ => trivial) (HD.out gd).2.1 (HD.out gd).1 (HD.out gd).1.size TL.out ?_
      intro v1 u1 hr1 hb1 hg1 hat1
      have hob1 := fU (HD.out gd).2.2 hg1 (Kd.R_ne (HD.out gd).2.1 (HD.out gd).2.2 (by decide))
      have y0 := aA hob1 0
      have y1 := aI hob1 0
      obtain ⟨A1, k1, hv1⟩ := Kd.cD hr1
      subst hv1
      have HE1 := I (ae hr1 (ae hb1 hob1))
      clear hr1 hb1 hg1 hat1 hob1
      refine hKr.out _ _ ?_
      clear hKr Kr
      refine cU (a' := ?_) ?_ ?_
      rotate_left
      ·show ax _ (ac 83) _ = _
       simp only [ax, aa, ah, ai, aN, aM]
       rfl
      refine bB (i := 11) (N := ac 84) (v := ?_) (a' := ?_) #[af, af, af, af, af, af, af, af, af, af, af, af, J] rfl rfl (by kernel_rfl) (fun _ _ _ h => h) (bg ⟨by rfl, ?_⟩) ?_ ?_
      rotate_left
      ·intro w'
       go_simp
       with_reducible rfl
      rotate_left
      ·simp only [ax, aa, ah, ai, aN, aM]
       rfl
      refine oF (i := 12) (N := ag) #[af, af, af, af, af, af, af, af, af, af, af, af, af] rfl rfl (by kernel_rfl) (by simp) (fun Kr hKr => ?_)
      refine skip_ (w1 := u1.setCell ⟨ob, 0, ag⟩ (.slice A1 (cX ds ts k ++ [(t1, t2, t3)]).length k1)) (by rfl) rfl (by first | (go_simp; done) | (go_simp; rfl)) ?_
      refine hKr.out _ _ ?_
      clear hKr Kr
      refine kH (by kernel_rfl) ?_
      have hle : w7.heap.size <= ob := by rw [H8.out.2.2]; exact ar _
      have hrs := Kd.R_set HE1.out.1 HE1.out.2.2 (fun q hq => by
       have : q = 36 := by simpa [kSl, Kd.scalar] using hq
       rw [this]; decide) 0 (.slice A1 (cX ds ts k ++ [(t1, t2, t3)]).length k1)
      rw [<- HT.out] at hrs
      have hbs := bT HE1.out.2.2 0 (.slice A1 (cX ds ts k ++ [(t1, t2, t3)]).length k1)
      rw [<- HT.out] at hbs
      have hbl := HE1.out.2.1.setCell (p := ⟨ob, 0, ag⟩) hle (.slice A1 (cX ds ts k ++ [(t1, t2, t3)]).length k1)
      rw [<- HT.out] at hbl
      have HN2 := I (show Below w7.heap.size w7 (u1.setCell ⟨ob, 0, ag⟩ (.slice A1 (cX ds ts (k + 1)).length k1)) /\ kSl.R 36 (u1.setCell ⟨ob, 0, ag⟩ (.slice A1 (cX ds ts (k + 1)).length k1)) w7.heap.size (fun _ => True) (.slice A1 (cX ds ts (k + 1)).length k1) (cX ds ts (k + 1)) /\ (u1.setCell ⟨ob, 0, ag⟩ (.slice A1 (cX ds ts (k + 1)).length k1)).heap[ob]? = ac (.cells #[.slice A1 (cX ds ts (k + 1)).length k1, .slice At E.2.length ct] 40 (0, 0)) from ⟨hbl, hrs, by simpa using hbs⟩)
      rw [<- HT.out]
      clear hle hrs hbs hbl
      clear y0 y1 m6 o0 rk
      go_wp2_with fail
      go_roundw
      case measure => simp [intOf]; omega
      case rel => exact ⟨k + 1, _, show _ = ba .i64 ((k + 1 : Nat) : Int) from by go_num, by omega, HN2⟩
    ·have hkn : k = n := by omega
     have hge : ¬ (k : Int) < (n : Int) := by omega
     have HKN := I hkn
     obtain ⟨Ao, ko, hvo⟩ := Kd.cD HK.out.2.1
     subst hvo
     have o0 : wr.cell? ⟨ob, 0, ag⟩ = ac (.slice Ao (cX ds ts k).length ko) := (aA HK.out.2.2 0).trans rfl
     have o1 : wr.cell? ⟨ob, 1, ag⟩ = ac (.slice At E.2.length ct) := (aA HK.out.2.2 1).trans rfl
     have hrE := aB H7.out.2.1 HK.out.1
     have r0 : wr.cell? ⟨W.heap.size + 1, 0, ag⟩ = ac (.slice ag 0 0) := (aA hrE 0).trans rfl
     have r1 : wr.cell? ⟨W.heap.size + 1, 1, ag⟩ = ac (.slice ag 0 0) := (aA hrE 1).trans rfl
     have f0 : wr.frozen? ⟨W.heap.size + 1, 0, ag⟩ = J := aI hrE 0
     have f1 : wr.frozen? ⟨W.heap.size + 1, 1, ag⟩ = J := aI hrE 1
     have hkt : Kt [40] ag wr ((wr.setCell ⟨W.heap.size + 1, 0, ag⟩ (.slice Ao (cX ds ts k).length ko)).setCell ⟨W.heap.size + 1, 1, ag⟩ (.slice At E.2.length ct)) := ((Kt.refl _ _ _).set hrE (by simp) 0 _).set (bT hrE 0 _) (by simp) 1 _
     have hR1 := (H7.out.2.2.2.1.below HK.out.1).kt hkt (by simp) (by simp)
     have hV1 := hkt.row HK.out.2.1 (fun q hq => by
      have : q = 36 := by simpa [kSl, Kd.scalar] using hq
      rw [this]; simp)
     have hke : cX ds ts k = cX ds ts ds.length := by rw [hkn, H7.out.2.2.2.2.2.2.2.2.1]
     rw [hke] at hV1 hkt hR1
     obtain ⟨A1, k1, e1, hra⟩ := told_rows hR1 H7.out.2.2.2.2.2.2.2.1 (aq _ _) hV1
     obtain ⟨A2, k2, e2, -, hC2⟩ := Kd.d7 (hkt.row (Kd.bK H7.out.2.2.2.2.2.1 HK.out.1) (fun q hq => by rw [E101 hq]; simp))
     rw [<- hke] at e1 hra hC2
     have HEA := I (ae e1 (ae hra (ae e2 hC2)))
     have HA := I (show eX nm wd ln ds bd inp = (0, told ds E.1, E.2) from by unfold eX; rw [if_pos HE.out.1, if_pos (by rw [HN.out, HE.out.2]), H7.out.2.2.2.2.2.2.2.2.2.1])
     have hlow := H7.out.2.2.2.2.2.2.1.trans (HK.out.1.mono H7.out.2.2.2.2.2.2.1.size)
     have HBE := I ((hlow.setCell (p := ⟨W.heap.size + 1, 0, ag⟩) (iy _) (.slice Ao (cX ds ts k).length ko)).setCell (p := ⟨W.heap.size + 1, 1, ag⟩) (iy _) (.slice At E.2.length ct))
     obtain ⟨wE, hwE⟩ : ∃ w, w = (wr.setCell ⟨W.heap.size + 1, 0, ag⟩ (.slice Ao (cX ds ts k).length ko)).setCell ⟨W.heap.size + 1, 1, ag⟩ (.slice At E.2.length ct) := ⟨_, rfl⟩
     have z0 : wE.cell? ⟨W.heap.size + 1, 0, ag⟩ = ac (.slice Ao (cX ds ts k).length ko) := by rw [hwE]; exact (aA (bT (bT hrE 0 _) 1 _) 0).trans rfl
     have z1 : wE.cell? ⟨W.heap.size + 1, 1, ag⟩ = ac (.slice At E.2.length ct) := by rw [hwE]; exact (aA (bT (bT hrE 0 _) 1 _) 1).trans rfl
     rw [<- hwE] at HEA HBE
     have HWE := I hwE
     have HZ := I (ae z0 z1)
     clear hke e1 hra e2 hC2 hwE hrE hlow hkn z0 z1
     go_wp2_with fail
     rw [<- HWE.out]
     refine bodyPost_ret (gC rfl rfl rfl HZ.out.1 HZ.out.2) rfl ?_
     refine ⟨.slice Ao (cX ds ts k).length ko, .slice At E.2.length ct, ?_, ?_, ?_⟩
     ·rw [HA.out]; rfl
     ·rw [HA.out]
      exact ⟨⟨A1, k1, HEA.out.1, HEA.out.2.1⟩, A2, k2, HEA.out.2.2.1, HEA.out.2.2.2⟩
     ·exact HBE.out
  ·have hx := aB HX.out.2.2.1 H1.out
   have HXX := I hx
   have r0 : w1.cell? ⟨W.heap.size + 1, 0, ag⟩ = ac (.slice ag 0 0) := (aA hx 0).trans rfl
   have r1 : w1.cell? ⟨W.heap.size + 1, 1, ag⟩ = ac (.slice ag 0 0) := (aA hx 1).trans rfl
   have f0 : w1.frozen? ⟨W.heap.size + 1, 0, ag⟩ = J := aI hx 0
   have f1 : w1.frozen? ⟨W.heap.size + 1, 1, ag⟩ = J := aI hx 1
   have hn2 : ¬ (inp.length : Int) = (l.length : Int) := fun h => hn (by omega)
   have HA := I (show eX nm wd ln ds bd inp = (170, [], []) from by
    have h := HLE.out
    unfold fS at h
    by_cases h0 : (bJ nm wd ln ds bd).e = 0
    ·rw [if_pos h0] at h
     injection h with h _
     unfold eX; rw [if_pos h0, if_neg (by rw [<- h]; exact hn)]
    ·rw [if_neg h0] at h
     injection h with _ h
     exact absurd (h.symm.trans he) h0)
   subst he
   clear hx x0 x1 x2 x3 x4 hb1
   go_wp2_with fail
   refine bodyPost_ret (gC (b := W.heap.size + 1) (vS := .slice ag 0 0) (vT := .slice ag 0 0) rfl rfl rfl ((aA (bT (bT HXX.out 0 (.slice ag 0 0)) 1 (.slice ag 0 0)) 0).trans rfl) ((aA (bT (bT HXX.out 0 (.slice ag 0 0)) 1 (.slice ag 0 0)) 1).trans rfl)) rfl ?_
   refine ⟨.slice ag 0 0, .slice ag 0 0, ?_, ?_, ?_⟩
   ·rw [HA.out]; rfl
   ·rw [HA.out]; exact rH.none _
   ·exact ((HX.out.1.trans (H1.out.mono HX.out.1.size)).setCell (p := ⟨W.heap.size + 1, 0, ag⟩) (iy _) _).setCell (p := ⟨W.heap.size + 1, 1, ag⟩) (iy _) _
 ·have hx := aB HX.out.2.2.1 H1.out
  have HXX := I hx
  have r0 : w1.cell? ⟨W.heap.size + 1, 0, ag⟩ = ac (.slice ag 0 0) := (aA hx 0).trans rfl
  have r1 : w1.cell? ⟨W.heap.size + 1, 1, ag⟩ = ac (.slice ag 0 0) := (aA hx 1).trans rfl
  have f0 : w1.frozen? ⟨W.heap.size + 1, 0, ag⟩ = J := aI hx 0
  have f1 : w1.frozen? ⟨W.heap.size + 1, 1, ag⟩ = J := aI hx 1
  have HA := I (show eX nm wd ln ds bd inp = (er, [], []) from by
   have h := HLE.out
   unfold fS at h
   by_cases h0 : (bJ nm wd ln ds bd).e = 0
   ·rw [if_pos h0] at h
    injection h with _ h
    exact absurd h he
   ·rw [if_neg h0] at h
    injection h with _ h
    unfold eX; rw [if_neg h0, h])
  clear hx x0 x1 x2 x3 x4 hb1
  go_wp2_with fail
  refine bodyPost_ret (gC (b := W.heap.size + 1) (vS := .slice ag 0 0) (vT := .slice ag 0 0) rfl rfl rfl ((aA (bT (bT HXX.out 0 (.slice ag 0 0)) 1 (.slice ag 0 0)) 0).trans rfl) ((aA (bT (bT HXX.out 0 (.slice ag 0 0)) 1 (.slice ag 0 0)) 1).trans rfl)) rfl ?_
  refine ⟨.slice ag 0 0, .slice ag 0 0, ?_, ?_, ?_⟩
  ·rw [HA.out]; rfl
  ·rw [HA.out]; exact rH.none _
  ·exact ((HX.out.1.trans (H1.out.mono HX.out.1.size)).setCell (p := ⟨W.heap.size + 1, 0, ag⟩) (iy _) _).setCell (p := ⟨W.heap.size + 1, 1, ag⟩) (iy _) _
end
end
section
set_option maxRecDepth 100000
def SameE (e : S116) : Prop := ∀ (W : World) (A B : Option Addr) (c d : Nat), cQ.C W A e.f3.length e.f3 -> e.f3.length <= c -> cQ.C W B e.f3.length e.f3 -> e.f3.length <= d ->
 Calls ak 118 #[.agg #[.int .i64 e.f0, .int .u64 e.f1, .string e.f2, .slice A e.f3.length c], .agg #[.int .i64 e.f0, .int .u64 e.f1, .string e.f2, .slice B e.f3.length d]] W fun r W' => r = .returned (.bool af) /\ Below W.heap.size W W'
theorem sameE_walk (e : S116) (hlen : e.f3.length <= 1073741824) (ih : ∀ y ∈ e.f3, SameE y) : SameE e := by
 intro W A B c d hA hc hB hd
 obtain ⟨k, num, nm, l⟩ := e
 replace hlen : l.length <= 1073741824 := hlen
 replace hA : cQ.C W A l.length l := hA
 replace hB : cQ.C W B l.length l := hB
 replace hc : l.length <= c := hc
 replace hd : l.length <= d := hd
 replace ih : ∀ y ∈ l, SameE y := ih
 show Calls ak 118 #[.agg #[.int .i64 k, .int .u64 num, .string nm, .slice A l.length c], .agg #[.int .i64 k, .int .u64 num, .string nm, .slice B l.length d]] W fun r W' => r = .returned (.bool af) /\ Below W.heap.size W W'
 obtain ⟨n, hn⟩ : ∃ n, n = l.length := ⟨_, rfl⟩
 rw [<- hn] at hA hB hlen ⊢
 obtain ⟨X0, hX0⟩ : ∃ X, X = W.alloc (.cells #[.int .i64 k, .int .u64 num, .string nm, .slice A n c] 116) := ⟨_, rfl⟩
 obtain ⟨X, hX⟩ : ∃ X, X = X0.alloc (.cells #[.int .i64 k, .int .u64 num, .string nm, .slice B n d] 116) := ⟨_, rfl⟩
 have b0 : Below W.heap.size W X0 := by rw [hX0]; exact (aq _ _).alloc (ar _) _
 have b1 : Below X0.heap.size X0 X := by rw [hX]; exact bA _ _
 have hb0 : X.heap[W.heap.size]? = ac (.cells #[.int .i64 k, .int .u64 num, .string nm, .slice A n c] 116 (0, 0)) := aB (by rw [hX0]; exact aV _ _) b1
 have hb1 : X.heap[W.heap.size + 1]? = ac (.cells #[.int .i64 k, .int .u64 num, .string nm, .slice B n d] 116 (0, 0)) := by
  have h1 : X0.heap.size = W.heap.size + 1 := by rw [hX0]; simp
  rw [<- h1, hX]; exact aV _ _
 have hXB : Below W.heap.size W X := b0.trans (b1.mono b0.size)
 have HX := I (ae hXB (ae hb0 (ae hb1 (ae hA (ae hB hn)))))
 have IH := I ih
 have HXE := I (show (W.alloc (.cells #[.int .i64 k, .int .u64 num, .string nm, .slice A n c] 116)).alloc (.cells #[.int .i64 k, .int .u64 num, .string nm, .slice B n d] 116) = X from by rw [hX, hX0])
 have x0 : X.cell? ⟨W.heap.size, 0, ag⟩ = ac (.int .i64 k) := (aA hb0 0).trans rfl
 have x1 : X.cell? ⟨W.heap.size, 1, ag⟩ = ac (.int .u64 num) := (aA hb0 1).trans rfl
 have x2 : X.cell? ⟨W.heap.size, 2, ag⟩ = ac (.string nm) := (aA hb0 2).trans rfl
 have x3 : X.cell? ⟨W.heap.size, 3, ag⟩ = ac (.slice A n c) := (aA hb0 3).trans rfl
 have y0 : X.cell? ⟨W.heap.size + 1, 0, ag⟩ = ac (.int .i64 k) := (aA hb1 0).trans rfl
 have y1 : X.cell? ⟨W.heap.size + 1, 1, ag⟩ = ac (.int .u64 num) := (aA hb1 1).trans rfl
 have y2 : X.cell? ⟨W.heap.size + 1, 2, ag⟩ = ac (.string nm) := (aA hb1 2).trans rfl
 have y3 : X.cell? ⟨W.heap.size + 1, 3, ag⟩ = ac (.slice B n d) := (aA hb1 3).trans rfl
 clear hA hB hc hd ih hn hX0 hX b0 b1 hb0 hb1 hXB
 go_enter Tryz.func118, Tryz.ntmps118
 go_upto_region 1 with (fail)
 rw [HXE.out]
 go_wp2_with fail
 clear x0 x1 x2 x3 y0 y1 y2 y3
 go_loopw [5] (fun i W' => ∃ j : Nat, i = .int .i64 j /\ j <= n /\ Aside0 (Below X.heap.size X W')) (fun i _ => n - (intOf i).toNat)
 case atStart => exact ⟨0, rfl, bi _, ⟨aq _ _⟩⟩
 case round =>
  obtain ⟨j, rfl, hj, HB⟩ := hrel
  have x3 : ∀ g : G wr, g.W.cell? ⟨W.heap.size, 3, ag⟩ = ac (.slice A n c) := fun g => (aA (aB (aB HX.out.2.1 HB.out) g.below) 3).trans rfl
  have y3 : ∀ g : G wr, g.W.cell? ⟨W.heap.size + 1, 3, ag⟩ = ac (.slice B n d) := fun g => (aA (aB (aB HX.out.2.2.1 HB.out) g.below) 3).trans rfl
  refine aH ?_
  intro gg
  by_cases hlt : j < n
  ·have hlt2 : (j : Int) < (n : Int) := by omega
   obtain ⟨ad, A9, c9, e1, q0, q1, q2, q3, l9, g9⟩ := fR HX.out.2.2.2.1 (j : Int) (by omega) (by omega)
   cases e1
   obtain ⟨bd, B9, d9, e2, p0, p1, p2, p3, m9, h9⟩ := fR HX.out.2.2.2.2.1 (j : Int) (by omega) (by omega)
   cases e2
   rw [av] at q0 q1 q2 q3 p0 p1 p2 p3
   have hj0 : j < l.length := by rw [<- HX.out.2.2.2.2.2]; exact hlt
   have MEM := I (show bO l (j : Int) ∈ l from by unfold bO; rw [av, au, az hj0]; exact ef hj0)
   obtain ⟨y, hy⟩ : ∃ y, y = bO l (j : Int) := ⟨_, rfl⟩
   rw [<- hy] at q0 q1 q2 q3 p0 p1 p2 p3 l9 g9 m9 h9 MEM
   have HW := I (show ∀ g : G wr, Below W.heap.size W g.W from fun g => HX.out.1.trans ((HB.out.trans (g.below.mono HB.out.size)).mono HX.out.1.size))
   have HC := I (show ∀ g : G wr, Calls ak 118 #[.agg #[.int .i64 y.f0, .int .u64 y.f1, .string y.f2, .slice A9 y.f3.length c9], .agg #[.int .i64 y.f0, .int .u64 y.f1, .string y.f2, .slice B9 y.f3.length d9]] g.W fun r W' => r = .returned (.bool af) /\ Below g.W.heap.size g.W W' from fun g => IH.out y MEM.out g.W A9 B9 c9 d9 (Kd.aF g9 (HW.out g)) l9 (Kd.aF h9 (HW.out g)) m9)
   have s0 : ∀ g : G wr, g.W.cell? (ad.add (j * 4)) = _ := fun g => aE (HW.out g) q0
   have s1 : ∀ g : G wr, g.W.cell? ⟨(ad.add (j * 4)).block, (ad.add (j * 4)).off + 1, ag⟩ = _ := fun g => aE (HW.out g) q1
   have s2 : ∀ g : G wr, g.W.cell? ⟨(ad.add (j * 4)).block, (ad.add (j * 4)).off + 2, ag⟩ = _ := fun g => aE (HW.out g) q2
   have s3 : ∀ g : G wr, g.W.cell? ⟨(ad.add (j * 4)).block, (ad.add (j * 4)).off + 3, ag⟩ = _ := fun g => aE (HW.out g) q3
   have t0 : ∀ g : G wr, g.W.cell? (bd.add (j * 4)) = _ := fun g => aE (HW.out g) p0
   have t1 : ∀ g : G wr, g.W.cell? ⟨(bd.add (j * 4)).block, (bd.add (j * 4)).off + 1, ag⟩ = _ := fun g => aE (HW.out g) p1
   have t2 : ∀ g : G wr, g.W.cell? ⟨(bd.add (j * 4)).block, (bd.add (j * 4)).off + 2, ag⟩ = _ := fun g => aE (HW.out g) p2
   have t3 : ∀ g : G wr, g.W.cell? ⟨(bd.add (j * 4)).block, (bd.add (j * 4)).off + 3, ag⟩ = _ := fun g => aE (HW.out g) p3
   clear q0 q1 q2 q3 p0 p1 p2 p3 l9 g9 m9 h9 hy hj0
   go_wp2_with fail
   refine bX (by kernel_rfl) (by kernel_rfl) ?_
   repeat (go_big_quiet_step (first | (go_at_call 118; exact aD (HC.out _))))
   refine wpQuiet_nil ?_
   rintro _ ⟨gg, rfl⟩
   clear x3 y3 s0 s1 s2 s3 t0 t1 t2 t3
   go_wp2_with fail
   refine ⟨⟨j + 1, show _ = ba .i64 ((j + 1 : Nat) : Int) from by go_num, by omega, ⟨HB.out.trans (gg.below.mono HB.out.size)⟩⟩, by simp [intOf]; omega⟩
  ·have hge : ¬ (j : Int) < (n : Int) := by omega
   go_wp2_with fail
   go_ret
   exact ⟨rfl, HX.out.1.trans ((HB.out.trans (gg.below.mono HB.out.size)).mono HX.out.1.size)⟩
theorem bulkEs_mem {l : List S116} {x : S116} (h : x ∈ l) : Ot.lG x <= Ot.jJ l := by
 induction l with
 | nil => cases h
 | cons y r ih =>
   rw [Ot.jJ]
   rcases gi.1 h with rfl | h
   ·omega
   ·have := ih h; omega
theorem bulkEs_len (l : List S116) : l.length <= Ot.jJ l := by
 induction l with
 | nil => simp
 | cons y r ih =>
   obtain ⟨a, b, s, m⟩ := y
   rw [Ot.jJ, Ot.lG, iv]; omega
theorem bulkTs_len (l : List S119) : l.length <= Ot.bW l := by
 induction l with
 | nil => simp
 | cons y r ih => rw [Ot.bW, bH, iv]; omega
theorem sameE_all : ∀ (n : Nat) (e : S116), cd e <= n -> Ot.lG e <= 1073741824 -> SameE e := by
 intro n
 induction n with
 | zero => intro e h; obtain ⟨a, b, s, l⟩ := e; simp at h
 | succ n ih =>
   intro e h hb
   have hl : Ot.jJ e.f3 <= 1073741824 := by
    obtain ⟨a, b, s, l⟩ := e
    rw [Ot.lG] at hb
    show Ot.jJ l <= _; omega
   exact sameE_walk e (bh (bulkEs_len _) hl) fun y hy => ih y (eK rfl hy h) (bh (bulkEs_mem hy) hl)
def SameB (l : List S119) : Prop := ∀ (W : World) (A B : Option Addr) (c d : Nat), dC.C W A l.length l -> dC.C W B l.length l ->
 Calls ak 71 #[.slice A l.length c, .slice B l.length d] W fun r W' => r = .returned (.bool af) /\ Below W.heap.size W W'
theorem two_new {w X : World} {c1 c2 : Array Value} {t g1 g2 : Nat} (hX : X = ((w.alloc (.cells c1 t)).alloc (.cells c2 t)).drew) (h1 : g1 = w.heap.size) (h2 : g2 = w.heap.size + 1) : Below w.heap.size w X /\ X.heap[g1]? = ac (.cells c1 t (0, 0)) /\ X.heap[g2]? = ac (.cells c2 t (0, 0)) := by
 subst h1 h2
 have b0 : Below w.heap.size w (w.alloc (.cells c1 t)) := (aq _ _).alloc (ar _) _
 have b1 : Below (w.alloc (.cells c1 t)).heap.size (w.alloc (.cells c1 t)) X := by rw [hX]; exact ((aq _ _).alloc (ar _) _).drew
 have hs : (w.alloc (.cells c1 t)).heap.size = w.heap.size + 1 := by simp
 refine ⟨b0.trans (b1.mono b0.size), aB (aV _ _) b1, ?_⟩
 rw [<- hs, hX]
 exact aV (w.alloc (.cells c1 t)) (.cells c2 t)
theorem sameB_walk (l : List S119) (hb : Ot.bW l <= 1073741824) (ih : ∀ x ∈ l, SameB x.f6 /\ SameB x.f7) : SameB l := by
 intro W A B c d hA hB
 have hlen : l.length <= 1073741824 := bh (bulkTs_len l) hb
 obtain ⟨n, hn⟩ : ∃ n, n = l.length := ⟨_, rfl⟩
 rw [<- hn] at hA hB hlen ⊢
 have HX := I (ae hA (ae hB (ae hn hb)))
 have IH := I ih
 clear hA hB hn hb ih
 go_enter Tryz.func71, Tryz.ntmps71
 go_wp2_with fail
 go_loopw [5] (fun i W' => ∃ j : Nat, i = .int .i64 j /\ j <= n /\ Aside0 (Below W.heap.size W W')) (fun i _ => n - (intOf i).toNat)
 case atStart => exact ⟨0, rfl, bi _, ⟨aq _ _⟩⟩
 case round =>
  obtain ⟨j, rfl, hj, HB⟩ := hrel
  by_cases hlt : j < n
  ·have hlt2 : (j : Int) < (n : Int) := by omega
   obtain ⟨ad, A5, c5, A9, c9, A12, c12, A13, c13, e1, q0, q1, q2, q3, q4, q5, q6, q7, q8, q9, q10, q11, q12, q13, l5, g5, l9, g9, l12, g12, l13, g13⟩ := gV HX.out.1 (j : Int) (by omega) (by omega)
   cases e1
   obtain ⟨bd, B5, d5, B9, d9, B12, d12, B13, d13, e2, p0, p1, p2, p3, p4, p5, p6, p7, p8, p9, p10, p11, p12, p13, m5, h5, m9, h9, m12, h12, m13, h13⟩ := gV HX.out.2.1 (j : Int) (by omega) (by omega)
   cases e2
   rw [av] at q0 q1 q2 q3 q4 q5 q6 q7 q8 q9 q10 q11 q12 q13 p0 p1 p2 p3 p4 p5 p6 p7 p8 p9 p10 p11 p12 p13
   have hj0 : j < l.length := by rw [<- HX.out.2.2.1]; exact hlt
   have MEM := I (iK hj0)
   obtain ⟨y, hy⟩ : ∃ y, y = aQ l (j : Int) := ⟨_, rfl⟩
   rw [<- hy] at q0 q1 q2 q3 q4 q5 q6 q7 q8 q9 q10 q11 q12 q13 p0 p1 p2 p3 p4 p5 p6 p7 p8 p9 p10 p11 p12 p13 l5 g5 l9 g9 l12 g12 l13 g13 m5 h5 m9 h9 m12 h12 m13 h13 MEM
   have HC := I (ae (ae l5 (ae g5 (ae m5 h5))) (ae (ae l9 (ae g9 (ae m9 h9))) (ae (ae g12 h12) (ae g13 h13))))
   have hbk := bh (gG MEM.out) HX.out.2.2.2
   rw [bH] at hbk
   have HS2 := I (sameE_all _ y.f2 (ar _) (by omega))
   have HS3 := I (sameE_all _ y.f3 (ar _) (by omega))
   have HS6 := I (IH.out y MEM.out)
   clear hbk
   have HSK := I (show ∀ w', Below W.heap.size W w' -> w'.cell? (ad.add (j * 14)) = ac (.int .i64 y.f0) /\ w'.cell? ⟨(ad.add (j * 14)).block, (ad.add (j * 14)).off + 1, ag⟩ = ac (.string y.f1) /\ w'.cell? ⟨(ad.add (j * 14)).block, (ad.add (j * 14)).off + 2, ag⟩ = ac (.int .i64 y.f2.f0) /\ w'.cell? ⟨(ad.add (j * 14)).block, (ad.add (j * 14)).off + 3, ag⟩ = ac (.int .u64 y.f2.f1) /\ w'.cell? ⟨(ad.add (j * 14)).block, (ad.add (j * 14)).off + 4, ag⟩ = ac (.string y.f2.f2) /\ w'.cell? ⟨(ad.add (j * 14)).block, (ad.add (j * 14)).off + 5, ag⟩ = ac (.slice A5 y.f2.f3.length c5) /\ w'.cell? ⟨(ad.add (j * 14)).block, (ad.add (j * 14)).off + 6, ag⟩ = ac (.int .i64 y.f3.f0) /\ w'.cell? ⟨(ad.add (j * 14)).block, (ad.add (j * 14)).off + 7, ag⟩ = ac (.int .u64 y.f3.f1) /\ w'.cell? ⟨(ad.add (j * 14)).block, (ad.add (j * 14)).off + 8, ag⟩ = ac (.string y.f3.f2) /\ w'.cell? ⟨(ad.add (j * 14)).block, (ad.add (j * 14)).off + 9, ag⟩ = ac (.slice A9 y.f3.f3.length c9) /\ w'.cell? ⟨(ad.add (j * 14)).block, (ad.add (j * 14)).off + 10, ag⟩ = ac (.int .u64 y.f4) /\ w'.cell? ⟨(ad.add (j * 14)).block, (ad.add (j * 14)).off + 11, ag⟩ = ac (.int .u64 y.f5) /\ w'.cell? ⟨(ad.add (j * 14)).block, (ad.add (j * 14)).off + 12, ag⟩ = ac (.slice A12 y.f6.length c12) /\ w'.cell? ⟨(ad.add (j * 14)).block, (ad.add (j * 14)).off + 13, ag⟩ = ac (.slice A13 y.f7.length c13) /\ w'.cell? (bd.add (j * 14)) = ac (.int .i64 y.f0) /\ w'.cell? ⟨(bd.add (j * 14)).block, (bd.add (j * 14)).off + 1, ag⟩ = ac (.string y.f1) /\ w'.cell? ⟨(bd.add (j * 14)).block, (bd.add (j * 14)).off + 2, ag⟩ = ac (.int .i64 y.f2.f0) /\ w'.cell? ⟨(bd.add (j * 14)).block, (bd.add (j * 14)).off + 3, ag⟩ = ac (.int .u64 y.f2.f1) /\ w'.cell? ⟨(bd.add (j * 14)).block, (bd.add (j * 14)).off + 4, ag⟩ = ac (.string y.f2.f2) /\ w'.cell? ⟨(bd.add (j * 14)).block, (bd.add (j * 14)).off + 5, ag⟩ = ac (.slice B5 y.f2.f3.length d5) /\ w'.cell? ⟨(bd.add (j * 14)).block, (bd.add (j * 14)).off + 6, ag⟩ = ac (.int .i64 y.f3.f0) /\ w'.cell? ⟨(bd.add (j * 14)).block, (bd.add (j * 14)).off + 7, ag⟩ = ac (.int .u64 y.f3.f1) /\ w'.cell? ⟨(bd.add (j * 14)).block, (bd.add (j * 14)).off + 8, ag⟩ = ac (.string y.f3.f2) /\ w'.cell? ⟨(bd.add (j * 14)).block, (bd.add (j * 14)).off + 9, ag⟩ = ac (.slice B9 y.f3.f3.length d9) /\ w'.cell? ⟨(bd.add (j * 14)).block, (bd.add (j * 14)).off + 10, ag⟩ = ac (.int .u64 y.f4) /\ w'.cell? ⟨(bd.add (j * 14)).block, (bd.add (j * 14)).off + 11, ag⟩ = ac (.int .u64 y.f5) /\ w'.cell? ⟨(bd.add (j * 14)).block, (bd.add (j * 14)).off + 12, ag⟩ = ac (.slice B12 y.f6.length d12) /\ w'.cell? ⟨(bd.add (j * 14)).block, (bd.add (j * 14)).off + 13, ag⟩ = ac (.slice B13 y.f7.length d13) from fun w' h => ⟨aE h q0, aE h q1, aE h q2, aE h q3, aE h q4, aE h q5, aE h q6, aE h q7, aE h q8, aE h q9, aE h q10, aE h q11, aE h q12, aE h q13, aE h p0, aE h p1, aE h p2, aE h p3, aE h p4, aE h p5, aE h p6, aE h p7, aE h p8, aE h p9, aE h p10, aE h p11, aE h p12, aE h p13⟩)
   have HBD := I (HB.out.trans ((aq wr.heap.size wr).drew.mono HB.out.size))
   clear q0 q1 q2 q3 q4 q5 q6 q7 q8 q9 q10 q11 q12 q13 p0 p1 p2 p3 p4 p5 p6 p7 p8 p9 p10 p11 p12 p13 l5 g5 l9 g9 l12 g12 l13 g13 m5 h5 m9 h9 m12 h12 m13 h13 hy hj0
   obtain ⟨s0, s1, s2, s3, s4, s5, s6, s7, s8, s9, s10, s11, s12, s13, t0, t1, t2, t3, t4, t5, t6, t7, t8, t9, t10, t11, t12, t13⟩ := HSK.out _ HBD.out
   go_upto_region 6 with (fail)
   go_region_held3 (fun w' => w'.cell? (ad.add (j * 14)) = ac (.int .i64 y.f0) /\ w'.cell? ⟨(ad.add (j * 14)).block, (ad.add (j * 14)).off + 1, ag⟩ = ac (.string y.f1) /\ w'.cell? ⟨(ad.add (j * 14)).block, (ad.add (j * 14)).off + 2, ag⟩ = ac (.int .i64 y.f2.f0) /\ w'.cell? ⟨(ad.add (j * 14)).block, (ad.add (j * 14)).off + 3, ag⟩ = ac (.int .u64 y.f2.f1) /\ w'.cell? ⟨(ad.add (j * 14)).block, (ad.add (j * 14)).off + 4, ag⟩ = ac (.string y.f2.f2) /\ w'.cell? ⟨(ad.add (j * 14)).block, (ad.add (j * 14)).off + 5, ag⟩ = ac (.slice A5 y.f2.f3.length c5) /\ w'.cell? ⟨(ad.add (j * 14)).block, (ad.add (j * 14)).off + 6, ag⟩ = ac (.int .i64 y.f3.f0) /\ w'.cell? ⟨(ad.add (j * 14)).block, (ad.add (j * 14)).off + 7, ag⟩ = ac (.int .u64 y.f3.f1) /\ w'.cell? ⟨(ad.add (j * 14)).block, (ad.add (j * 14)).off + 8, ag⟩ = ac (.string y.f3.f2) /\ w'.cell? ⟨(ad.add (j * 14)).block, (ad.add (j * 14)).off + 9, ag⟩ = ac (.slice A9 y.f3.f3.length c9) /\ w'.cell? ⟨(ad.add (j * 14)).block, (ad.add (j * 14)).off + 10, ag⟩ = ac (.int .u64 y.f4) /\ w'.cell? ⟨(ad.add (j * 14)).block, (ad.add (j * 14)).off + 11, ag⟩ = ac (.int .u64 y.f5) /\ w'.cell? ⟨(ad.add (j * 14)).block, (ad.add (j * 14)).off + 12, ag⟩ = ac (.slice A12 y.f6.length c12) /\ w'.cell? ⟨(ad.add (j * 14)).block, (ad.add (j * 14)).off + 13, ag⟩ = ac (.slice A13 y.f7.length c13) /\ w'.cell? (bd.add (j * 14)) = ac (.int .i64 y.f0) /\ w'.cell? ⟨(bd.add (j * 14)).block, (bd.add (j * 14)).off + 1, ag⟩ = ac (.string y.f1) /\ w'.cell? ⟨(bd.add (j * 14)).block, (bd.add (j * 14)).off + 2, ag⟩ = ac (.int .i64 y.f2.f0) /\ w'.cell? ⟨(bd.add (j * 14)).block, (bd.add (j * 14)).off + 3, ag⟩ = ac (.int .u64 y.f2.f1) /\ w'.cell? ⟨(bd.add (j * 14)).block, (bd.add (j * 14)).off + 4, ag⟩ = ac (.string y.f2.f2) /\ w'.cell? ⟨(bd.add (j * 14)).block, (bd.add (j * 14)).off + 5, ag⟩ = ac (.slice B5 y.f2.f3.length d5) /\ w'.cell? ⟨(bd.add (j * 14)).block, (bd.add (j * 14)).off + 6, ag⟩ = ac (.int .i64 y.f3.f0) /\ w'.cell? ⟨(bd.add (j * 14)).block, (bd.add (j * 14)).off + 7, ag⟩ = ac (.int .u64 y.f3.f1) /\ w'.cell? ⟨(bd.add (j * 14)).block, (bd.add (j * 14)).off + 8, ag⟩ = ac (.string y.f3.f2) /\ w'.cell? ⟨(bd.add (j * 14)).block, (bd.add (j * 14)).off + 9, ag⟩ = ac (.slice B9 y.f3.f3.length d9) /\ w'.cell? ⟨(bd.add (j * 14)).block, (bd.add (j * 14)).off + 10, ag⟩ = ac (.int .u64 y.f4) /\ w'.cell? ⟨(bd.add (j * 14)).block, (bd.add (j * 14)).off + 11, ag⟩ = ac (.int .u64 y.f5) /\ w'.cell? ⟨(bd.add (j * 14)).block, (bd.add (j * 14)).off + 12, ag⟩ = ac (.slice B12 y.f6.length d12) /\ w'.cell? ⟨(bd.add (j * 14)).block, (bd.add (j * 14)).off + 13, ag⟩ = ac (.slice B13 y.f7.length d13))
    (first | exact HSK.out _ HBD.out | (refine HSK.out _ ?_; repeat (first | exact HB.out | exact HBD.out | refine fk ?_ | refine gy ?_ (by have := HB.out.size; simp; omega) _ | refine Below.setCell ?_ (by have := HB.out.size; simp; omega) _)))
    (fail)
   all_goals (
    first
    | (obtain ⟨X, g1, g2, hX, hg1, hg2⟩ : ∃ X g1 g2, X = ((wr.alloc (.cells #[.int .i64 y.f0, .string y.f1, .int .i64 y.f2.f0, .int .u64 y.f2.f1, .string y.f2.f2, .slice A5 y.f2.f3.length c5, .int .i64 y.f3.f0, .int .u64 y.f3.f1, .string y.f3.f2, .slice A9 y.f3.f3.length c9, .int .u64 y.f4, .int .u64 y.f5, .slice A12 y.f6.length c12, .slice A13 y.f7.length c13] 119)).alloc (.cells #[.int .i64 y.f0, .string y.f1, .int .i64 y.f2.f0, .int .u64 y.f2.f1, .string y.f2.f2, .slice B5 y.f2.f3.length d5, .int .i64 y.f3.f0, .int .u64 y.f3.f1, .string y.f3.f2, .slice B9 y.f3.f3.length d9, .int .u64 y.f4, .int .u64 y.f5, .slice B12 y.f6.length d12, .slice B13 y.f7.length d13] 119)).drew /\ g1 = wr.heap.size /\ g2 = wr.heap.size + 1 := ⟨_, _, _, rfl, rfl, rfl⟩
       have HXX := two_new hX hg1 hg2
       rw [<- hX, <- hg2, <- hg1])
    | (obtain ⟨X, g1, g2, hX, hg1, hg2⟩ : ∃ X g1 g2, X = ((wr.alloc (.cells #[.int .i64 y.f0, .string y.f1, .int .i64 y.f2.f0, .int .u64 y.f2.f1, .string y.f2.f2, .slice B5 y.f2.f3.length d5, .int .i64 y.f3.f0, .int .u64 y.f3.f1, .string y.f3.f2, .slice B9 y.f3.f3.length d9, .int .u64 y.f4, .int .u64 y.f5, .slice B12 y.f6.length d12, .slice B13 y.f7.length d13] 119)).alloc (.cells #[.int .i64 y.f0, .string y.f1, .int .i64 y.f2.f0, .int .u64 y.f2.f1, .string y.f2.f2, .slice A5 y.f2.f3.length c5, .int .i64 y.f3.f0, .int .u64 y.f3.f1, .string y.f3.f2, .slice A9 y.f3.f3.length c9, .int .u64 y.f4, .int .u64 y.f5, .slice A12 y.f6.length c12, .slice A13 y.f7.length c13] 119)).drew /\ g2 = wr.heap.size /\ g1 = wr.heap.size + 1 := ⟨_, _, _, rfl, rfl, rfl⟩
       have HXX := two_new hX hg1 hg2
       rw [<- hX, <- hg2, <- hg1])
    have HXY := I (show Below W.heap.size W X /\ X.heap[g1]? = ac (.cells #[.int .i64 y.f0, .string y.f1, .int .i64 y.f2.f0, .int .u64 y.f2.f1, .string y.f2.f2, .slice A5 y.f2.f3.length c5, .int .i64 y.f3.f0, .int .u64 y.f3.f1, .string y.f3.f2, .slice A9 y.f3.f3.length c9, .int .u64 y.f4, .int .u64 y.f5, .slice A12 y.f6.length c12, .slice A13 y.f7.length c13] 119 (0, 0)) /\ X.heap[g2]? = ac (.cells #[.int .i64 y.f0, .string y.f1, .int .i64 y.f2.f0, .int .u64 y.f2.f1, .string y.f2.f2, .slice B5 y.f2.f3.length d5, .int .i64 y.f3.f0, .int .u64 y.f3.f1, .string y.f3.f2, .slice B9 y.f3.f3.length d9, .int .u64 y.f4, .int .u64 y.f5, .slice B12 y.f6.length d12, .slice B13 y.f7.length d13] 119 (0, 0)) from ⟨HB.out.trans (HXX.1.mono HB.out.size), by first | exact HXX.2.1 | exact HXX.2.2, by first | exact HXX.2.2 | exact HXX.2.1⟩)
    clear hX hg1 hg2 HXX s0 s1 s2 s3 s4 s5 s6 s7 s8 s9 s10 s11 s12 s13 t0 t1 t2 t3 t4 t5 t6 t7 t8 t9 t10 t11 t12 t13
    have s0 : ∀ g : G X, g.W.cell? ⟨g1, 0, ag⟩ = ac (.int .i64 y.f0) := fun g => (aA (aB HXY.out.2.1 g.below) 0).trans rfl
    have t0 : ∀ g : G X, g.W.cell? ⟨g2, 0, ag⟩ = ac (.int .i64 y.f0) := fun g => (aA (aB HXY.out.2.2 g.below) 0).trans rfl
    have s1 : ∀ g : G X, g.W.cell? ⟨g1, 1, ag⟩ = ac (.string y.f1) := fun g => (aA (aB HXY.out.2.1 g.below) 1).trans rfl
    have t1 : ∀ g : G X, g.W.cell? ⟨g2, 1, ag⟩ = ac (.string y.f1) := fun g => (aA (aB HXY.out.2.2 g.below) 1).trans rfl
    have s2 : ∀ g : G X, g.W.cell? ⟨g1, 2, ag⟩ = ac (.int .i64 y.f2.f0) := fun g => (aA (aB HXY.out.2.1 g.below) 2).trans rfl
    have t2 : ∀ g : G X, g.W.cell? ⟨g2, 2, ag⟩ = ac (.int .i64 y.f2.f0) := fun g => (aA (aB HXY.out.2.2 g.below) 2).trans rfl
    have s3 : ∀ g : G X, g.W.cell? ⟨g1, 3, ag⟩ = ac (.int .u64 y.f2.f1) := fun g => (aA (aB HXY.out.2.1 g.below) 3).trans rfl
    have t3 : ∀ g : G X, g.W.cell? ⟨g2, 3, ag⟩ = ac (.int .u64 y.f2.f1) := fun g => (aA (aB HXY.out.2.2 g.below) 3).trans rfl
    have s4 : ∀ g : G X, g.W.cell? ⟨g1, 4, ag⟩ = ac (.string y.f2.f2) := fun g => (aA (aB HXY.out.2.1 g.below) 4).trans rfl
    have t4 : ∀ g : G X, g.W.cell? ⟨g2, 4, ag⟩ = ac (.string y.f2.f2) := fun g => (aA (aB HXY.out.2.2 g.below) 4).trans rfl
    have s5 : ∀ g : G X, g.W.cell? ⟨g1, 5, ag⟩ = ac (.slice A5 y.f2.f3.length c5) := fun g => (aA (aB HXY.out.2.1 g.below) 5).trans rfl
    have t5 : ∀ g : G X, g.W.cell? ⟨g2, 5, ag⟩ = ac (.slice B5 y.f2.f3.length d5) := fun g => (aA (aB HXY.out.2.2 g.below) 5).trans rfl
    have s6 : ∀ g : G X, g.W.cell? ⟨g1, 6, ag⟩ = ac (.int .i64 y.f3.f0) := fun g => (aA (aB HXY.out.2.1 g.below) 6).trans rfl
    have t6 : ∀ g : G X, g.W.cell? ⟨g2, 6, ag⟩ = ac (.int .i64 y.f3.f0) := fun g => (aA (aB HXY.out.2.2 g.below) 6).trans rfl
    have s7 : ∀ g : G X, g.W.cell? ⟨g1, 7, ag⟩ = ac (.int .u64 y.f3.f1) := fun g => (aA (aB HXY.out.2.1 g.below) 7).trans rfl
    have t7 : ∀ g : G X, g.W.cell? ⟨g2, 7, ag⟩ = ac (.int .u64 y.f3.f1) := fun g => (aA (aB HXY.out.2.2 g.below) 7).trans rfl
    have s8 : ∀ g : G X, g.W.cell? ⟨g1, 8, ag⟩ = ac (.string y.f3.f2) := fun g => (aA (aB HXY.out.2.1 g.below) 8).trans rfl
    have t8 : ∀ g : G X, g.W.cell? ⟨g2, 8, ag⟩ = ac (.string y.f3.f2) := fun g => (aA (aB HXY.out.2.2 g.below) 8).trans rfl
    have s9 : ∀ g : G X, g.W.cell? ⟨g1, 9, ag⟩ = ac (.slice A9 y.f3.f3.length c9) := fun g => (aA (aB HXY.out.2.1 g.below) 9).trans rfl
    have t9 : ∀ g : G X, g.W.cell? ⟨g2, 9, ag⟩ = ac (.slice B9 y.f3.f3.length d9) := fun g => (aA (aB HXY.out.2.2 g.below) 9).trans rfl
    have s10 : ∀ g : G X, g.W.cell? ⟨g1, 10, ag⟩ = ac (.int .u64 y.f4) := fun g => (aA (aB HXY.out.2.1 g.below) 10).trans rfl
    have t10 : ∀ g : G X, g.W.cell? ⟨g2, 10, ag⟩ = ac (.int .u64 y.f4) := fun g => (aA (aB HXY.out.2.2 g.below) 10).trans rfl
    have s11 : ∀ g : G X, g.W.cell? ⟨g1, 11, ag⟩ = ac (.int .u64 y.f5) := fun g => (aA (aB HXY.out.2.1 g.below) 11).trans rfl
    have t11 : ∀ g : G X, g.W.cell? ⟨g2, 11, ag⟩ = ac (.int .u64 y.f5) := fun g => (aA (aB HXY.out.2.2 g.below) 11).trans rfl
    have s12 : ∀ g : G X, g.W.cell? ⟨g1, 12, ag⟩ = ac (.slice A12 y.f6.length c12) := fun g => (aA (aB HXY.out.2.1 g.below) 12).trans rfl
    have t12 : ∀ g : G X, g.W.cell? ⟨g2, 12, ag⟩ = ac (.slice B12 y.f6.length d12) := fun g => (aA (aB HXY.out.2.2 g.below) 12).trans rfl
    have s13 : ∀ g : G X, g.W.cell? ⟨g1, 13, ag⟩ = ac (.slice A13 y.f7.length c13) := fun g => (aA (aB HXY.out.2.1 g.below) 13).trans rfl
    have t13 : ∀ g : G X, g.W.cell? ⟨g2, 13, ag⟩ = ac (.slice B13 y.f7.length d13) := fun g => (aA (aB HXY.out.2.2 g.below) 13).trans rfl
    have HW := I (show ∀ g : G X, Below W.heap.size W g.W from fun g => HXY.out.1.trans (g.below.mono HXY.out.1.size))
    go_upto_region 7 with (fail)
    refine aH ?_
    intro gg
    go_wp2_with fail
    refine (aD (g := gg) (HS2.out gg.W A5 B5 c5 d5 (Kd.aF HC.out.1.2.1 (HW.out gg)) HC.out.1.1 (Kd.aF HC.out.1.2.2.2 (HW.out gg)) HC.out.1.2.2.1)).mono ?_
    rintro _ _ ⟨rfl, gg, rfl⟩
    go_wp2_with fail
    refine (aD (g := gg) (HS3.out gg.W A9 B9 c9 d9 (Kd.aF HC.out.2.1.2.1 (HW.out gg)) HC.out.2.1.1 (Kd.aF HC.out.2.1.2.2.2 (HW.out gg)) HC.out.2.1.2.2.1)).mono ?_
    rintro _ _ ⟨rfl, gg, rfl⟩
    go_wp2_with fail
    refine (aD (g := gg) (HS6.out.1 gg.W A12 B12 c12 d12 (Kd.aF HC.out.2.2.1.1 (HW.out gg)) (Kd.aF HC.out.2.2.1.2 (HW.out gg)))).mono ?_
    rintro _ _ ⟨rfl, gg, rfl⟩
    go_wp2_with fail
    refine (aD (g := gg) (HS6.out.2 gg.W A13 B13 c13 d13 (Kd.aF HC.out.2.2.2.1 (HW.out gg)) (Kd.aF HC.out.2.2.2.2 (HW.out gg)))).mono ?_
    rintro _ _ ⟨rfl, gg, rfl⟩
    have HBN := I (HW.out gg)
    clear s0 s1 s2 s3 s4 s5 s6 s7 s8 s9 s10 s11 s12 s13 t0 t1 t2 t3 t4 t5 t6 t7 t8 t9 t10 t11 t12 t13
    go_wp2_with fail
    go_roundw
    case measure => simp [intOf]; omega
    case rel => exact ⟨j + 1, show _ = ba .i64 ((j + 1 : Nat) : Int) from by go_num, by omega, HBN⟩)
  ·have hge : ¬ (j : Int) < (n : Int) := by omega
   go_wp2_with fail
   go_ret
   exact ⟨rfl, HB.out⟩
end
section
set_option maxRecDepth 100000
theorem sameB_all : ∀ (n : Nat) (l : List S119), cd l <= n -> Ot.bW l <= 1073741824 -> SameB l := by
 intro n
 induction n with
 | zero =>
   intro l h hb
   cases l with
   | nil => exact sameB_walk [] hb (fun x hx => by cases hx)
   | cons x r => simp at h
 | succ n ih =>
   intro l h hb
   refine sameB_walk l hb fun x hx => ?_
   have h1 := eu hx
   have h2 := gG hx
   rw [bH] at h2
   obtain ⟨a, s, e, f, lo, hi, th, el⟩ := x
   simp only [S119.mk.sizeOf_spec] at h1
   exact ⟨ih th (by omega) (by show Ot.bW th <= _; simp only at h2; omega), ih el (by omega) (by show Ot.bW el <= _; simp only at h2; omega)⟩
theorem bulkD_len (l : List S70) : l.length <= (l.map Ot.bulkD).sum /\ ∀ d ∈ l, d.f3.length <= (l.map Ot.bulkD).sum := by
 induction l with
 | nil => simp
 | cons x r ih =>
   rw [cm, List.sum_cons, iv]
   have : Ot.bulkD x = 1 + x.f3.length := rfl
   refine ⟨by omega, fun d hd => ?_⟩
   rcases gi.1 hd with rfl | hd
   ·omega
   ·have := ih.2 d hd; omega
theorem same_calls (nm : ByteArray) (wd ln : Int) (ds : List S70) (bd : List S119) (A3 : Option Addr) (c3 : Nat) (A4 : Option Addr) (c4 : Nat) (B3 : Option Addr) (d3 : Nat) (B4 : Option Addr) (d4 : Nat) (W : World) (hp : ProgAt W ds bd A3 c3 A4 c4) (hq : ProgAt W ds bd B3 d3 B4 d4) (hg : PGood nm wd ln ds bd) :
 Calls ak 27 #[.agg #[.string nm, .int .i64 wd, .int .i64 ln, .slice A3 ds.length c3, .slice A4 bd.length c4], .agg #[.string nm, .int .i64 wd, .int .i64 ln, .slice B3 ds.length d3, .slice B4 bd.length d4]] W fun e W' => e = .returned (.bool af) /\ Below W.heap.size W W' := by
 have hbk : (ds.map Ot.bulkD).sum <= 1048576 := by have := hg.bulk; simp only [Ot.bulkP] at this; omega
 have hbl := bulkD_len ds
 obtain ⟨n, hn⟩ : ∃ n, n = ds.length := ⟨_, rfl⟩
 have h3 := hp.hd
 have g3 := hq.hd
 rw [<- hn] at h3 g3 hbl ⊢
 obtain ⟨xb, hxb⟩ : ∃ b, b = W.heap.size := ⟨_, rfl⟩
 obtain ⟨X0, hX0⟩ : ∃ X, X = W.alloc (.cells #[.string nm, .int .i64 wd, .int .i64 ln, .slice A3 n c3, .slice A4 bd.length c4] 25) := ⟨_, rfl⟩
 obtain ⟨X, hX⟩ : ∃ X, X = X0.alloc (.cells #[.string nm, .int .i64 wd, .int .i64 ln, .slice B3 n d3, .slice B4 bd.length d4] 25) := ⟨_, rfl⟩
 have b0 : Below W.heap.size W X0 := by rw [hX0]; exact (aq _ _).alloc (ar _) _
 have b1 : Below X0.heap.size X0 X := by rw [hX]; exact bA _ _
 have hb0 : X.heap[xb]? = ac (.cells #[.string nm, .int .i64 wd, .int .i64 ln, .slice A3 n c3, .slice A4 bd.length c4] 25 (0, 0)) := by rw [hxb]; exact aB (by rw [hX0]; exact aV _ _) b1
 have hb1 : X.heap[xb + 1]? = ac (.cells #[.string nm, .int .i64 wd, .int .i64 ln, .slice B3 n d3, .slice B4 bd.length d4] 25 (0, 0)) := by
  have h1 : X0.heap.size = xb + 1 := by rw [hX0, hxb]; simp
  rw [<- h1, hX]; exact aV _ _
 have hXB : Below W.heap.size W X := b0.trans (b1.mono b0.size)
 have HX := I (ae hXB (ae hb0 (ae hb1 (ae h3 (ae g3 (ae hn (ae hp hq)))))))
 have HXE := I (show (W.alloc (.cells #[.string nm, .int .i64 wd, .int .i64 ln, .slice A3 n c3, .slice A4 bd.length c4] 25)).alloc (.cells #[.string nm, .int .i64 wd, .int .i64 ln, .slice B3 n d3, .slice B4 bd.length d4] 25) = X /\ W.heap.size = xb from ⟨by rw [hX, hX0], hxb.symm⟩)
 have HBK := I (ae hbk (ae hbl (show Ot.bW bd <= 1073741824 by have := hg.sizes.2; omega)))
 have hn1 : n <= 1048576 := by omega
 have x0 : X.cell? ⟨xb, 0, ag⟩ = ac (.string nm) := (aA hb0 0).trans rfl
 have x1 : X.cell? ⟨xb, 1, ag⟩ = ac (.int .i64 wd) := (aA hb0 1).trans rfl
 have x2 : X.cell? ⟨xb, 2, ag⟩ = ac (.int .i64 ln) := (aA hb0 2).trans rfl
 have x3 : X.cell? ⟨xb, 3, ag⟩ = ac (.slice A3 n c3) := (aA hb0 3).trans rfl
 have y0 : X.cell? ⟨xb + 1, 0, ag⟩ = ac (.string nm) := (aA hb1 0).trans rfl
 have y1 : X.cell? ⟨xb + 1, 1, ag⟩ = ac (.int .i64 wd) := (aA hb1 1).trans rfl
 have y2 : X.cell? ⟨xb + 1, 2, ag⟩ = ac (.int .i64 ln) := (aA hb1 2).trans rfl
 have y3 : X.cell? ⟨xb + 1, 3, ag⟩ = ac (.slice B3 n d3) := (aA hb1 3).trans rfl
 clear hp hq hg hbk hbl hn h3 g3 hX0 hX b0 b1 hb0 hb1 hXB hxb
 go_enter Tryz.func27, Tryz.ntmps27
 go_upto_region 1 with (fail)
 rw [HXE.out.1, HXE.out.2]
 go_wp2_with fail
 clear x0 x1 x2 x3 y0 y1 y2 y3
 go_loopw [5] (fun i W' => ∃ k : Nat, i = .int .i64 k /\ k <= n /\ Aside0 (Below X.heap.size X W')) (fun i _ => n - (intOf i).toNat)
 case atStart => exact ⟨0, rfl, bi _, ⟨aq _ _⟩⟩
 case round =>
  obtain ⟨k, rfl, hk, HB⟩ := hrel
  by_cases hlt : k < n
  ·have hlt2 : (k : Int) < (n : Int) := by omega
   obtain ⟨ad, A9, c9, e1, q0, q1, q2, q3, l9, g9⟩ := dN HX.out.2.2.2.1 (k : Int) (by omega) (by omega)
   cases e1
   obtain ⟨be, B9, d9, e2, p0, p1, p2, p3, m9, h9⟩ := dN HX.out.2.2.2.2.1 (k : Int) (by omega) (by omega)
   cases e2
   rw [av] at q0 q1 q2 q3 p0 p1 p2 p3
   have hkd : k < ds.length := by rw [<- HX.out.2.2.2.2.2.1]; exact hlt
   have hfl := HBK.out.2.1.2 _ (dO hkd)
   obtain ⟨d, hd⟩ : ∃ d, d = aG ds (k : Int) := ⟨_, rfl⟩
   rw [<- hd] at q0 q1 q2 q3 p0 p1 p2 p3 l9 g9 m9 h9 hfl
   have hfm : d.f3.length <= 1048576 := by have := HBK.out.1; omega
   have HC := I (ae (jP g9) (jP h9))
   have HSK := I (show ∀ w', Below X.heap.size X w' -> w'.cell? (ad.add (k * 4)) = ac (.int .i64 d.f0) /\ w'.cell? ⟨(ad.add (k * 4)).block, (ad.add (k * 4)).off + 1, ag⟩ = ac (.string d.f1) /\ w'.cell? ⟨(ad.add (k * 4)).block, (ad.add (k * 4)).off + 2, ag⟩ = ac (.int .i64 d.f2) /\ w'.cell? ⟨(ad.add (k * 4)).block, (ad.add (k * 4)).off + 3, ag⟩ = ac (.slice A9 d.f3.length c9) /\ w'.cell? (be.add (k * 4)) = ac (.int .i64 d.f0) /\ w'.cell? ⟨(be.add (k * 4)).block, (be.add (k * 4)).off + 1, ag⟩ = ac (.string d.f1) /\ w'.cell? ⟨(be.add (k * 4)).block, (be.add (k * 4)).off + 2, ag⟩ = ac (.int .i64 d.f2) /\ w'.cell? ⟨(be.add (k * 4)).block, (be.add (k * 4)).off + 3, ag⟩ = ac (.slice B9 d.f3.length d9) /\ w'.cell? ⟨xb, 3, ag⟩ = ac (.slice (ac ad) n c3) /\ w'.cell? ⟨xb + 1, 3, ag⟩ = ac (.slice (ac be) n d3) from fun w' h => by
    have h2 := HX.out.1.trans (h.mono HX.out.1.size)
    exact ⟨aE h2 q0, aE h2 q1, aE h2 q2, aE h2 q3, aE h2 p0, aE h2 p1, aE h2 p2, aE h2 p3, (aA (aB HX.out.2.1 h) 3).trans rfl, (aA (aB HX.out.2.2.1 h) 3).trans rfl⟩)
   have HBD := I (HB.out.trans ((aq wr.heap.size wr).drew.mono HB.out.size))
   have x3 : wr.cell? ⟨xb, 3, ag⟩ = ac (.slice (ac ad) n c3) := (aA (aB HX.out.2.1 HB.out) 3).trans rfl
   clear q0 q1 q2 q3 p0 p1 p2 p3 l9 g9 m9 h9 hd hkd hfl
   go_upto_region 6 with (fail)
   clear x3
   obtain ⟨s0, s1, s2, s3, t0, t1, t2, t3, x3, y3⟩ := HSK.out _ HBD.out
   go_region_held3 (fun w' => w'.cell? (ad.add (k * 4)) = ac (.int .i64 d.f0) /\ w'.cell? ⟨(ad.add (k * 4)).block, (ad.add (k * 4)).off + 1, ag⟩ = ac (.string d.f1) /\ w'.cell? ⟨(ad.add (k * 4)).block, (ad.add (k * 4)).off + 2, ag⟩ = ac (.int .i64 d.f2) /\ w'.cell? ⟨(ad.add (k * 4)).block, (ad.add (k * 4)).off + 3, ag⟩ = ac (.slice A9 d.f3.length c9) /\ w'.cell? (be.add (k * 4)) = ac (.int .i64 d.f0) /\ w'.cell? ⟨(be.add (k * 4)).block, (be.add (k * 4)).off + 1, ag⟩ = ac (.string d.f1) /\ w'.cell? ⟨(be.add (k * 4)).block, (be.add (k * 4)).off + 2, ag⟩ = ac (.int .i64 d.f2) /\ w'.cell? ⟨(be.add (k * 4)).block, (be.add (k * 4)).off + 3, ag⟩ = ac (.slice B9 d.f3.length d9) /\ w'.cell? ⟨xb, 3, ag⟩ = ac (.slice (ac ad) n c3) /\ w'.cell? ⟨xb + 1, 3, ag⟩ = ac (.slice (ac be) n d3))
    (first | exact HSK.out _ HBD.out | (refine HSK.out _ ?_; repeat (first | exact HB.out | exact HBD.out | refine fk ?_ | refine gy ?_ (by have := HB.out.size; simp; omega) _ | refine Below.setCell ?_ (by have := HB.out.size; simp; omega) _)))
    (fail)
   all_goals (
    first
    | (obtain ⟨Y, g1, g2, hX, hg1, hg2⟩ : ∃ Y g1 g2, Y = ((wr.alloc (.cells #[.int .i64 d.f0, .string d.f1, .int .i64 d.f2, .slice A9 d.f3.length c9] 70)).alloc (.cells #[.int .i64 d.f0, .string d.f1, .int .i64 d.f2, .slice B9 d.f3.length d9] 70)).drew /\ g1 = wr.heap.size /\ g2 = wr.heap.size + 1 := ⟨_, _, _, rfl, rfl, rfl⟩
       have HXX := two_new hX hg1 hg2
       rw [<- hX, <- hg2, <- hg1])
    | (obtain ⟨Y, g1, g2, hX, hg1, hg2⟩ : ∃ Y g1 g2, Y = ((wr.alloc (.cells #[.int .i64 d.f0, .string d.f1, .int .i64 d.f2, .slice B9 d.f3.length d9] 70)).alloc (.cells #[.int .i64 d.f0, .string d.f1, .int .i64 d.f2, .slice A9 d.f3.length c9] 70)).drew /\ g2 = wr.heap.size /\ g1 = wr.heap.size + 1 := ⟨_, _, _, rfl, rfl, rfl⟩
       have HXX := two_new hX hg1 hg2
       rw [<- hX, <- hg2, <- hg1])
    have HXY := I (show Below X.heap.size X Y /\ Y.heap[g1]? = ac (.cells #[.int .i64 d.f0, .string d.f1, .int .i64 d.f2, .slice A9 d.f3.length c9] 70 (0, 0)) /\ Y.heap[g2]? = ac (.cells #[.int .i64 d.f0, .string d.f1, .int .i64 d.f2, .slice B9 d.f3.length d9] 70 (0, 0)) from ⟨HB.out.trans (HXX.1.mono HB.out.size), by first | exact HXX.2.1 | exact HXX.2.2, by first | exact HXX.2.2 | exact HXX.2.1⟩)
    clear hX hg1 hg2 HXX s0 s1 s2 s3 t0 t1 t2 t3 x3 y3
    have s0 : Y.cell? ⟨g1, 0, ag⟩ = ac (.int .i64 d.f0) := (aA HXY.out.2.1 0).trans rfl
    have s1 : Y.cell? ⟨g1, 1, ag⟩ = ac (.string d.f1) := (aA HXY.out.2.1 1).trans rfl
    have s2 : Y.cell? ⟨g1, 2, ag⟩ = ac (.int .i64 d.f2) := (aA HXY.out.2.1 2).trans rfl
    have s3 : Y.cell? ⟨g1, 3, ag⟩ = ac (.slice A9 d.f3.length c9) := (aA HXY.out.2.1 3).trans rfl
    have t0 : Y.cell? ⟨g2, 0, ag⟩ = ac (.int .i64 d.f0) := (aA HXY.out.2.2 0).trans rfl
    have t1 : Y.cell? ⟨g2, 1, ag⟩ = ac (.string d.f1) := (aA HXY.out.2.2 1).trans rfl
    have t2 : Y.cell? ⟨g2, 2, ag⟩ = ac (.int .i64 d.f2) := (aA HXY.out.2.2 2).trans rfl
    have t3 : Y.cell? ⟨g2, 3, ag⟩ = ac (.slice B9 d.f3.length d9) := (aA HXY.out.2.2 3).trans rfl
    go_wp2_with fail
    clear s0 s1 s2 s3 t0 t1 t2 t3
    go_loopw [8] (fun i W' => ∃ m : Nat, i = .int .i64 m /\ m <= d.f3.length /\ Aside0 (Below Y.heap.size Y W')) (fun i _ => d.f3.length - (intOf i).toNat)
    case atStart => exact ⟨0, rfl, bi _, ⟨aq _ _⟩⟩
    case round =>
     obtain ⟨m, rfl, hm, HM⟩ := hrel
     have s3 : wr.cell? ⟨g1, 3, ag⟩ = ac (.slice A9 d.f3.length c9) := (aA (aB HXY.out.2.1 HM.out) 3).trans rfl
     have t3 : wr.cell? ⟨g2, 3, ag⟩ = ac (.slice B9 d.f3.length d9) := (aA (aB HXY.out.2.2 HM.out) 3).trans rfl
     by_cases hmn : m < d.f3.length
     ·have hm2 : (m : Int) < (d.f3.length : Int) := by omega
      have hWW : Below W.heap.size W wr := by
       have h1 := HXY.out.1.trans (HM.out.mono HXY.out.1.size)
       exact HX.out.1.trans (h1.mono HX.out.1.size)
      obtain ⟨aw, ea, qa⟩ := HC.out.1 m hmn
      cases ea
      obtain ⟨bw, eb, qb⟩ := HC.out.2 m hmn
      cases eb
      replace qa := aE hWW qa
      replace qb := aE hWW qb
      generalize d.f3.getD m 0 = v at qa qb
      clear hWW
      go_wp2_with fail
      go_region
      go_wp2_with fail
      go_roundw
      case measure => simp [intOf]; omega
      case rel => exact ⟨m + 1, show _ = ba .i64 ((m + 1 : Nat) : Int) from by go_num, by omega, ⟨HM.out.drew⟩⟩
     ·have hge : ¬ (m : Int) < (d.f3.length : Int) := by omega
      go_wp2_with fail
      go_roundw
      case measure => simp [intOf]; omega
      case rel => exact ⟨k + 1, show _ = ba .i64 ((k + 1 : Nat) : Int) from by go_num, by omega, ⟨HXY.out.1.trans (HM.out.mono HXY.out.1.size)⟩⟩)
  ·have hge : ¬ (k : Int) < (n : Int) := by omega
   have x3 : ∀ g : G wr, g.W.cell? ⟨xb, 3, ag⟩ = ac (.slice A3 n c3) := fun g => (aA (aB (aB HX.out.2.1 HB.out) g.below) 3).trans rfl
   have x4 : ∀ g : G wr, g.W.cell? ⟨xb, 4, ag⟩ = ac (.slice A4 bd.length c4) := fun g => (aA (aB (aB HX.out.2.1 HB.out) g.below) 4).trans rfl
   have y4 : ∀ g : G wr, g.W.cell? ⟨xb + 1, 4, ag⟩ = ac (.slice B4 bd.length d4) := fun g => (aA (aB (aB HX.out.2.2.1 HB.out) g.below) 4).trans rfl
   have HW := I (show ∀ g : G wr, Below W.heap.size W g.W from fun g => HX.out.1.trans ((HB.out.trans (g.below.mono HB.out.size)).mono HX.out.1.size))
   refine aH ?_
   intro gg
   go_wp2_with fail
   refine (aD (g := gg) (sameB_all _ bd (ar _) HBK.out.2.2 gg.W A4 B4 c4 d4 (Kd.aF HX.out.2.2.2.2.2.2.1.hb (HW.out gg)) (Kd.aF HX.out.2.2.2.2.2.2.2.hb (HW.out gg)))).mono ?_
   rintro _ _ ⟨rfl, gg, rfl⟩
   go_wp2_with fail
   go_ret
   exact ⟨rfl, HW.out gg⟩
end
section
set_option maxRecDepth 100000
theorem putW_len (R : List (List Int)) (d k : Nat) (v : Int) (i : Nat) : (rowOf (oW R d k v) i).length = (rowOf R i).length := by
 unfold rowOf oW rowOf
 rw [au, kn]
 by_cases hi : d = i
 ·subst hi
  rw [if_pos rfl]
  by_cases hd : d < R.length
  ·rw [if_pos hd]; simp
  ·rw [if_neg hd, au, ed (by omega)]
 ·rw [if_neg hi, au]
theorem fold_len {f : Sta -> Nat -> Sta} {i : Nat} (h : ∀ s j, (rowOf (f s j).1 i).length = (rowOf s.1 i).length) (n : Nat) (s : Sta) : (rowOf ((br n).foldl f s).1 i).length = (rowOf s.1 i).length := by
 induction n with
 | zero => rfl
 | succ n ih => rw [js, List.foldl_append, List.foldl_cons, List.foldl_nil, h, ih]
mutual
theorem exS_len (wd ln : Int) (ds : List S70) : ∀ (x : S119) (L : List (ByteArray × Int)) (s : Sta) (i : Nat), (rowOf (exS wd ln ds x L s).1 i).length = (rowOf s.1 i).length
 | ⟨k, nm, a, e, lo, hi, th, el⟩, L, s, i => by
   have ht := oU wd ln ds th
   have hl := oU wd ln ds el
   rw [exS]
   split
   ·exact putW_len _ _ _ _ _
   split
   ·exact putW_len _ _ _ _ _
   split
   ·split
    ·exact ht _ _ i
    ·exact hl _ _ i
   split
   ·exact fold_len (fun s j => ht _ _ i) _ _
   ·rfl
theorem oU (wd ln : Int) (ds : List S70) : ∀ (l : List S119) (L : List (ByteArray × Int)) (s : Sta) (i : Nat), (rowOf (eH wd ln ds l L s).1 i).length = (rowOf s.1 i).length
 | [], L, s, i => by rw [eH]
 | x :: r, L, s, i => by rw [eH, oU wd ln ds r, exS_len wd ln ds x]
end
theorem endAns_small (nm : ByteArray) (wd ln : Int) (ds : List S70) (bd : List S119) (inp : List Int) : (eX nm wd ln ds bd inp).2.1.length <= 1073741824 /\ (∀ r ∈ (eX nm wd ln ds bd inp).2.1, r.length <= 1073741824) /\ (eX nm wd ln ds bd inp).2.2.length <= 1073741824 := by
 unfold eX
 split
 ·rename_i h
  split
  ·have hS := jM h
   refine ⟨?_, fun r hr => ?_, ?_⟩
   ·show (told ds _).length <= _
    unfold told
    rw [List.length_map]
    have := mX ds ds.length
    have := hS.few
    omega
   ·replace hr : r ∈ told ds (endOf wd ln ds bd inp).1 := hr
    unfold told at hr
    obtain ⟨i, hi, rfl⟩ := List.mem_map.1 hr
    unfold jC at hi
    have hin := ja.1 (List.mem_filter.1 hi).1
    unfold endOf
    rw [oU, rows0_at hin, row0_len]
    have := hS.row i hin
    omega
   ·have h1 := gR wd ln ds bd [] (fT wd ds inp ds.length, [])
    have h2 := size_le h
    show (endOf wd ln ds bd inp).2.length <= _
    unfold endOf
    simp only [List.length_nil] at h1
    omega
  ·simp
 ·simp
theorem runEnds_walk (nm : ByteArray) (wd ln : Int) (ds : List S70) (bd : List S119) (A3 : Option Addr) (c3 : Nat) (A4 : Option Addr) (c4 : Nat) (inp : List Int) (A : Option Addr) (cI : Nat) (w : World) (hp : ProgAt w ds bd A3 c3 A4 c4) (hg : PGood nm wd ln ds bd) (hI : (Kd.int .u64).C w A inp.length inp) (hc : inp.length <= cI) (hu : ∀ v ∈ inp, U64 v) (hl : inp.length <= 1073741824) :
 Calls ak 5 #[.agg #[.string nm, .int .i64 wd, .int .i64 ln, .slice A3 ds.length c3, .slice A4 bd.length c4], .slice A inp.length cI] w fun e w' => e = .returned (.bool af) /\ Below w.heap.size w w' := by
 have gout := @gA w
 obtain ⟨xb, hxb⟩ : ∃ b, b = w.heap.size := ⟨_, rfl⟩
 obtain ⟨X, hX⟩ : ∃ X, X = w.alloc (.cells #[.string nm, .int .i64 wd, .int .i64 ln, .slice A3 ds.length c3, .slice A4 bd.length c4] 25) := ⟨_, rfl⟩
 have hXB : Below w.heap.size w X := by rw [hX]; exact bA _ _
 have hbx : X.heap[xb]? = ac (.cells #[.string nm, .int .i64 wd, .int .i64 ln, .slice A3 ds.length c3, .slice A4 bd.length c4] 25 (0, 0)) := by rw [hX, hxb]; exact aV _ _
 have PAt := I (ae hp (ae hXB (ae hbx (ae hI (ae hc hu)))))
 have HG := I hg
 have HXE := I (ae hX hxb)
 have x0 : X.cell? ⟨xb, 0, ag⟩ = ac (.string nm) := (aA hbx 0).trans rfl
 have x1 : X.cell? ⟨xb, 1, ag⟩ = ac (.int .i64 wd) := (aA hbx 1).trans rfl
 have x2 : X.cell? ⟨xb, 2, ag⟩ = ac (.int .i64 ln) := (aA hbx 2).trans rfl
 have x3 : X.cell? ⟨xb, 3, ag⟩ = ac (.slice A3 ds.length c3) := (aA hbx 3).trans rfl
 have x4 : X.cell? ⟨xb, 4, ag⟩ = ac (.slice A4 bd.length c4) := (aA hbx 4).trans rfl
 clear hp hg hI hc hu hX hxb hXB hbx
 go_enter Tryz.func5, Tryz.ntmps5
 go_upto_region 1 with (fail)
 rw [<- HXE.out.1, <- HXE.out.2]
 go_wp2_with fail
 refine (own_calls nm wd ln ds bd A3 c3 A4 c4 X (PAt.out.1.below PAt.out.2.1) HG.out).mono ?_
 rintro _ w1 ⟨A31, c31, A41, c41, rfl, hp1, hb1⟩
 have P1 := I (ae hp1 hb1)
 clear hp1 hb1 x0 x1 x2 x3 x4
 go_upto_region 2 with (fail)
 obtain ⟨V, hV⟩ : ∃ V, V = w1.alloc (.cells #[.string nm, .int .i64 wd, .int .i64 ln, .slice A31 ds.length c31, .slice A41 bd.length c41] 25) := ⟨_, rfl⟩
 obtain ⟨gb, hgb⟩ : ∃ b, b = w1.heap.size := ⟨_, rfl⟩
 have hVB : Below w1.heap.size w1 V := by rw [hV]; exact (aq _ _).alloc (ar _) _
 have hbg : V.heap[gb]? = ac (.cells #[.string nm, .int .i64 wd, .int .i64 ln, .slice A31 ds.length c31, .slice A41 bd.length c41] 25 (0, 0)) := by rw [hV, hgb]; exact aV _ _
 have hXV : Below X.heap.size X V := P1.out.2.trans (hVB.mono P1.out.2.size)
 have HV := I (ae (PAt.out.2.1.trans (hXV.mono PAt.out.2.1.size)) (ae (aB PAt.out.2.2.1 hXV) (ae hbg (P1.out.1.below hVB))))
 rw [<- hgb]
 rw [<- hV]
 clear hgb hV hVB hbg hXV
 have HO := I (show (Kd.int .u64).R 74 (V.alloc (.cells #[] 74)) V.heap.size (fun _ => True) (.slice (ac ⟨V.heap.size, 0, ag⟩) 0 0) ([] : List Int) from ⟨fun _ _ => trivial, [], own_lit V V.heap.size 74 .u64 [] (ar _) (bi _), dF.none _ _⟩)
 have hba : Below V.heap.size V (V.alloc (.cells #[] 74)) := (aq _ _).alloc (ar _) _
 have HBA := I hba
 have HIC := I (Kd.aF (Kd.aF PAt.out.2.2.2.1 HV.out.1) hba)
 have HL8 := I (show (([] : List Int).length + inp.length) * 8 <= 140737488355328 from by simp; omega)
 clear hba
 go_wp2_with (at_builtin; refine Kd.R_append_row (ba .u64) (0 : Int) (w0 := V) V.heap.size rfl (.tmp 13) (.tmp 14) 36 74 (.int .u64 0) 8 rfl kO pY rfl (by decide) (.slice (ac ⟨V.heap.size, 0, ag⟩) 0 0) [] inp A inp.length cI (ok := fun _ => True) rfl rfl (fun _ _ => trivial) HO.out HIC.out HBA.out HBA.out.size HL8.out ?_)
 intro v2 u2 hr2 hb2 hg2 hat2
 obtain ⟨Ax, cx, hv2, lx, gx⟩ := Kd.d7 hr2
 subst hv2
 have H2 := I (show Below w.heap.size w u2 /\ u2.heap[xb]? = ac (.cells #[.string nm, .int .i64 wd, .int .i64 ln, .slice A3 ds.length c3, .slice A4 bd.length c4] 25 (0, 0)) /\ u2.heap[gb]? = ac (.cells #[.string nm, .int .i64 wd, .int .i64 ln, .slice A31 ds.length c31, .slice A41 bd.length c41] 25 (0, 0)) /\ ProgAt u2 ds bd A31 c31 A41 c41 /\ dJ u2 Ax inp /\ inp.length <= cx from ⟨HV.out.1.trans (hb2.mono HV.out.1.size), aB HV.out.2.1 hb2, aB HV.out.2.2.1 hb2, HV.out.2.2.2.below hb2, jP gx, lx⟩)
 clear hr2 hb2 hg2 hat2 lx gx HO HBA HIC HL8
 obtain ⟨⟨er, S, T⟩, hans⟩ : ∃ r, r = eX nm wd ln ds bd inp := ⟨_, rfl⟩
 have HSM := I (endAns_small nm wd ln ds bd inp)
 have HR1 := I (run_calls nm wd ln ds bd A31 c31 A41 c41 u2 H2.out.2.2.2.1 HG.out inp Ax cx H2.out.2.2.2.2.1 PAt.out.2.2.2.2.2 H2.out.2.2.2.2.2)
 have HR2 := I (fun (W : World) (hW : Below w.heap.size w W) => refRun_calls nm wd ln ds bd A3 c3 A4 c4 W (PAt.out.1.below hW) HG.out inp A cI (jP (Kd.aF PAt.out.2.2.2.1 hW)) PAt.out.2.2.2.2.2)
 rw [<- hans] at HSM HR1 HR2
 have g0 : u2.cell? ⟨gb, 0, ag⟩ = ac (.string nm) := (aA H2.out.2.2.1 0).trans rfl
 have g1 : u2.cell? ⟨gb, 1, ag⟩ = ac (.int .i64 wd) := (aA H2.out.2.2.1 1).trans rfl
 have g2 : u2.cell? ⟨gb, 2, ag⟩ = ac (.int .i64 ln) := (aA H2.out.2.2.1 2).trans rfl
 have g3 : u2.cell? ⟨gb, 3, ag⟩ = ac (.slice A31 ds.length c31) := (aA H2.out.2.2.1 3).trans rfl
 have g4 : u2.cell? ⟨gb, 4, ag⟩ = ac (.slice A41 bd.length c41) := (aA H2.out.2.2.1 4).trans rfl
 clear hans
 go_wp2_with fail
 refine HR1.out.mono ?_
 rintro _ w3 ⟨vS, vT, rfl, hE3, hb3⟩
 obtain ⟨⟨AS, cS, eS, hS3⟩, AT, cT, eT, hT3⟩ := hE3
 replace eS : vS = .slice AS S.length cS := eS
 replace eT : vT = .slice AT T.length cT := eT
 subst eS eT
 obtain ⟨ab, hab⟩ : ∃ b, b = w3.heap.size := ⟨_, rfl⟩
 obtain ⟨w4, hw4⟩ : ∃ w', w' = w3.alloc (.cells #[.slice AS S.length cS, .slice AT T.length cT] 40) := ⟨_, rfl⟩
 have hb4 : Below w3.heap.size w3 w4 := by rw [hw4]; exact (aq _ _).alloc (ar _) _
 have hb24 : Below u2.heap.size u2 w4 := hb3.trans (hb4.mono hb3.size)
 have H4 := I (show Below w.heap.size w w4 /\ w4.heap[xb]? = ac (.cells #[.string nm, .int .i64 wd, .int .i64 ln, .slice A3 ds.length c3, .slice A4 bd.length c4] 25 (0, 0)) /\ w4.heap[gb]? = ac (.cells #[.string nm, .int .i64 wd, .int .i64 ln, .slice A31 ds.length c31, .slice A41 bd.length c41] 25 (0, 0)) /\ ProgAt w4 ds bd A31 c31 A41 c41 /\ dJ w4 Ax inp /\ w4.heap[ab]? = ac (.cells #[.slice AS S.length cS, .slice AT T.length cT] 40 (0, 0)) /\ lK w4 AS S /\ oD.C w4 AT T.length T from ⟨H2.out.1.trans (hb24.mono H2.out.1.size), aB H2.out.2.1 hb24, aB H2.out.2.2.1 hb24, H2.out.2.2.2.1.below hb24, H2.out.2.2.2.2.1.below hb24, by rw [hw4, hab]; exact aV _ _, lK.below hS3 hb4, Kd.aF hT3 hb4⟩)
 clear g0 g1 g2 g3 g4 hb3 hS3 hT3 hb4 hb24
 go_upto_region 4 with (fail)
 rw [<- hab]
 rw [<- hw4]
 clear hab hw4
 have x0 : w4.cell? ⟨xb, 0, ag⟩ = ac (.string nm) := (aA H4.out.2.1 0).trans rfl
 have x1 : w4.cell? ⟨xb, 1, ag⟩ = ac (.int .i64 wd) := (aA H4.out.2.1 1).trans rfl
 have x2 : w4.cell? ⟨xb, 2, ag⟩ = ac (.int .i64 ln) := (aA H4.out.2.1 2).trans rfl
 have x3 : w4.cell? ⟨xb, 3, ag⟩ = ac (.slice A3 ds.length c3) := (aA H4.out.2.1 3).trans rfl
 have x4 : w4.cell? ⟨xb, 4, ag⟩ = ac (.slice A4 bd.length c4) := (aA H4.out.2.1 4).trans rfl
 go_wp2_with fail
 refine (HR2.out w4 H4.out.1).mono ?_
 rintro _ w5 ⟨vS, vT, rfl, hE5, hb5⟩
 obtain ⟨⟨BS, dS, eS, hS5⟩, BT, dT, eT, hT5⟩ := hE5
 replace eS : vS = .slice BS S.length dS := eS
 replace eT : vT = .slice BT T.length dT := eT
 subst eS eT
 obtain ⟨ob, hob⟩ : ∃ b, b = w5.heap.size := ⟨_, rfl⟩
 obtain ⟨V5, hV5⟩ : ∃ w', w' = w5.alloc (.cells #[.slice BS S.length dS, .slice BT T.length dT] 40) := ⟨_, rfl⟩
 have hb6 : Below w5.heap.size w5 V5 := by rw [hV5]; exact (aq _ _).alloc (ar _) _
 have hb46 : Below w4.heap.size w4 V5 := hb5.trans (hb6.mono hb5.size)
 have hob5 : V5.heap[ob]? = ac (.cells #[.slice BS S.length dS, .slice BT T.length dT] 40 (0, 0)) := by rw [hV5, hob]; exact aV _ _
 have H5 := I (ae (H4.out.1.trans (hb46.mono H4.out.1.size)) (ae (H4.out.2.2.2.1.below hb46) (ae (H4.out.2.2.2.2.1.below hb46) (ae (H4.out.2.2.2.2.2.2.1.below hb46) (ae (Kd.aF H4.out.2.2.2.2.2.2.2 hb46) (ae (lK.below hS5 hb6) (Kd.aF hT5 hb6)))))))
 have hx5 := aB H4.out.2.1 hb46
 have hg5 := aB H4.out.2.2.1 hb46
 have ha5 := aB H4.out.2.2.2.2.2.1 hb46
 have p0 : ∀ g : G V5, g.W.cell? ⟨xb, 0, ag⟩ = ac (.string nm) := fun g => (aA (aB hx5 g.below) 0).trans rfl
 have p1 : ∀ g : G V5, g.W.cell? ⟨xb, 1, ag⟩ = ac (.int .i64 wd) := fun g => (aA (aB hx5 g.below) 1).trans rfl
 have p2 : ∀ g : G V5, g.W.cell? ⟨xb, 2, ag⟩ = ac (.int .i64 ln) := fun g => (aA (aB hx5 g.below) 2).trans rfl
 have p3 : ∀ g : G V5, g.W.cell? ⟨xb, 3, ag⟩ = ac (.slice A3 ds.length c3) := fun g => (aA (aB hx5 g.below) 3).trans rfl
 have p4 : ∀ g : G V5, g.W.cell? ⟨xb, 4, ag⟩ = ac (.slice A4 bd.length c4) := fun g => (aA (aB hx5 g.below) 4).trans rfl
 have q0 : ∀ g : G V5, g.W.cell? ⟨gb, 0, ag⟩ = ac (.string nm) := fun g => (aA (aB hg5 g.below) 0).trans rfl
 have q1 : ∀ g : G V5, g.W.cell? ⟨gb, 1, ag⟩ = ac (.int .i64 wd) := fun g => (aA (aB hg5 g.below) 1).trans rfl
 have q2 : ∀ g : G V5, g.W.cell? ⟨gb, 2, ag⟩ = ac (.int .i64 ln) := fun g => (aA (aB hg5 g.below) 2).trans rfl
 have q3 : ∀ g : G V5, g.W.cell? ⟨gb, 3, ag⟩ = ac (.slice A31 ds.length c31) := fun g => (aA (aB hg5 g.below) 3).trans rfl
 have q4 : ∀ g : G V5, g.W.cell? ⟨gb, 4, ag⟩ = ac (.slice A41 bd.length c41) := fun g => (aA (aB hg5 g.below) 4).trans rfl
 have a0 : ∀ g : G V5, g.W.cell? ⟨ab, 0, ag⟩ = ac (.slice AS S.length cS) := fun g => (aA (aB ha5 g.below) 0).trans rfl
 have a1 : ∀ g : G V5, g.W.cell? ⟨ab, 1, ag⟩ = ac (.slice AT T.length cT) := fun g => (aA (aB ha5 g.below) 1).trans rfl
 have b0 : ∀ g : G V5, g.W.cell? ⟨ob, 0, ag⟩ = ac (.slice BS S.length dS) := fun g => (aA (aB hob5 g.below) 0).trans rfl
 have b1 : ∀ g : G V5, g.W.cell? ⟨ob, 1, ag⟩ = ac (.slice BT T.length dT) := fun g => (aA (aB hob5 g.below) 1).trans rfl
 clear x0 x1 x2 x3 x4 hb5 hS5 hT5 hb6 hb46 hob5 hx5 hg5 ha5
 go_upto_region 5 with (fail)
 rw [<- hob]
 rw [<- hV5]
 clear hob hV5
 refine aH ?_
 intro gg
 go_wp2_with fail
 refine (aD (g := gg) (states_calls S AS BS cS dS gg.W (H5.out.2.2.2.1.below gg.below) (H5.out.2.2.2.2.2.1.below gg.below) HSM.out.1 HSM.out.2.1)).mono ?_
 rintro _ _ ⟨rfl, gg, rfl⟩
 go_wp2_with fail
 refine (aD (g := gg) (traces_calls T AT BT cT dT gg.W (Kd.aF H5.out.2.2.2.2.1 gg.below) (Kd.aF H5.out.2.2.2.2.2.2 gg.below) HSM.out.2.2)).mono ?_
 rintro _ _ ⟨rfl, gg, rfl⟩
 go_wp2_with fail
 refine (aD (g := gg) (same_calls nm wd ln ds bd A31 c31 A41 c41 A3 c3 A4 c4 gg.W (H5.out.2.1.below gg.below) (PAt.out.1.below (H5.out.1.trans (gg.below.mono H5.out.1.size))) HG.out)).mono ?_
 rintro _ _ ⟨rfl, gg, rfl⟩
 go_wp2_with fail
 refine (aD (g := gg) (pE inp Ax A cx cI gg.W (H5.out.2.2.1.below gg.below) (jP (Kd.aF PAt.out.2.2.2.1 (H5.out.1.trans (gg.below.mono H5.out.1.size)))) hl)).mono ?_
 rintro _ _ ⟨rfl, gg, rfl⟩
 go_wp2_with fail
 go_ret
 exact ⟨rfl, H5.out.1.trans (gg.below.mono H5.out.1.size)⟩
end
end Go.Proofs.YtfigjpehecibeaaGreat.L
section
namespace Go.Proofs.YtfigjpehecibeaaGreat.Ot
open Go.RowKit Go.Proofs.YtfigjpehecibeaaGreat.L Go.Proofs.YtfigjpehecibeaaGreatW.PrintWords Go.Proofs.YtfigjpehecibeaaGreat.Op
abbrev opensW_K (w : World) : List Int -> List Value -> Prop := (Kd.slice 74 (Kd.int .u64)).K w
abbrev lQ (xs : List Int) : Prop := xs.length * 8 <= 140737488351232 /\ ∀ v ∈ xs, okU v
abbrev lX (xs : List Int) : Nat := xs.length + 1
theorem opensW {H : Type} {enc : TypeId × Value -> H} {w : World} (n : Nat) : iP enc ak w Rows.uptoBulk n 36 (Kd.slice 74 (Kd.int .u64)) lQ lX :=
 gT (fG bulk (bytes := 8) Tryz.underlying36 (by kernel_rfl) (by kernel_rfl) (by decide) fun m _ => eW bulk jr) (fun _ h => h) (fun xs => by rw [sum_ones]; exact ar _)
theorem slice_of_K {α : Type} {d : Kd α} {e : Nat} {w : World} {xs : List α} {v : Value} (hs : ∃ a l c, v = .slice a l c) (h : (Kd.slice e d).K w xs v.cells.toList) : ∃ A c, v = .slice A xs.length c /\ xs.length <= c /\ d.C w A xs.length xs := by
 obtain ⟨a, l, c, rfl⟩ := hs
 obtain ⟨A, c', e1, hl, hc⟩ := h
 simp [Value.cells] at e1
 obtain ⟨rfl, rfl, rfl⟩ := e1
 exact ⟨a, c, rfl, hl, hc⟩
end Go.Proofs.YtfigjpehecibeaaGreat.Ot
namespace Go.Proofs.YtfigjpehecibeaaGreat.L
open Go.RowKit Bm C
theorem runEnds_law (v0 : Value) (x0 : Ot.Prog) (v1 : Value) (x1 : List Int) (w : World) (s0 : ∃ cs, v0 = .agg cs /\ cs.size = Tryz.prog.cellsOf 25) (k0 : Ot.opensP_K w x0 v0.cells.toList) (g0 : Ot.qJ x0) {m0 : Nat} (b0 : Ot.qA x0 <= m0) (s1 : ∃ a l c, v1 = .slice a l c) (k1 : Ot.opensW_K w x1 v1.cells.toList) (g1 : Ot.lQ x1) {m1 : Nat} (b1 : Ot.lX x1 <= m1) (up : m0 + m1 <= 1048576) :
 Calls ak 5 #[v0, v1] w fun e w' => e = .returned (.bool af) /\ Below w.heap.size w w' := by
 obtain ⟨A3, c3, A4, c4, rfl, l3, g3, l4, g4⟩ := Ot.prog_of_K (s0.imp fun _ h => h.1) k0
 obtain ⟨A, c, rfl, l5, g5⟩ := Ot.slice_of_K s1 k1
 refine runEnds_walk x0.nm x0.wd x0.ln x0.ds x0.bd A3 c3 A4 c4 x1 A c w ⟨g3, l3, g4, l4⟩ ⟨g0, bh b0 (by omega)⟩ g5 l5 (fun v hv => ?_) (by have : x1.length + 1 <= m1 := b1; omega)
 obtain ⟨n, e, h⟩ := wf_u64 (g1.2 v hv)
 rw [e]; exact n9 h
end Go.Proofs.YtfigjpehecibeaaGreat.L
end
