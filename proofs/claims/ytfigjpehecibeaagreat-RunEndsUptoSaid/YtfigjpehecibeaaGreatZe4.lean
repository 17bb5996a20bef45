/- Texts joined by a program of mine: Ug Uh Uq Ya Ur Uv Rt Bn Bm Ba Ea Ma Mb Mc Md Bb Me Mf Mg Mh Eb Mi Mj Pm Pr Pa Pb Pc Pe Rb Ra Mk Mn Bd. -/
import Derived.WalkKit
import Derived.WalkSpells
import Derived.Maps.OwnOps
import Derived.Maps.OwnSet
import Derived.Maps.Views
import Derived.StringKeys
import Derived.Deep.RegionHeld3
import Derived.Test.YtfigjpehecibeaaGreatProg
import Derived.Laws.CopyOwn
import Derived.Deep.RegionLaw
import Derived.Test.YtfigjpehecibeaaGreatZe0
import Derived.Test.YtfigjpehecibeaaGreatZe2
import Derived.Test.YtfigjpehecibeaaGreatZe3
open And renaming intro -> ae
open Array renaming getElem?_eq_some_iff -> jo
open Bool renaming false -> J, true -> af, and_eq_true -> bo, true_eq_false -> dq, true_and -> jy
open Decidable renaming em -> gh
open Go.Act renaming put -> ax
open Go.Ending renaming returned -> fw
open Go.Instr renaming lookup -> ib
open Go.IntKind renaming bits -> ik, signed -> jg
open Go.Proofs.Tryz renaming prog -> ak, underlying9 -> jc, underlying3 -> ju, underlying74 -> jr
open Go.Proofs.YtfigjpehecibeaaGreatW.PrintWords.Aside0 renaming mk -> I
open Go.Proofs.YtfigjpehecibeaaGreatW.PrintWords.Drawn0 renaming refl -> cz, step -> da
open Go.RowKit.Below renaming refl -> aq, heap_setCell -> dw
open Go.Value renaming int -> ba, bool -> ia, ownBlock -> dh
open Go.WideMaps renaming keyOf_string_mk -> jz
open Go.World renaming setCell -> iu, block_lt_of_cell? -> aj
open Int renaming toNat_natCast -> av, natCast_nonneg -> bc, natCast_emod -> jd, natCast_mul -> il, eq_ofNat_of_zero_le -> dn, emod_lt_of_pos -> jw, natCast_add -> kp, lt_or_le -> cu
open List renaming mem_cons -> gi, mem_append -> fu, getElem_of_mem -> fz, getD_eq_getElem?_getD -> au, getElem?_eq_getElem -> az, getElem?_eq_none -> ed, all_eq_true -> dz, range -> br, cons_append -> gq, length_append -> ay, range_succ -> js, length_singleton -> bk, getElem?_set -> kn, setIfInBounds_toArray -> aa, set_cons_zero -> ah, set_cons_succ -> ai, any_cons -> jn, mem_cons_self -> ji, append_nil -> df, length_cons -> iv, append_assoc -> dr, take_zero -> jq, length_take -> cn, take_length -> di, map_append -> fg, map_cons -> cm, map_nil -> cw, map_toArray -> cb, length_drop -> dx, getElem?_take -> jt, replicate -> bu, take_append_of_le_length -> ke, take_of_length_le -> ku, length_replicate -> iz, drop_eq_nil_of_le -> jp, getElem?_map -> kg, getElem?_append_left -> je, getElem_mem -> ef, mem_range -> ja
open Nat renaming add_zero -> fq, not_lt -> jj, lt_or_ge -> gj, le_trans -> bh, zero_le -> bi, not_lt_zero -> cq, le_refl -> ar, min_eq_left -> cy, mod_eq_of_lt -> fp, lt_of_lt_of_le -> bq, pow_le_pow_right -> jm, min_eq_right -> iw, testBit_two_pow_sub_one -> kw, mod_lt -> gm, two_pow_pos -> du, lt_of_le_of_lt -> ez, mul_le_mul_right -> fj, succ_mul -> kr, mul_one -> gu, div_le_self -> iq, le_mul_of_pos_right -> fo, eq_zero_or_pos -> cf, ne_of_lt -> jh
open Option renaming none -> ag, some -> ac, map_eq_some_iff -> gf
open Option.some renaming inj -> ck
open Or renaming inl -> bg
open SizeOf renaming sizeOf -> cd
set_option linter.unusedVariables false
set_option linter.unusedSimpArgs false
set_option maxHeartbeats 8000000
namespace Go.Proofs.YtfigjpehecibeaaGreat.L
open Go.RowKit Go.Proofs.YtfigjpehecibeaaGreatW.PrintWords Go.Proofs.YtfigjpehecibeaaGreatW.PrintLast Go.Proofs.YtfigjpehecibeaaGreatW.PrintMore Go.Proofs.YtfigjpehecibeaaGreat.Gr
section
attribute [local go_sem] G.cell
theorem iW {wd : Int} {s : S119} {d : Nat} {lo : List ByteArray} (hk : s.f0 = 4) (hn : ¬ s.f5 < s.f4) (P : Int) (hP : (2 : Int) ^ wd.toNat = P) (hw : ¬ 64 <= wd) (hP0 : 0 < P) : oG wd (.stmt s d lo) = decide (P < s.f5) := by
 unfold oG gH
 simp only []
 rw [beq_iff_eq.2 hk, decide_eq_false hn, decide_eq_false hw, hP]
 by_cases h : P < s.f5
 ·rw [decide_eq_true h, decide_eq_true (show 0 < s.f5 by omega), decide_eq_false (show ¬ s.f5 - 1 < P by omega)]; rfl
 ·rw [decide_eq_false h, decide_eq_true (show s.f5 - 1 < P by omega)]; simp
theorem bad14_64 {s : S119} {d : Nat} {lo : List ByteArray} (hk : s.f0 = 4) (hn : ¬ s.f5 < s.f4) : oG 64 (.stmt s d lo) = J := by
 unfold oG gH
 simp only []
 rw [beq_iff_eq.2 hk, decide_eq_false hn, decide_eq_true (show (64 : Int) <= 64 by decide)]
 simp
set_option maxRecDepth 100000 in
theorem cl14_calls {Wb : World} (nm : ByteArray) (wd ln : Int) (ds : List S70) (bd : List S119) (A3 : Option Addr) (c3 : Nat) (A4 : Option Addr) (c4 : Nat) (hp : ProgAt Wb ds bd A3 c3 A4 c4) (hw : cV wd = af) (W : World) (n : Nat) (dp sp ep : Value) (dI : Int) (lp : Value) (t : Th) (hR : RT t) (hB : Below Wb.heap.size Wb W) (ht : ThP Wb W dp sp ep dI lp t) (b : Bool) (hb : b = oG wd t) :
 Calls ak 199 #[.agg #[.string nm, .int .i64 wd, .int .i64 ln, .slice A3 ds.length c3, .slice A4 bd.length c4], .agg #[.int .i64 n, dp, sp, ep, .int .i64 dI, lp]] W fun e w' => e = .returned (.bool b) /\ Below W.heap.size W w' := by
 have gout := @gB W
 have HB := I hB
 have HP := I hp
 have HR := I hb
 have HT := I ht
 have HRT := I hR
 clear hb hB hp hR
 go_enter Tryz.func199, Tryz.ntmps199
 go_upto_region 1 with (fail)
 refine aH ?_
 intro gg
 have goutW : ∀ (g : G (gw0 gg)), Below W.heap.size W g.W := fun g => gout g
 have goutB : ∀ (g : G (gw0 gg)), Below Wb.heap.size Wb g.W := fun g => HB.out.trans ((goutW g).mono HB.out.size)
 cases t with
 | decl i =>
   obtain ⟨⟨a, rfl⟩, rfl, rfl, rfl, rfl⟩ := ht
   go_upto_region 1 with (fail)
   refine aP (g := gg) (by kernel_rfl) (by kernel_rfl) ?_
   repeat (go_big_quiet_step (fail))
   refine wpQuiet_nil ?_
   rintro _ ⟨gg, rfl⟩
   go_wp2_with fail
   go_ret
   exact ⟨aC (by rw [HR.out]; rfl), goutW _⟩
 | stmt s d lo =>
   obtain ⟨rfl, ⟨a, A5, c5, A9, c9, A12, c12, A13, c13, rfl, hr, _⟩, rfl, rfl, hsc⟩ := ht
   have q0 : ∀ g : G (gw0 gg), g.W.cell? ⟨a.block, a.off, ag⟩ = ac (.int .i64 s.f0) := fun g => aE (goutB g) (by have := hr 0 _ rfl; rwa [fq] at this)
   have q10 : ∀ g : G (gw0 gg), g.W.cell? ⟨a.block, a.off + 10, ag⟩ = ac (.int .u64 s.f4) := fun g => aE (goutB g) (hr 10 _ rfl)
   have q11 : ∀ g : G (gw0 gg), g.W.cell? ⟨a.block, a.off + 11, ag⟩ = ac (.int .u64 s.f5) := fun g => aE (goutB g) (hr 11 _ rfl)
   clear hr hsc
   by_cases k : s.f0 = 4
   ·have K := I k
    rw [k] at q0
    clear k
    have hww : wd = 4 \/ wd = 8 \/ wd = 16 \/ wd = 32 \/ wd = 64 := by
     unfold cV at hw
     simp only [Bool.or_eq_true, beq_iff_eq] at hw
     omega
    clear hw
    by_cases h : s.f5 < s.f4
    ·have h' : s.f4 > s.f5 := h
     have H := I h
     clear h
     go_upto_region 1 with (fail)
     refine aP (g := gg) (by kernel_rfl) (by kernel_rfl) ?_
     repeat (go_big_quiet_step (fail))
     refine wpQuiet_nil ?_
     rintro _ ⟨gg, rfl⟩
     go_wp2_with fail
     go_ret
     exact ⟨aC (by rw [HR.out]; simp [oG, K.out, H.out]), goutW _⟩
    ·have h' : ¬ s.f4 > s.f5 := h
     have H := I h
     clear h
     rcases hww with w | w | w | w | w
     ·subst w
      by_cases h2 : s.f5 > 16
      ·have H2 := I h2
       clear h2
       go_upto_region 1 with (fail)
       refine aP (g := gg) (by kernel_rfl) (by kernel_rfl) ?_
       repeat (go_big_quiet_step (fail))
       refine wpQuiet_nil ?_
       rintro _ ⟨gg, rfl⟩
       go_wp2_with fail
       go_ret
       exact ⟨aC (by rw [HR.out, iW K.out (by have := H.out; omega) 16 (by rfl) (by decide) (by decide)]), goutW _⟩
      ·have H2 := I h2
       clear h2
       go_upto_region 1 with (fail)
       refine aP (g := gg) (by kernel_rfl) (by kernel_rfl) ?_
       repeat (go_big_quiet_step (fail))
       refine wpQuiet_nil ?_
       rintro _ ⟨gg, rfl⟩
       go_wp2_with fail
       go_ret
       exact ⟨aC (by rw [HR.out, iW K.out (by have := H.out; omega) 16 (by rfl) (by decide) (by decide)]), goutW _⟩
     ·subst w
      by_cases h2 : s.f5 > 256
      ·have H2 := I h2
       clear h2
       go_upto_region 1 with (fail)
       refine aP (g := gg) (by kernel_rfl) (by kernel_rfl) ?_
       repeat (go_big_quiet_step (fail))
       refine wpQuiet_nil ?_
       rintro _ ⟨gg, rfl⟩
       go_wp2_with fail
       go_ret
       exact ⟨aC (by rw [HR.out, iW K.out (by have := H.out; omega) 256 (by rfl) (by decide) (by decide)]), goutW _⟩
      ·have H2 := I h2
       clear h2
       go_upto_region 1 with (fail)
       refine aP (g := gg) (by kernel_rfl) (by kernel_rfl) ?_
       repeat (go_big_quiet_step (fail))
       refine wpQuiet_nil ?_
       rintro _ ⟨gg, rfl⟩
       go_wp2_with fail
       go_ret
       exact ⟨aC (by rw [HR.out, iW K.out (by have := H.out; omega) 256 (by rfl) (by decide) (by decide)]), goutW _⟩
     ·subst w
      by_cases h2 : s.f5 > 65536
      ·have H2 := I h2
       clear h2
       go_upto_region 1 with (fail)
       refine aP (g := gg) (by kernel_rfl) (by kernel_rfl) ?_
       repeat (go_big_quiet_step (fail))
       refine wpQuiet_nil ?_
       rintro _ ⟨gg, rfl⟩
       go_wp2_with fail
       go_ret
       exact ⟨aC (by rw [HR.out, iW K.out (by have := H.out; omega) 65536 (by rfl) (by decide) (by decide)]), goutW _⟩
      ·have H2 := I h2
       clear h2
       go_upto_region 1 with (fail)
       refine aP (g := gg) (by kernel_rfl) (by kernel_rfl) ?_
       repeat (go_big_quiet_step (fail))
       refine wpQuiet_nil ?_
       rintro _ ⟨gg, rfl⟩
       go_wp2_with fail
       go_ret
       exact ⟨aC (by rw [HR.out, iW K.out (by have := H.out; omega) 65536 (by rfl) (by decide) (by decide)]), goutW _⟩
     ·subst w
      by_cases h2 : s.f5 > 4294967296
      ·have H2 := I h2
       clear h2
       go_upto_region 1 with (fail)
       refine aP (g := gg) (by kernel_rfl) (by kernel_rfl) ?_
       repeat (go_big_quiet_step (fail))
       refine wpQuiet_nil ?_
       rintro _ ⟨gg, rfl⟩
       go_wp2_with fail
       go_ret
       exact ⟨aC (by rw [HR.out, iW K.out (by have := H.out; omega) 4294967296 (by rfl) (by decide) (by decide)]), goutW _⟩
      ·have H2 := I h2
       clear h2
       go_upto_region 1 with (fail)
       refine aP (g := gg) (by kernel_rfl) (by kernel_rfl) ?_
       repeat (go_big_quiet_step (fail))
       refine wpQuiet_nil ?_
       rintro _ ⟨gg, rfl⟩
       go_wp2_with fail
       go_ret
       exact ⟨aC (by rw [HR.out, iW K.out (by have := H.out; omega) 4294967296 (by rfl) (by decide) (by decide)]), goutW _⟩
     ·subst w
      go_upto_region 1 with (fail)
      refine aP (g := gg) (by kernel_rfl) (by kernel_rfl) ?_
      repeat (go_big_quiet_step (fail))
      refine wpQuiet_nil ?_
      rintro _ ⟨gg, rfl⟩
      go_wp2_with fail
      go_ret
      exact ⟨aC (by rw [HR.out, bad14_64 K.out (by have := H.out; omega)]), goutW _⟩
   ·have K := I k
    have b1 := bf k
    clear k
    go_upto_region 1 with (fail)
    refine aP (g := gg) (by kernel_rfl) (by kernel_rfl) ?_
    repeat (go_big_quiet_step (fail))
    refine wpQuiet_nil ?_
    rintro _ ⟨gg, rfl⟩
    go_wp2_with fail
    go_ret
    exact ⟨aC (by rw [HR.out]; simp [oG, K.out]), goutW _⟩
 | expr x lo =>
   obtain ⟨rfl, rfl, ⟨a, A, c, rfl, hr, _⟩, rfl, hsc⟩ := ht
   clear hr hsc
   go_upto_region 1 with (fail)
   refine aP (g := gg) (by kernel_rfl) (by kernel_rfl) ?_
   repeat (go_big_quiet_step (fail))
   refine wpQuiet_nil ?_
   rintro _ ⟨gg, rfl⟩
   go_wp2_with fail
   go_ret
   exact ⟨aC (by rw [HR.out]; rfl), goutW _⟩
end
section
attribute [local go_sem] G.cell
theorem find_qv {A3 : Option Addr} {ds : List S70} {s : ByteArray} {q : Option Addr} (hq : qOf A3 ds s = q) (nm : ByteArray) (wd ln : Int) (A3' : Option Addr) (c3 : Nat) (A4 : Option Addr) (n4 c4 : Nat) (w : World) (hd : k70.C w A3 ds.length ds) (hld : ds.length <= c3) :
 Calls ak 181 #[.agg #[.string nm, .int .i64 wd, .int .i64 ln, .slice A3 ds.length c3, .slice A4 n4 c4], .string s] w fun e w' => e = .returned (.pointer q) /\ Below w.heap.size w w' := hq ▸ find_q nm wd ln ds A3 c3 A4 n4 c4 s w hd hld
set_option maxRecDepth 100000 in
theorem cl15_calls {Wb : World} (nm : ByteArray) (wd ln : Int) (ds : List S70) (bd : List S119) (A3 : Option Addr) (c3 : Nat) (A4 : Option Addr) (c4 : Nat) (hp : ProgAt Wb ds bd A3 c3 A4 c4) (W : World) (n : Nat) (dp sp ep : Value) (dI : Int) (lp : Value) (t : Th) (hR : RT t) (hB : Below Wb.heap.size Wb W) (ht : ThP Wb W dp sp ep dI lp t) (b : Bool) (hb : b = lP ds t) :
 Calls ak 200 #[.agg #[.string nm, .int .i64 wd, .int .i64 ln, .slice A3 ds.length c3, .slice A4 bd.length c4], .agg #[.int .i64 n, dp, sp, ep, .int .i64 dI, lp]] W fun e w' => e = .returned (.bool b) /\ Below W.heap.size W w' := by
 have gout := @gB W
 have HB := I hB
 have HP := I hp
 have HR := I hb
 have HT := I ht
 have HRT := I hR
 clear hb hB hp hR
 go_enter Tryz.func200, Tryz.ntmps200
 go_upto_region 1 with (fail)
 refine aH ?_
 intro gg
 have goutW : ∀ (g : G (gw0 gg)), Below W.heap.size W g.W := fun g => gout g
 have goutB : ∀ (g : G (gw0 gg)), Below Wb.heap.size Wb g.W := fun g => HB.out.trans ((goutW g).mono HB.out.size)
 have HSC := I ht.scope
 cases t with
 | decl i =>
   obtain ⟨⟨a, rfl⟩, rfl, rfl, rfl, rfl⟩ := ht
   go_upto_region 1 with (fail)
   refine aP (g := gg) (by kernel_rfl) (by kernel_rfl) ?_
   repeat (go_big_quiet_step (fail))
   refine wpQuiet_nil ?_
   rintro _ ⟨gg, rfl⟩
   go_wp2_with fail
   go_ret
   exact ⟨aC (by rw [HR.out]; rfl), goutW _⟩
 | stmt s d lo =>
   obtain ⟨rfl, ⟨a, A5, c5, A9, c9, A12, c12, A13, c13, rfl, hr, _⟩, rfl, rfl, hsc⟩ := ht
   have q0 : ∀ g : G (gw0 gg), g.W.cell? ⟨a.block, a.off, ag⟩ = ac (.int .i64 s.f0) := fun g => aE (goutB g) (by have := hr 0 _ rfl; rwa [fq] at this)
   have q1 : ∀ g : G (gw0 gg), g.W.cell? ⟨a.block, a.off + 1, ag⟩ = ac (.string s.f1) := fun g => aE (goutB g) (hr 1 _ rfl)
   clear hr hsc
   by_cases k : s.f0 = 4
   ·have K := I k
    rw [k] at q0
    clear k
    rcases aJ (iC lo s.f1) with hh | hh
    ·have HH := I hh
     clear hh
     go_upto_region 1 with (fail)
     refine aP (g := gg) (by kernel_rfl) (by kernel_rfl) ?_
     repeat (go_big_quiet_step (fail))
     go_big_quiet_step (first | (go_at_call 195; exact aD (has_v (HSC.out.below (goutW _)) HH.out)))
     repeat (go_big_quiet_step (fail))
     refine wpQuiet_nil ?_
     rintro _ ⟨gg, rfl⟩
     go_wp2_with fail
     go_ret
     exact ⟨aC (by rw [HR.out]; simp [lP, K.out, HH.out]), goutW _⟩
    ·have HH := I hh
     clear hh
     rcases aJ ((bZ ds s.f1).isNone) with hn | hn
     ·have hq := qOf_none (A3 := A3) hn
      have HN := I (show (bZ ds s.f1).isSome = J by cases hf : bZ ds s.f1 with | none => rfl | some i => rw [hf] at hn; cases hn)
      clear hn
      go_upto_region 1 with (fail)
      refine aP (g := gg) (by kernel_rfl) (by kernel_rfl) ?_
      repeat (go_big_quiet_step (fail))
      go_big_quiet_step (first | (go_at_call 195; exact aD (has_v (HSC.out.below (goutW _)) HH.out)))
      repeat (go_big_quiet_step (fail))
      go_big_quiet_step (first | (go_at_call 181; exact aD (find_qv hq nm wd ln A3 c3 A4 bd.length c4 _ (Kd.aF HP.out.hd (goutB _)) HP.out.hld)))
      repeat (go_big_quiet_step (fail))
      refine wpQuiet_nil ?_
      rintro _ ⟨gg, rfl⟩
      go_wp2_with fail
      go_ret
      exact ⟨aC (by rw [HR.out]; simp only [lP]; rw [HN.out, HH.out]; simp), goutW _⟩
     ·obtain ⟨qa, hq⟩ := qOf_some HP.out.hd hn
      have HN := I (show (bZ ds s.f1).isSome = af by cases hf : bZ ds s.f1 with | none => rw [hf] at hn; cases hn | some i => rfl)
      clear hn
      go_upto_region 1 with (fail)
      refine aP (g := gg) (by kernel_rfl) (by kernel_rfl) ?_
      repeat (go_big_quiet_step (fail))
      go_big_quiet_step (first | (go_at_call 195; exact aD (has_v (HSC.out.below (goutW _)) HH.out)))
      repeat (go_big_quiet_step (fail))
      go_big_quiet_step (first | (go_at_call 181; exact aD (find_qv hq nm wd ln A3 c3 A4 bd.length c4 _ (Kd.aF HP.out.hd (goutB _)) HP.out.hld)))
      repeat (go_big_quiet_step (fail))
      refine wpQuiet_nil ?_
      rintro _ ⟨gg, rfl⟩
      go_wp2_with fail
      go_ret
      exact ⟨aC (by rw [HR.out]; simp only [lP]; rw [HN.out, K.out]; rfl), goutW _⟩
   ·have K := I k
    have b1 := bf k
    clear k
    go_upto_region 1 with (fail)
    refine aP (g := gg) (by kernel_rfl) (by kernel_rfl) ?_
    repeat (go_big_quiet_step (fail))
    refine wpQuiet_nil ?_
    rintro _ ⟨gg, rfl⟩
    go_wp2_with fail
    go_ret
    exact ⟨aC (by rw [HR.out]; simp [lP, K.out]), goutW _⟩
 | expr x lo =>
   obtain ⟨rfl, rfl, ⟨a, A, c, rfl, hr, _⟩, rfl, hsc⟩ := ht
   clear hr hsc
   go_upto_region 1 with (fail)
   refine aP (g := gg) (by kernel_rfl) (by kernel_rfl) ?_
   repeat (go_big_quiet_step (fail))
   refine wpQuiet_nil ?_
   rintro _ ⟨gg, rfl⟩
   go_wp2_with fail
   go_ret
   exact ⟨aC (by rw [HR.out]; rfl), goutW _⟩
end
def KW : Th -> Prop
 | .decl _ => True
 | .stmt s _ _ => 1 <= s.f0 /\ s.f0 <= 5
 | .expr e _ => aK e <= 8388608
mutual
theorem kw_exTh : ∀ (e : S116) (lo : List ByteArray), aK e <= 8388608 -> ∀ t ∈ dX e lo, KW t
 | ⟨a, b, s, l⟩, lo, h, t, ht => by
   rw [dX] at ht
   rcases gi.1 ht with rfl | ht
   ·exact h
   ·rw [aK] at h
    exact kw_exThs l lo (by omega) t ht
theorem kw_exThs : ∀ (l : List S116) (lo : List ByteArray), bN l <= 8388608 -> ∀ t ∈ e7 l lo, KW t
 | [], _, _, t, ht => by rw [e7] at ht; cases ht
 | x :: r, lo, h, t, ht => by
   rw [bN] at h
   rw [e7] at ht
   rcases fu.1 ht with ht | ht
   ·exact kw_exTh x lo (by omega) t ht
   ·exact kw_exThs r lo (by omega) t ht
end
mutual
theorem kw_stTh : ∀ (x : S119) (d : Nat) (lo : List ByteArray), stB x = af -> Ot.nQ x <= 1048576 -> ∀ t ∈ stTh x d lo, KW t
 | ⟨k, nm, e, f, l, h, th, el⟩, d, lo, hs, hb, t, ht => by
   have F := st_form hs
   rw [Ot.nQ] at hb
   rw [stTh] at ht
   have h1 := aS e
   have h2 := aS f
   rcases gi.1 ht with rfl | ht
   ·exact ⟨F.1, F.2.1⟩
   ·rcases fu.1 ht with ht | ht
    ·rcases fu.1 ht with ht | ht
     ·split at ht
      ·exact kw_exTh e lo (by omega) t ht
      ·cases ht
     ·split at ht
      ·exact kw_exTh f lo (by omega) t ht
      ·cases ht
    ·rcases fu.1 ht with ht | ht
     ·exact oX th _ _ F.2.2.2.2.1 (by omega) t ht
     ·exact oX el _ _ F.2.2.2.2.2 (by omega) t ht
theorem oX : ∀ (l : List S119) (d : Nat) (lo : List ByteArray), bdB l = af -> Ot.bW l <= 1048576 -> ∀ t ∈ aL l d lo, KW t
 | [], _, _, _, _, t, ht => by rw [aL] at ht; cases ht
 | x :: r, d, lo, hs, hb, t, ht => by
   rw [kQ, List.all_cons, bo, <- kQ] at hs
   rw [Ot.bW] at hb
   rw [aL] at ht
   rcases fu.1 ht with ht | ht
   ·exact kw_stTh x d lo hs.1 (by omega) t ht
   ·exact oX r d lo hs.2 (by omega) t ht
end
theorem rw_things {ds : List S70} {bd : List S119} (h : ∀ t ∈ bd, Ot.jE t) (hf : bdB bd = af) (hb : Ot.bW bd <= 1048576) : ∀ t ∈ things ds bd, RW t := by
 intro t ht
 have h1 := qL (ds := ds) h t ht
 have h2 : KW t := by
  unfold things at ht
  rcases fu.1 ht with ht | ht
  ·obtain ⟨i, _, rfl⟩ := List.mem_map.1 ht
   trivial
  ·exact oX bd 1 [] hf hb t ht
 cases t with
 | decl i => exact ⟨⟨h1, trivial⟩, trivial⟩
 | stmt s d l => exact ⟨⟨h1, h2⟩, trivial⟩
 | expr e l => exact ⟨⟨h1, trivial⟩, h2⟩
theorem bP {f : Th -> Bool} {l : List Th} (h : (fD f l).2 = J) : aZ l.length (fun i => f (bM l i)) = ag := by
 unfold fD at h
 cases e : aZ l.length (fun i => f (bM l i)) with
 | none => rfl
 | some i => rw [e] at h; cases h
theorem iB {f : Th -> Bool} {l : List Th} (h : (fD f l).2 = af) : ∃ i : Nat, aZ l.length (fun i => f (bM l i)) = ac i /\ (fD f l).1 = (i : Int) := by
 unfold fD at h ⊢
 cases e : aZ l.length (fun i => f (bM l i)) with
 | none => rw [e] at h; cases h
 | some i => exact ⟨i, rfl, rfl⟩
theorem aT {f : Nat -> Bool} {n : Nat} (h : (eO f n).2 = J) : aZ n f = ag := by
 unfold eO at h
 cases e : aZ n f with
 | none => rfl
 | some i => rw [e] at h; cases h
theorem lB {f : Nat -> Bool} {n : Nat} (h : (eO f n).2 = af) : ∃ i : Nat, aZ n f = ac i /\ (eO f n).1 = (i : Int) := by
 unfold eO at h ⊢
 cases e : aZ n f with
 | none => rw [e] at h; cases h
 | some i => exact ⟨i, rfl, rfl⟩
theorem jK {n : Nat} {f : Nat -> Bool} (h : aZ n f = ag) : ∀ j, j < n -> f j = J := by
 rcases dD n f with ⟨_, h2⟩ | ⟨i, _, h1, _, _⟩
 ·exact h2
 ·rw [h] at h1; cases h1
theorem iA {f : Th -> Bool} {l : List Th} (h : (fD f l).2 = J) : ∀ t ∈ l, f t = J := by
 intro t ht
 obtain ⟨i, hi, rfl⟩ := fz ht
 have := jK (bP h) i hi
 rwa [thAt_lt hi] at this
def cR (nm : ByteArray) (wd ln : Int) (ds : List S70) (bd : List S119) : Nat -> Int × Bool
 | 0 => (-1, !dG nm wd ln ds bd)
 | 1 => (-1, !cV wd)
 | 2 => (-1, !cZ ln)
 | 3 => (-1, !decide (ds.length <= 256))
 | 4 => eO (cP ds) ds.length
 | 5 => eO (bS ds) ds.length
 | 6 => eO (bD ds) ds.length
 | 7 => eO (cC wd ds) ds.length
 | 8 => (-1, !decide (dB ds <= 4096))
 | 9 => fD (nC wd ds 10) (things ds bd)
 | 10 => fD (nC wd ds 11) (things ds bd)
 | 11 => fD (nC wd ds 12) (things ds bd)
 | 12 => fD (nC wd ds 13) (things ds bd)
 | 13 => fD (nC wd ds 14) (things ds bd)
 | 14 => fD (nC wd ds 15) (things ds bd)
 | _ => (-1, !decide (bR bd <= 65536))
def cF : Nat -> FuncId
 | 4 => 247
 | 5 => 247
 | 6 => 247
 | 7 => 247
 | 9 => 249
 | 10 => 249
 | 11 => 249
 | 12 => 249
 | 13 => 249
 | 14 => 249
 | _ => 246
def cE : Nat -> Int
 | 0 => 1
 | 1 => 5
 | 2 => 163
 | 3 => 4
 | 4 => 160
 | 5 => 163
 | 6 => 164
 | 7 => 165
 | 8 => 169
 | 9 => 152
 | 10 => 161
 | 11 => 162
 | 12 => 165
 | 13 => 166
 | 14 => 167
 | _ => 168
theorem gS {b : Bool} (h : (!b) = J) : b = af := by cases b <;> simp_all
theorem b_yes {b : Bool} (h : (!b) = af) : b = J := by cases b <;> simp_all
theorem oZ {p : Prop} [Decidable p] (h : (!decide p) = J) : p := by simpa using h
theorem d_yes {p : Prop} [Decidable p] (h : (!decide p) = af) : ¬ p := by simpa using h
set_option maxRecDepth 100000 in
theorem clause_calls (nm : ByteArray) (wd ln : Int) (ds : List S70) (bd : List S119) (A3 : Option Addr) (c3 : Nat) (A4 : Option Addr) (c4 : Nat) (b : Nat) (X : World) (hp : ProgAt X ds bd A3 c3 A4 c4) (hg : PGood nm wd ln ds bd) (hbx : ∀ i, i < 16 -> X.heap[b + i]? = (clL b)[i]?) (k : Nat) (hk : k < 16) (hprev : ∀ j, j < k -> (cR nm wd ln ds bd j).2 = J) :
 Calls ak (cF k) #[.agg #[.string nm, .int .i64 wd, .int .i64 ln, .slice A3 ds.length c3, .slice A4 bd.length c4], .pointer (ac ⟨b + k, 0, ag⟩)] X fun e w' => e = .returned (.tuple #[.int .i64 (cR nm wd ln ds bd k).1, .bool (cR nm wd ln ds bd k).2]) /\ Below X.heap.size X w' := by
 have hdl := hg.sizes.1
 have hbk := hg.sizes.2
 have FF : 0 < k -> 0 <= wd /\ 0 <= ln /\ (∀ d ∈ ds, 0 <= d.f2) /\ bdB bd = af := fun h => nA (gS (hprev 0 h))
 have RWt : 0 < k -> ∀ t ∈ things ds bd, RW t := fun h => rw_things hg.good.bd (FF h).2.2.2 hbk
 have HV : ∀ d ∈ ds, ∀ v ∈ d.f3, 0 <= v := fun d hd v hv => (okU_b ((hg.good.ds d hd).2.2.2.2 v hv)).1
 have hcs : k = 0 \/ k = 1 \/ k = 2 \/ k = 3 \/ k = 4 \/ k = 5 \/ k = 6 \/ k = 7 \/ k = 8 \/ k = 9 \/ k = 10 \/ k = 11 \/ k = 12 \/ k = 13 \/ k = 14 \/ k = 15 := by omega
 rcases hcs with rfl | rfl | rfl | rfl | rfl | rfl | rfl | rfl | rfl | rfl | rfl | rfl | rfl | rfl | rfl | rfl
 ·exact whole44_calls nm wd ln ds bd A3 c3 A4 c4 (b + 0) X ((hbx 0 (by decide)).trans rfl) (dG nm wd ln ds bd) fun Y hY => wf_v (hp.below hY) rfl
 ·exact whole45_calls nm wd ln ds bd A3 c3 A4 c4 (b + 1) X ((hbx 1 (by decide)).trans rfl) (cV wd) fun Y hY => c45_calls nm wd ln ds bd A3 c3 A4 c4 Y _ rfl
 ·exact whole47_calls nm wd ln ds bd A3 c3 A4 c4 (b + 2) X ((hbx 2 (by decide)).trans rfl) (cZ ln) fun Y hY => c47_calls nm wd ln ds bd A3 c3 A4 c4 Y _ rfl
 ·exact whole48_calls nm wd ln ds bd A3 c3 A4 c4 (b + 3) X ((hbx 3 (by decide)).trans rfl) (decide (ds.length <= 256)) fun Y hY => c48_calls nm wd ln ds bd A3 c3 A4 c4 Y hdl _ rfl
 ·exact decls50_calls nm wd ln ds bd A3 c3 A4 c4 (b + 4) X hdl ((hbx 4 (by decide)).trans rfl) (cP ds) (fun Y i hY hi => c50_calls nm wd ln ds bd A3 c3 A4 c4 Y (hp.below hY).hd hp.hld i hi _ rfl) _ rfl
 ·exact decls52_calls nm wd ln ds bd A3 c3 A4 c4 (b + 5) X hdl ((hbx 5 (by decide)).trans rfl) (bS ds) (fun Y i hY hi => c52_calls nm wd ln ds bd A3 c3 A4 c4 Y (hp.below hY).hd i hi _ rfl) _ rfl
 ·exact decls53_calls nm wd ln ds bd A3 c3 A4 c4 (b + 6) X hdl ((hbx 6 (by decide)).trans rfl) (bD ds) (fun Y i hY hi => c53_calls nm wd ln ds bd A3 c3 A4 c4 Y (hp.below hY).hd i hi _ rfl) _ rfl
 ·exact decls54_calls nm wd ln ds bd A3 c3 A4 c4 (b + 7) X hdl ((hbx 7 (by decide)).trans rfl) (cC wd ds) (fun Y i hY hi => c54_calls nm wd ln ds bd A3 c3 A4 c4 Y (hp.below hY).hd (FF (by decide)).1 HV i hi _ rfl) _ rfl
 ·have HW : ∀ d ∈ ds, d.f2 = 0 \/ cZ d.f2 = af := by
   intro d hd
   obtain ⟨i, hi, rfl⟩ := fz hd
   have h := size_good (jK (aT (hprev 5 (by decide))) i hi)
   have e : aG ds (i : Int) = ds[i] := by unfold aG; rw [av, au, az hi]; rfl
   rwa [e] at h
  exact whole58_calls nm wd ln ds bd A3 c3 A4 c4 (b + 8) X ((hbx 8 (by decide)).trans rfl) (decide (dB ds <= 4096)) fun Y hY => c58_calls nm wd ln ds bd A3 c3 A4 c4 Y (hp.below hY).hd hdl HW _ rfl
 ·refine e9 (R := RW) (f := nC wd ds 10) nm wd ln ds bd A3 c3 A4 c4 (b + 9) X hp (FF (by decide)).2.2.2 hdl hbk (RWt (by decide)) (fun Y b2 hY h2 => wrong61_ok (W0 := Y) (nm := nm) (wd := wd) (ln := ln) (ds := ds) (bd := bd) (A3 := A3) (c3 := c3) (A4 := A4) (c4 := c4) ?_ ((hY.block _ (aW ((hbx 9 (by decide)).trans rfl))).trans ((hbx 9 (by decide)).trans rfl)) h2) _ rfl
  intro Wb W n dp sp ep dI lp t hR h0 hB ht
  exact cl10_calls nm wd ln ds bd A3 c3 A4 c4 W n dp sp ep dI lp t hR hB ht _ rfl
 ·refine e9 (R := RW) (f := nC wd ds 11) nm wd ln ds bd A3 c3 A4 c4 (b + 10) X hp (FF (by decide)).2.2.2 hdl hbk (RWt (by decide)) (fun Y b2 hY h2 => wrong63_ok (W0 := Y) (nm := nm) (wd := wd) (ln := ln) (ds := ds) (bd := bd) (A3 := A3) (c3 := c3) (A4 := A4) (c4 := c4) ?_ ((hY.block _ (aW ((hbx 10 (by decide)).trans rfl))).trans ((hbx 10 (by decide)).trans rfl)) h2) _ rfl
  intro Wb W n dp sp ep dI lp t hR h0 hB ht
  exact cl11_calls nm wd ln ds bd A3 c3 A4 c4 ((hp.below hY).below h0) W n dp sp ep dI lp t hR.1 hB ht _ rfl
 ·refine e9 (R := (fun t => RW t /\ jF ds t = J)) (f := nC wd ds 12) nm wd ln ds bd A3 c3 A4 c4 (b + 11) X hp (FF (by decide)).2.2.2 hdl hbk (fun t ht => ⟨RWt (by decide) t ht, iA (hprev 10 (by decide)) t ht⟩) (fun Y b2 hY h2 => wrong66_ok (W0 := Y) (nm := nm) (wd := wd) (ln := ln) (ds := ds) (bd := bd) (A3 := A3) (c3 := c3) (A4 := A4) (c4 := c4) ?_ ((hY.block _ (aW ((hbx 11 (by decide)).trans rfl))).trans ((hbx 11 (by decide)).trans rfl)) h2) _ rfl
  intro Wb W n dp sp ep dI lp t hR h0 hB ht
  exact cl12_calls nm wd ln ds bd A3 c3 A4 c4 ((hp.below hY).below h0) (FF (by decide)).2.2.1 W n dp sp ep dI lp t hR.1.1 hB ht hR.2 _ rfl
 ·refine e9 (R := RW) (f := nC wd ds 13) nm wd ln ds bd A3 c3 A4 c4 (b + 12) X hp (FF (by decide)).2.2.2 hdl hbk (RWt (by decide)) (fun Y b2 hY h2 => wrong68_ok (W0 := Y) (nm := nm) (wd := wd) (ln := ln) (ds := ds) (bd := bd) (A3 := A3) (c3 := c3) (A4 := A4) (c4 := c4) ?_ ((hY.block _ (aW ((hbx 12 (by decide)).trans rfl))).trans ((hbx 12 (by decide)).trans rfl)) h2) _ rfl
  intro Wb W n dp sp ep dI lp t hR h0 hB ht
  exact cl13_calls nm wd ln ds bd A3 c3 A4 c4 ((hp.below hY).below h0) (FF (by decide)).1 W n dp sp ep dI lp t hR.1 hB ht _ rfl
 ·refine e9 (R := RW) (f := nC wd ds 14) nm wd ln ds bd A3 c3 A4 c4 (b + 13) X hp (FF (by decide)).2.2.2 hdl hbk (RWt (by decide)) (fun Y b2 hY h2 => wrong69_ok (W0 := Y) (nm := nm) (wd := wd) (ln := ln) (ds := ds) (bd := bd) (A3 := A3) (c3 := c3) (A4 := A4) (c4 := c4) ?_ ((hY.block _ (aW ((hbx 13 (by decide)).trans rfl))).trans ((hbx 13 (by decide)).trans rfl)) h2) _ rfl
  intro Wb W n dp sp ep dI lp t hR h0 hB ht
  exact cl14_calls nm wd ln ds bd A3 c3 A4 c4 ((hp.below hY).below h0) (gS (hprev 1 (by decide))) W n dp sp ep dI lp t hR.1 hB ht _ rfl
 ·refine e9 (R := RW) (f := nC wd ds 15) nm wd ln ds bd A3 c3 A4 c4 (b + 14) X hp (FF (by decide)).2.2.2 hdl hbk (RWt (by decide)) (fun Y b2 hY h2 => wrong70_ok (W0 := Y) (nm := nm) (wd := wd) (ln := ln) (ds := ds) (bd := bd) (A3 := A3) (c3 := c3) (A4 := A4) (c4 := c4) ?_ ((hY.block _ (aW ((hbx 14 (by decide)).trans rfl))).trans ((hbx 14 (by decide)).trans rfl)) h2) _ rfl
  intro Wb W n dp sp ep dI lp t hR h0 hB ht
  exact cl15_calls nm wd ln ds bd A3 c3 A4 c4 ((hp.below hY).below h0) W n dp sp ep dI lp t hR.1 hB ht _ rfl
 ·exact whole71_calls nm wd ln ds bd A3 c3 A4 c4 (b + 15) X ((hbx 15 (by decide)).trans rfl) (decide (bR bd <= 65536)) fun Y hY => c71_calls nm wd ln ds bd A3 c3 A4 c4 Y (hp.below hY).hb hp.hlb ((Ot.cO bd).2 hg.good.bd) hbk _ rfl
theorem pW {nm : ByteArray} {wd ln : Int} {ds : List S70} {bd : List S119} {k : Nat} (hk : k < 16) (hprev : ∀ j, j < k -> (cR nm wd ln ds bd j).2 = J) (hb : (cR nm wd ln ds bd k).2 = af) : bJ nm wd ln ds bd = ⟨(k : Int) + 1, (cR nm wd ln ds bd k).1, cE k⟩ := by
 have hcs : k = 0 \/ k = 1 \/ k = 2 \/ k = 3 \/ k = 4 \/ k = 5 \/ k = 6 \/ k = 7 \/ k = 8 \/ k = 9 \/ k = 10 \/ k = 11 \/ k = 12 \/ k = 13 \/ k = 14 \/ k = 15 := by omega
 rcases hcs with rfl | rfl | rfl | rfl | rfl | rfl | rfl | rfl | rfl | rfl | rfl | rfl | rfl | rfl | rfl | rfl
 ·have hh : dG nm wd ln ds bd = J := b_yes hb
  simp only [bJ, eZ, dH, oT, dq, if_false, if_true, reduceIte, reduceCtorEq, Nat.reduceSub, hh] <;> rfl
 ·have h0 : dG nm wd ln ds bd = af := gS (hprev 0 (by decide))
  have hh : cV wd = J := b_yes hb
  simp only [bJ, eZ, dH, oT, dq, if_false, if_true, reduceIte, reduceCtorEq, Nat.reduceSub, hh, h0] <;> rfl
 ·have h0 : dG nm wd ln ds bd = af := gS (hprev 0 (by decide))
  have h1 : cV wd = af := gS (hprev 1 (by decide))
  have hh : cZ ln = J := b_yes hb
  simp only [bJ, eZ, dH, oT, dq, if_false, if_true, reduceIte, reduceCtorEq, Nat.reduceSub, hh, h0, h1] <;> rfl
 ·have h0 : dG nm wd ln ds bd = af := gS (hprev 0 (by decide))
  have h1 : cV wd = af := gS (hprev 1 (by decide))
  have h2 : cZ ln = af := gS (hprev 2 (by decide))
  have hh : 256 < ds.length := Nat.not_le.1 (d_yes hb)
  simp only [bJ, eZ, dH, oT, dq, if_false, if_true, reduceIte, reduceCtorEq, Nat.reduceSub, hh, h0, h1, h2] <;> rfl
 ·have h0 : dG nm wd ln ds bd = af := gS (hprev 0 (by decide))
  have h1 : cV wd = af := gS (hprev 1 (by decide))
  have h2 : cZ ln = af := gS (hprev 2 (by decide))
  have h3 : ¬ 256 < ds.length := jj.2 (oZ (hprev 3 (by decide)))
  obtain ⟨i, hh, hv⟩ := lB hb
  have hv2 : (cR nm wd ln ds bd 4).1 = (i : Int) := hv
  simp only [bJ, eZ, dH, oT, dq, if_false, if_true, reduceIte, reduceCtorEq, Nat.reduceSub, hh, hv2, h0, h1, h2, h3] <;> rfl
 ·have h0 : dG nm wd ln ds bd = af := gS (hprev 0 (by decide))
  have h1 : cV wd = af := gS (hprev 1 (by decide))
  have h2 : cZ ln = af := gS (hprev 2 (by decide))
  have h3 : ¬ 256 < ds.length := jj.2 (oZ (hprev 3 (by decide)))
  have h4 : aZ ds.length (cP ds) = ag := aT (hprev 4 (by decide))
  obtain ⟨i, hh, hv⟩ := lB hb
  have hv2 : (cR nm wd ln ds bd 5).1 = (i : Int) := hv
  simp only [bJ, eZ, dH, oT, dq, if_false, if_true, reduceIte, reduceCtorEq, Nat.reduceSub, hh, hv2, h0, h1, h2, h3, h4] <;> rfl
 ·have h0 : dG nm wd ln ds bd = af := gS (hprev 0 (by decide))
  have h1 : cV wd = af := gS (hprev 1 (by decide))
  have h2 : cZ ln = af := gS (hprev 2 (by decide))
  have h3 : ¬ 256 < ds.length := jj.2 (oZ (hprev 3 (by decide)))
  have h4 : aZ ds.length (cP ds) = ag := aT (hprev 4 (by decide))
  have h5 : aZ ds.length (bS ds) = ag := aT (hprev 5 (by decide))
  obtain ⟨i, hh, hv⟩ := lB hb
  have hv2 : (cR nm wd ln ds bd 6).1 = (i : Int) := hv
  simp only [bJ, eZ, dH, oT, dq, if_false, if_true, reduceIte, reduceCtorEq, Nat.reduceSub, hh, hv2, h0, h1, h2, h3, h4, h5] <;> rfl
 ·have h0 : dG nm wd ln ds bd = af := gS (hprev 0 (by decide))
  have h1 : cV wd = af := gS (hprev 1 (by decide))
  have h2 : cZ ln = af := gS (hprev 2 (by decide))
  have h3 : ¬ 256 < ds.length := jj.2 (oZ (hprev 3 (by decide)))
  have h4 : aZ ds.length (cP ds) = ag := aT (hprev 4 (by decide))
  have h5 : aZ ds.length (bS ds) = ag := aT (hprev 5 (by decide))
  have h6 : aZ ds.length (bD ds) = ag := aT (hprev 6 (by decide))
  obtain ⟨i, hh, hv⟩ := lB hb
  have hv2 : (cR nm wd ln ds bd 7).1 = (i : Int) := hv
  simp only [bJ, eZ, dH, oT, dq, if_false, if_true, reduceIte, reduceCtorEq, Nat.reduceSub, hh, hv2, h0, h1, h2, h3, h4, h5, h6] <;> rfl
 ·have h0 : dG nm wd ln ds bd = af := gS (hprev 0 (by decide))
  have h1 : cV wd = af := gS (hprev 1 (by decide))
  have h2 : cZ ln = af := gS (hprev 2 (by decide))
  have h3 : ¬ 256 < ds.length := jj.2 (oZ (hprev 3 (by decide)))
  have h4 : aZ ds.length (cP ds) = ag := aT (hprev 4 (by decide))
  have h5 : aZ ds.length (bS ds) = ag := aT (hprev 5 (by decide))
  have h6 : aZ ds.length (bD ds) = ag := aT (hprev 6 (by decide))
  have h7 : aZ ds.length (cC wd ds) = ag := aT (hprev 7 (by decide))
  have hh : 4096 < dB ds := Int.not_le.1 (d_yes hb)
  simp only [bJ, eZ, dH, oT, dq, if_false, if_true, reduceIte, reduceCtorEq, Nat.reduceSub, hh, h0, h1, h2, h3, h4, h5, h6, h7] <;> rfl
 ·have h0 : dG nm wd ln ds bd = af := gS (hprev 0 (by decide))
  have h1 : cV wd = af := gS (hprev 1 (by decide))
  have h2 : cZ ln = af := gS (hprev 2 (by decide))
  have h3 : ¬ 256 < ds.length := jj.2 (oZ (hprev 3 (by decide)))
  have h4 : aZ ds.length (cP ds) = ag := aT (hprev 4 (by decide))
  have h5 : aZ ds.length (bS ds) = ag := aT (hprev 5 (by decide))
  have h6 : aZ ds.length (bD ds) = ag := aT (hprev 6 (by decide))
  have h7 : aZ ds.length (cC wd ds) = ag := aT (hprev 7 (by decide))
  have h8 : ¬ 4096 < dB ds := Int.not_lt.2 (oZ (hprev 8 (by decide)))
  obtain ⟨i, hh, hv⟩ := iB hb
  have hv2 : (cR nm wd ln ds bd 9).1 = (i : Int) := hv
  have hh : bI wd ds (things ds bd) 10 = ac i := hh
  simp only [bJ, eZ, dH, oT, dq, if_false, if_true, reduceIte, reduceCtorEq, Nat.reduceSub, hh, hv2, h0, h1, h2, h3, h4, h5, h6, h7, h8] <;> rfl
 ·have h0 : dG nm wd ln ds bd = af := gS (hprev 0 (by decide))
  have h1 : cV wd = af := gS (hprev 1 (by decide))
  have h2 : cZ ln = af := gS (hprev 2 (by decide))
  have h3 : ¬ 256 < ds.length := jj.2 (oZ (hprev 3 (by decide)))
  have h4 : aZ ds.length (cP ds) = ag := aT (hprev 4 (by decide))
  have h5 : aZ ds.length (bS ds) = ag := aT (hprev 5 (by decide))
  have h6 : aZ ds.length (bD ds) = ag := aT (hprev 6 (by decide))
  have h7 : aZ ds.length (cC wd ds) = ag := aT (hprev 7 (by decide))
  have h8 : ¬ 4096 < dB ds := Int.not_lt.2 (oZ (hprev 8 (by decide)))
  have h9 : bI wd ds (things ds bd) 10 = ag := bP (hprev 9 (by decide))
  obtain ⟨i, hh, hv⟩ := iB hb
  have hv2 : (cR nm wd ln ds bd 10).1 = (i : Int) := hv
  have hh : bI wd ds (things ds bd) 11 = ac i := hh
  simp only [bJ, eZ, dH, oT, dq, if_false, if_true, reduceIte, reduceCtorEq, Nat.reduceSub, hh, hv2, h0, h1, h2, h3, h4, h5, h6, h7, h8, h9] <;> rfl
 ·have h0 : dG nm wd ln ds bd = af := gS (hprev 0 (by decide))
  have h1 : cV wd = af := gS (hprev 1 (by decide))
  have h2 : cZ ln = af := gS (hprev 2 (by decide))
  have h3 : ¬ 256 < ds.length := jj.2 (oZ (hprev 3 (by decide)))
  have h4 : aZ ds.length (cP ds) = ag := aT (hprev 4 (by decide))
  have h5 : aZ ds.length (bS ds) = ag := aT (hprev 5 (by decide))
  have h6 : aZ ds.length (bD ds) = ag := aT (hprev 6 (by decide))
  have h7 : aZ ds.length (cC wd ds) = ag := aT (hprev 7 (by decide))
  have h8 : ¬ 4096 < dB ds := Int.not_lt.2 (oZ (hprev 8 (by decide)))
  have h9 : bI wd ds (things ds bd) 10 = ag := bP (hprev 9 (by decide))
  have h10 : bI wd ds (things ds bd) 11 = ag := bP (hprev 10 (by decide))
  obtain ⟨i, hh, hv⟩ := iB hb
  have hv2 : (cR nm wd ln ds bd 11).1 = (i : Int) := hv
  have hh : bI wd ds (things ds bd) 12 = ac i := hh
  simp only [bJ, eZ, dH, oT, dq, if_false, if_true, reduceIte, reduceCtorEq, Nat.reduceSub, hh, hv2, h0, h1, h2, h3, h4, h5, h6, h7, h8, h9, h10] <;> rfl
 ·have h0 : dG nm wd ln ds bd = af := gS (hprev 0 (by decide))
  have h1 : cV wd = af := gS (hprev 1 (by decide))
  have h2 : cZ ln = af := gS (hprev 2 (by decide))
  have h3 : ¬ 256 < ds.length := jj.2 (oZ (hprev 3 (by decide)))
  have h4 : aZ ds.length (cP ds) = ag := aT (hprev 4 (by decide))
  have h5 : aZ ds.length (bS ds) = ag := aT (hprev 5 (by decide))
  have h6 : aZ ds.length (bD ds) = ag := aT (hprev 6 (by decide))
  have h7 : aZ ds.length (cC wd ds) = ag := aT (hprev 7 (by decide))
  have h8 : ¬ 4096 < dB ds := Int.not_lt.2 (oZ (hprev 8 (by decide)))
  have h9 : bI wd ds (things ds bd) 10 = ag := bP (hprev 9 (by decide))
  have h10 : bI wd ds (things ds bd) 11 = ag := bP (hprev 10 (by decide))
  have h11 : bI wd ds (things ds bd) 12 = ag := bP (hprev 11 (by decide))
  obtain ⟨i, hh, hv⟩ := iB hb
  have hv2 : (cR nm wd ln ds bd 12).1 = (i : Int) := hv
  have hh : bI wd ds (things ds bd) 13 = ac i := hh
  simp only [bJ, eZ, dH, oT, dq, if_false, if_true, reduceIte, reduceCtorEq, Nat.reduceSub, hh, hv2, h0, h1, h2, h3, h4, h5, h6, h7, h8, h9, h10, h11] <;> rfl
 ·have h0 : dG nm wd ln ds bd = af := gS (hprev 0 (by decide))
  have h1 : cV wd = af := gS (hprev 1 (by decide))
  have h2 : cZ ln = af := gS (hprev 2 (by decide))
  have h3 : ¬ 256 < ds.length := jj.2 (oZ (hprev 3 (by decide)))
  have h4 : aZ ds.length (cP ds) = ag := aT (hprev 4 (by decide))
  have h5 : aZ ds.length (bS ds) = ag := aT (hprev 5 (by decide))
  have h6 : aZ ds.length (bD ds) = ag := aT (hprev 6 (by decide))
  have h7 : aZ ds.length (cC wd ds) = ag := aT (hprev 7 (by decide))
  have h8 : ¬ 4096 < dB ds := Int.not_lt.2 (oZ (hprev 8 (by decide)))
  have h9 : bI wd ds (things ds bd) 10 = ag := bP (hprev 9 (by decide))
  have h10 : bI wd ds (things ds bd) 11 = ag := bP (hprev 10 (by decide))
  have h11 : bI wd ds (things ds bd) 12 = ag := bP (hprev 11 (by decide))
  have h12 : bI wd ds (things ds bd) 13 = ag := bP (hprev 12 (by decide))
  obtain ⟨i, hh, hv⟩ := iB hb
  have hv2 : (cR nm wd ln ds bd 13).1 = (i : Int) := hv
  have hh : bI wd ds (things ds bd) 14 = ac i := hh
  simp only [bJ, eZ, dH, oT, dq, if_false, if_true, reduceIte, reduceCtorEq, Nat.reduceSub, hh, hv2, h0, h1, h2, h3, h4, h5, h6, h7, h8, h9, h10, h11, h12] <;> rfl
 ·have h0 : dG nm wd ln ds bd = af := gS (hprev 0 (by decide))
  have h1 : cV wd = af := gS (hprev 1 (by decide))
  have h2 : cZ ln = af := gS (hprev 2 (by decide))
  have h3 : ¬ 256 < ds.length := jj.2 (oZ (hprev 3 (by decide)))
  have h4 : aZ ds.length (cP ds) = ag := aT (hprev 4 (by decide))
  have h5 : aZ ds.length (bS ds) = ag := aT (hprev 5 (by decide))
  have h6 : aZ ds.length (bD ds) = ag := aT (hprev 6 (by decide))
  have h7 : aZ ds.length (cC wd ds) = ag := aT (hprev 7 (by decide))
  have h8 : ¬ 4096 < dB ds := Int.not_lt.2 (oZ (hprev 8 (by decide)))
  have h9 : bI wd ds (things ds bd) 10 = ag := bP (hprev 9 (by decide))
  have h10 : bI wd ds (things ds bd) 11 = ag := bP (hprev 10 (by decide))
  have h11 : bI wd ds (things ds bd) 12 = ag := bP (hprev 11 (by decide))
  have h12 : bI wd ds (things ds bd) 13 = ag := bP (hprev 12 (by decide))
  have h13 : bI wd ds (things ds bd) 14 = ag := bP (hprev 13 (by decide))
  obtain ⟨i, hh, hv⟩ := iB hb
  have hv2 : (cR nm wd ln ds bd 14).1 = (i : Int) := hv
  have hh : bI wd ds (things ds bd) 15 = ac i := hh
  simp only [bJ, eZ, dH, oT, dq, if_false, if_true, reduceIte, reduceCtorEq, Nat.reduceSub, hh, hv2, h0, h1, h2, h3, h4, h5, h6, h7, h8, h9, h10, h11, h12, h13] <;> rfl
 ·have h0 : dG nm wd ln ds bd = af := gS (hprev 0 (by decide))
  have h1 : cV wd = af := gS (hprev 1 (by decide))
  have h2 : cZ ln = af := gS (hprev 2 (by decide))
  have h3 : ¬ 256 < ds.length := jj.2 (oZ (hprev 3 (by decide)))
  have h4 : aZ ds.length (cP ds) = ag := aT (hprev 4 (by decide))
  have h5 : aZ ds.length (bS ds) = ag := aT (hprev 5 (by decide))
  have h6 : aZ ds.length (bD ds) = ag := aT (hprev 6 (by decide))
  have h7 : aZ ds.length (cC wd ds) = ag := aT (hprev 7 (by decide))
  have h8 : ¬ 4096 < dB ds := Int.not_lt.2 (oZ (hprev 8 (by decide)))
  have h9 : bI wd ds (things ds bd) 10 = ag := bP (hprev 9 (by decide))
  have h10 : bI wd ds (things ds bd) 11 = ag := bP (hprev 10 (by decide))
  have h11 : bI wd ds (things ds bd) 12 = ag := bP (hprev 11 (by decide))
  have h12 : bI wd ds (things ds bd) 13 = ag := bP (hprev 12 (by decide))
  have h13 : bI wd ds (things ds bd) 14 = ag := bP (hprev 13 (by decide))
  have h14 : bI wd ds (things ds bd) 15 = ag := bP (hprev 14 (by decide))
  have hh : 65536 < bR bd := Nat.not_le.1 (d_yes hb)
  simp only [bJ, eZ, dH, oT, dq, if_false, if_true, reduceIte, reduceCtorEq, Nat.reduceSub, hh, h0, h1, h2, h3, h4, h5, h6, h7, h8, h9, h10, h11, h12, h13, h14] <;> rfl
theorem faultS_none {nm : ByteArray} {wd ln : Int} {ds : List S70} {bd : List S119} (hprev : ∀ j, j < 16 -> (cR nm wd ln ds bd j).2 = J) : bJ nm wd ln ds bd = ⟨0, 0, 0⟩ := by
 have h0 : dG nm wd ln ds bd = af := gS (hprev 0 (by decide))
 have h1 : cV wd = af := gS (hprev 1 (by decide))
 have h2 : cZ ln = af := gS (hprev 2 (by decide))
 have h3 : ¬ 256 < ds.length := jj.2 (oZ (hprev 3 (by decide)))
 have h4 : aZ ds.length (cP ds) = ag := aT (hprev 4 (by decide))
 have h5 : aZ ds.length (bS ds) = ag := aT (hprev 5 (by decide))
 have h6 : aZ ds.length (bD ds) = ag := aT (hprev 6 (by decide))
 have h7 : aZ ds.length (cC wd ds) = ag := aT (hprev 7 (by decide))
 have h8 : ¬ 4096 < dB ds := Int.not_lt.2 (oZ (hprev 8 (by decide)))
 have h9 : bI wd ds (things ds bd) 10 = ag := bP (hprev 9 (by decide))
 have h10 : bI wd ds (things ds bd) 11 = ag := bP (hprev 10 (by decide))
 have h11 : bI wd ds (things ds bd) 12 = ag := bP (hprev 11 (by decide))
 have h12 : bI wd ds (things ds bd) 13 = ag := bP (hprev 12 (by decide))
 have h13 : bI wd ds (things ds bd) 14 = ag := bP (hprev 13 (by decide))
 have h14 : bI wd ds (things ds bd) 15 = ag := bP (hprev 14 (by decide))
 have h15 : ¬ 65536 < bR bd := jj.2 (oZ (hprev 15 (by decide)))
 simp only [bJ, eZ, dH, oT, dq, if_false, if_true, reduceIte, reduceCtorEq, Nat.reduceSub, h0, h1, h2, h3, h4, h5, h6, h7, h8, h9, h10, h11, h12, h13, h14, h15]
end Go.Proofs.YtfigjpehecibeaaGreat.L
namespace Go.Proofs.YtfigjpehecibeaaGreat.L
open Go.RowKit
structure SameD (d d' : S70) : Prop where
 nm : d'.f1 = d.f1
 sz : d'.f2 = d.f2
 vs : d'.f3 = d.f3
 k3 : (d'.f0 = 3) ↔ (d.f0 = 3)
 ok : 1 <= d.f0 -> d.f0 <= 5 -> 1 <= d'.f0 /\ d'.f0 <= 5
theorem SameD.refl (d : S70) : SameD d d := ⟨rfl, rfl, rfl, Iff.rfl, fun h1 h2 => ⟨h1, h2⟩⟩
structure SameDs (ds ds' : List S70) : Prop where
 len : ds'.length = ds.length
 rd : ∀ i : Nat, i < ds.length -> SameD (aG ds (i : Int)) (aG ds' (i : Int))
theorem SameDs.all {ds ds' : List S70} (h : SameDs ds ds') (i : Nat) : SameD (aG ds (i : Int)) (aG ds' (i : Int)) := by
 rcases gj i ds.length with hi | hi
 ·exact h.rd i hi
 ·have e : aG ds' (i : Int) = aG ds (i : Int) := by
   unfold aG
   rw [av, au, au, ed hi, ed (by rw [h.len]; exact hi)]
  rw [e]
  exact SameD.refl _
theorem SameDs.find {ds ds' : List S70} (h : SameDs ds ds') (s : ByteArray) : bZ ds' s = bZ ds s := by
 unfold bZ
 rw [h.len]
 exact jA fun j hj => by rw [(h.all j).nm]
theorem SameD.bne {d d' : S70} (h : SameD d d') : (d'.f0 != 3) = (d.f0 != 3) := by
 by_cases c : d.f0 = 3
 ·rw [h.k3.2 c, c]
 ·exact (bn (fun x => c (h.k3.1 x))).trans (bn c).symm
theorem SameD.beq {d d' : S70} (h : SameD d d') : (d'.f0 == 3) = (d.f0 == 3) := by
 by_cases c : d.f0 = 3
 ·rw [h.k3.2 c, c]
 ·exact (bf (fun x => c (h.k3.1 x))).trans (bf c).symm
theorem SameD.dc {d d' : S70} (h : SameD d d') (hd : dcB d = af) : dcB d' = af := by
 unfold dcB at hd ⊢
 simp only [bo, decide_eq_true_eq] at hd
 obtain ⟨⟨⟨⟨h1, h2⟩, h3⟩, h4⟩, h5⟩ := hd
 obtain ⟨g1, g2⟩ := h.ok h1 h2
 rw [decide_eq_true g1, decide_eq_true g2, h.nm, h3, h.sz, decide_eq_true h4, h.vs]
 by_cases c : d.f0 = 3
 ·rw [if_pos c] at h5
  rw [if_pos (h.k3.2 c), h5]; rfl
 ·rw [if_neg c] at h5
  rw [if_neg (fun x => c (h.k3.1 x)), h5]; rfl
theorem SameD.kind {d d' : S70} (h : SameD d d') (t : Th) : mM d' t = mM d t := by
 cases t <;> simp only [mM, h.sz, h.bne]
theorem rd44_all {p : S70 -> Bool} {l : List S70} (h : ∀ i : Nat, i < l.length -> p (aG l (i : Int)) = af) : l.all p = af := by
 rw [dz]
 intro y hy
 obtain ⟨j, hj, rfl⟩ := fz hy
 have := h j hj
 unfold aG at this
 rwa [av, au, az hj] at this
theorem SameDs.form {ds ds' : List S70} (h : SameDs ds ds') (ha : ds.all dcB = af) : ds'.all dcB = af :=
 rd44_all fun i hi => (h.all i).dc (dz.1 ha _ (dO (by rw [<- h.len]; exact hi)))
theorem SameDs.things {ds ds' : List S70} (h : SameDs ds ds') (bd : List S119) : L.things ds' bd = L.things ds bd := by
 unfold L.things; rw [h.len]
theorem SameDs.bad {ds ds' : List S70} (h : SameDs ds ds') (wd : Int) (c : Nat) : nC wd ds' c = nC wd ds c := by
 have e11 : jF ds' = jF ds := by
  funext t
  unfold jF
  cases iO t with
  | none => rfl
  | some s => simp only [h.find]
 have e12 : mY ds' = mY ds := by
  funext t
  unfold mY
  cases iO t with
  | none => rfl
  | some s => simp only [oH, h.find, (h.all _).kind]
 have e15 : lP ds' = lP ds := by
  funext t
  cases t with
  | decl i => rfl
  | stmt s d l => simp only [lP, h.find]
  | expr e l => rfl
 unfold nC
 rw [e11, e12, e15]
theorem SameDs.cR {nm : ByteArray} {wd ln : Int} {ds ds' : List S70} {bd : List S119} (h : SameDs ds ds') {k : Nat} (hk : k < 16) (h8 : k ≠ 8) (hc : (L.cR nm wd ln ds bd k).2 = J) : (L.cR nm wd ln ds' bd k).2 = J := by
 have hcs : k = 0 \/ k = 1 \/ k = 2 \/ k = 3 \/ k = 4 \/ k = 5 \/ k = 6 \/ k = 7 \/ k = 9 \/ k = 10 \/ k = 11 \/ k = 12 \/ k = 13 \/ k = 14 \/ k = 15 := by omega
 have fd : ∀ f g : Nat -> Bool, (∀ i, i < ds.length -> g i = f i) -> (eO f ds.length).2 = J -> (eO g ds'.length).2 = J := by
  intro f g e hf
  unfold eO at hf ⊢
  rw [h.len, jA e]
  exact hf
 have fs : ∀ c, (fD (nC wd ds c) (L.things ds bd)).2 = J -> (fD (nC wd ds' c) (L.things ds' bd)).2 = J := by
  intro c hf
  rw [h.things, h.bad]
  exact hf
 rcases hcs with rfl | rfl | rfl | rfl | rfl | rfl | rfl | rfl | rfl | rfl | rfl | rfl | rfl | rfl | rfl
 ·simp only [L.cR] at hc ⊢
  have hf := gS hc
  unfold dG at hf ⊢
  simp only [bo] at hf
  obtain ⟨⟨⟨a1, a2⟩, a3⟩, a4, a5⟩ := hf
  rw [a1, a2, a3, h.form a4, a5]; rfl
 ·exact hc
 ·exact hc
 ·simp only [L.cR] at hc ⊢
  rw [h.len]
  exact hc
 ·refine fd (cP ds) (cP ds') (fun i hi => ?_) hc
  unfold cP
  rw [jA (f := fun j : Nat => eqS (aG ds' (j : Int)).f1 (aG ds' (i : Int)).f1) (g := fun j : Nat => eqS (aG ds (j : Int)).f1 (aG ds (i : Int)).f1) fun j hj => by rw [(h.all j).nm, (h.all i).nm]]
 ·exact fd (bS ds) (bS ds') (fun i hi => by unfold bS; rw [(h.all i).sz]) hc
 ·exact fd (bD ds) (bD ds') (fun i hi => by unfold bD; rw [(h.all i).sz, (h.all i).vs, (h.all i).beq]) hc
 ·exact fd (cC wd ds) (cC wd ds') (fun i hi => by unfold cC; rw [(h.all i).vs]) hc
 ·exact fs 10 hc
 ·exact fs 11 hc
 ·exact fs 12 hc
 ·exact fs 13 hc
 ·exact fs 14 hc
 ·exact fs 15 hc
 ·exact hc
theorem kX {nm : ByteArray} {wd ln : Int} {ds : List S70} {bd : List S119} (h : (bJ nm wd ln ds bd).e = 0) : ∀ k, k < 16 -> (cR nm wd ln ds bd k).2 = J := by
 rcases dD 16 (fun k => (cR nm wd ln ds bd k).2) with ⟨_, h2⟩ | ⟨i, h0, h1, h2, h3⟩
 ·exact h2
 ·rw [pW h0 h3 h2] at h
  exfalso
  revert h
  have hcs : i = 0 \/ i = 1 \/ i = 2 \/ i = 3 \/ i = 4 \/ i = 5 \/ i = 6 \/ i = 7 \/ i = 8 \/ i = 9 \/ i = 10 \/ i = 11 \/ i = 12 \/ i = 13 \/ i = 14 \/ i = 15 := by omega
  rcases hcs with rfl | rfl | rfl | rfl | rfl | rfl | rfl | rfl | rfl | rfl | rfl | rfl | rfl | rfl | rfl | rfl <;> intro h <;> cases h
end Go.Proofs.YtfigjpehecibeaaGreat.L
namespace Go.Proofs.YtfigjpehecibeaaGreat.L
open Go.RowKit Go.Proofs.YtfigjpehecibeaaGreatW.PrintWords Go.Proofs.YtfigjpehecibeaaGreatW.PrintLast Go.Proofs.YtfigjpehecibeaaGreatW.PrintMore Go.Proofs.YtfigjpehecibeaaGreat.Gr
section
attribute [local go_sem] G.cell
theorem run_store_fn (P : Program) (w : World) (a : Addr) (m : Mode) (fn : Fn) (x y : Array Value) : (store a (.func fn x y) m).run P w = stored P w a (.func fn x y) m := run_store P w a _ m rfl
attribute [local go_sem] run_store_fn
def BoxAt (b : Nat) (W : World) : Prop := b + 17 <= W.heap.size /\ ∀ i, i < 17 -> W.heap[b + i]? = (clL b)[i]?
theorem BoxAt.below {b : Nat} {W W' : World} (h : BoxAt b W) (hb : Below W.heap.size W W') : BoxAt b W' :=
 ⟨bh h.1 hb.size, fun i hi => (hb.block (b + i) (by have := h.1; omega)).trans (h.2 i hi)⟩
theorem qB {f : FuncId} {fn : Func} {c : Code} (hf : Tryz.prog.funcs[f]? = ac fn) (hname : (fn.name == "runtime.NumGoroutine") = J) (hb : fn.body = ac c) (args : Array Value) (w : World) : (callFunc f args).run ak w = .ok (.enter f args) w := by
 have h1 : fn.name ≠ "runtime.NumGoroutine" := by simpa using hname
 simp [callFunc, hf, h1, hb]
theorem enter87 (args : Array Value) (w : World) : (callFunc 246 args).run ak w = .ok (.enter 246 args) w := qB Tryz.func246 (by kernel_rfl) rfl args w
theorem enter91 (args : Array Value) (w : World) : (callFunc 247 args).run ak w = .ok (.enter 247 args) w := qB Tryz.func247 (by kernel_rfl) rfl args w
theorem enter93 (args : Array Value) (w : World) : (callFunc 249 args).run ak w = .ok (.enter 249 args) w := qB Tryz.func249 (by kernel_rfl) rfl args w
theorem cF_cases {k : Nat} (hk : k < 16) : cF k = 246 \/ cF k = 247 \/ cF k = 249 := by
 have hcs : k = 0 \/ k = 1 \/ k = 2 \/ k = 3 \/ k = 4 \/ k = 5 \/ k = 6 \/ k = 7 \/ k = 8 \/ k = 9 \/ k = 10 \/ k = 11 \/ k = 12 \/ k = 13 \/ k = 14 \/ k = 15 := by omega
 rcases hcs with rfl | rfl | rfl | rfl | rfl | rfl | rfl | rfl | rfl | rfl | rfl | rfl | rfl | rfl | rfl | rfl <;> decide
theorem enterF {k : Nat} (hk : k < 16) (args : Array Value) (w : World) : (callFunc (cF k) args).run ak w = .ok (.enter (cF k) args) w := by
 rcases cF_cases hk with h | h | h <;> rw [h]
 ·exact enter87 args w
 ·exact enter91 args w
 ·exact enter93 args w
def RowAt (b : Nat) (adr : Addr) (W : World) : Prop := adr = ⟨b + 16, 0, ag⟩ /\ BoxAt b W
theorem RowAt.below {b : Nat} {adr : Addr} {W W' : World} (h : RowAt b adr W) (hb : Below W.heap.size W W') : RowAt b adr W' := ⟨h.1, h.2.below hb⟩
theorem RowAt.at {b : Nat} {adr : Addr} {W : World} (h : RowAt b adr W) {k : Nat} (hk : k < 16) : W.cell? (adr.add (k * 2)) = ac (.int .i64 (cE k)) /\ W.cell? ⟨(adr.add (k * 2)).block, (adr.add (k * 2)).off + 1, ag⟩ = ac (.func (.func (cF k)) #[] #[.pointer (ac ⟨b + k, 0, ag⟩)]) := by
 obtain ⟨rfl, hb⟩ := h
 have q := hb.2 16 (by decide)
 have hcs : k = 0 \/ k = 1 \/ k = 2 \/ k = 3 \/ k = 4 \/ k = 5 \/ k = 6 \/ k = 7 \/ k = 8 \/ k = 9 \/ k = 10 \/ k = 11 \/ k = 12 \/ k = 13 \/ k = 14 \/ k = 15 := by omega
 rcases hcs with rfl | rfl | rfl | rfl | rfl | rfl | rfl | rfl | rfl | rfl | rfl | rfl | rfl | rfl | rfl | rfl <;> exact ⟨(aA q _).trans rfl, (aA q _).trans rfl⟩
theorem clauses_v {w : World} (g : G w) : Calls ak 128 #[] g.W fun e w' => ∃ (b : Nat) (adr : Addr) (g' : G w), e = .returned (.slice (ac adr) 16 16) /\ w' = g'.W /\ RowAt b adr g'.W := by
 refine (clauses_calls g.W).mono ?_
 rintro _ _ ⟨rfl, rfl⟩
 have hb := kV (clL g.W.heap.size) g.W
 refine ⟨g.W.heap.size, ⟨g.W.heap.size + 16, 0, ag⟩, ⟨_, g.below.trans (hb.mono g.below.size)⟩, rfl, rfl, rfl, ?_, fun i hi => lT _ _ i (by simpa [clL] using hi)⟩
 have q := lT (clL g.W.heap.size) g.W 16 (by simp [clL])
 have := aW (q.trans (show (clL g.W.heap.size)[16]? = ac _ from rfl))
 show g.W.heap.size + 17 <= ((clL g.W.heap.size).foldl World.alloc g.W).heap.size
 omega
set_option maxRecDepth 100000 in
theorem fault_calls (nm : ByteArray) (wd ln : Int) (ds : List S70) (bd : List S119) (A3 : Option Addr) (c3 : Nat) (A4 : Option Addr) (c4 : Nat) (W : World) (hp : ProgAt W ds bd A3 c3 A4 c4) (hg : PGood nm wd ln ds bd) (r : Ans) (hr : r = bJ nm wd ln ds bd) :
 Calls ak 81 #[.agg #[.string nm, .int .i64 wd, .int .i64 ln, .slice A3 ds.length c3, .slice A4 bd.length c4]] W fun e w' => e = .returned (.tuple #[.int .i64 r.c, .int .i64 r.at', .int .i64 r.e]) /\ Below W.heap.size W w' := by
 have gout := @gA W
 have PAt := I hp
 have HR := I hr
 have HG := I hg
 clear hp hr hg
 go_enter Tryz.func81, Tryz.ntmps81
 go_upto_region 1 with (fail)
 refine aH ?_
 intro gg
 have goutW : ∀ (g : G (gw0 gg)), Below W.heap.size W g.W := fun g => gout g
 go_wp2_with fail
 refine (clauses_v gg).mono ?_
 rintro _ _ ⟨b, adr, gg, rfl, rfl, hrow⟩
 have HB := I hrow
 clear hrow
 go_wp2_with fail
 go_loopw [11] (fun i X => ∃ (k : Nat) (g : G (gw0 gg)), i = .int .i64 k /\ X = g.W /\ k <= 16 /\ Aside0 (RowAt b adr g.W /\ ∀ j, j < k -> (cR nm wd ln ds bd j).2 = J)) (fun i _ => 16 - (intOf i).toNat)
 case atStart => exact ⟨0, gg, rfl, rfl, bi _, ⟨HB.out, fun j hj => absurd hj (cq _)⟩⟩
 case round =>
  obtain ⟨k, gx, rfl, rfl, hk, HK⟩ := hrel
  by_cases hlt : k < 16
  ·have hk1 : (k : Int) < 16 := by omega
   obtain ⟨fn, hfn⟩ : ∃ fn, fn = cF k := ⟨_, rfl⟩
   obtain ⟨er, her⟩ : ∃ er, er = cE k := ⟨_, rfl⟩
   obtain ⟨q0, q1⟩ := HK.out.1.at hlt
   have hent := enterF hlt
   rw [<- hfn] at q1 hent
   rw [<- her] at q0
   have HF := I (ae hfn her)
   clear hfn her
   go_upto_region 4 with (fail)
   refine aH ?_
   intro g2
   have goutX : ∀ (g : G (gw0 g2)), Below gx.W.heap.size gx.W g.W := fun g => ((aq _ _).alloc (ar _) _).trans (g.below.mono (by simp [gw0]))
   have KB : ∀ g : G (gw0 g2), g.W.heap[W.heap.size]? = ac (.cells #[.string nm, .int .i64 wd, .int .i64 ln, .slice A3 ds.length c3, .slice A4 bd.length c4] 25 (0, 0)) := fun g => aB (aB (aV _ _) gx.below) (goutX g)
   have z0 : ∀ g : G (gw0 g2), g.W.cell? ⟨W.heap.size, 0, ag⟩ = ac (.string nm) := fun g => (aA (KB g) 0).trans rfl
   have z1 : ∀ g : G (gw0 g2), g.W.cell? ⟨W.heap.size, 1, ag⟩ = ac (.int .i64 wd) := fun g => (aA (KB g) 1).trans rfl
   have z2 : ∀ g : G (gw0 g2), g.W.cell? ⟨W.heap.size, 2, ag⟩ = ac (.int .i64 ln) := fun g => (aA (KB g) 2).trans rfl
   have z3 : ∀ g : G (gw0 g2), g.W.cell? ⟨W.heap.size, 3, ag⟩ = ac (.slice A3 ds.length c3) := fun g => (aA (KB g) 3).trans rfl
   have z4 : ∀ g : G (gw0 g2), g.W.cell? ⟨W.heap.size, 4, ag⟩ = ac (.slice A4 bd.length c4) := fun g => (aA (KB g) 4).trans rfl
   clear KB
   have goutY : ∀ (g : G (gw0 g2)), Below (gw0 gg).heap.size (gw0 gg) g.W := fun g => (gx.below.alloc gx.below.size _).trans (g.below.mono (bh gx.below.size (by simp [gw0])))
   obtain ⟨p, hp⟩ : ∃ p, p = cR nm wd ln ds bd k := ⟨_, rfl⟩
   have C := clause_calls nm wd ln ds bd A3 c3 A4 c4 b g2.W (PAt.out.below ((goutW gx).trans ((goutX g2).mono (goutW gx).size))) HG.out (fun i hi => ((HK.out.1.below (goutX g2)).2.2 i (by omega))) k hlt HK.out.2
   rw [<- HF.out.1, <- hp] at C
   have HC := I C
   have HP := I hp
   clear C hp
   go_wp2_with fail
   refine (aD (g := g2) HC.out).mono ?_
   rintro _ _ ⟨rfl, g2, rfl⟩
   rcases aJ p.2 with hb | hb
   ·have HBB := I hb
    go_wp2_with fail
    have y0 : ∀ g : G g2.W, g.W.cell? ⟨gx.W.heap.size, 0, ag⟩ = ac (.int .i64 er) := fun g => (aA (aB (aB (aV _ _) g2.below) g.below) 0).trans rfl
    refine bF (by kernel_rfl) (by kernel_rfl) ?_
    repeat go_big_quiet_step (fail)
    refine wpQuiet_nil ?_
    rintro _ ⟨gz, rfl⟩
    go_wp2_with fail
    go_ret3
    have e : r = ⟨(k : Int) + 1, p.1, er⟩ := by
     rw [HR.out, pW hlt HK.out.2 (HP.out ▸ HBB.out), HF.out.2, HP.out]
    exact ⟨iH e, (goutW gx).trans (((goutX g2).trans (gz.below.mono (goutX g2).size)).mono (goutW gx).size)⟩
   ·have HBB := I hb
    go_wp2_with fail
    exact ⟨⟨k + 1, mkG (goutY g2), by go_num, rfl, by omega, ⟨HK.out.1.below (goutX g2), fun j hj => (gh (j = k)).elim (fun h => h ▸ HP.out ▸ HBB.out) (fun h => HK.out.2 j (by omega))⟩⟩, by simp [intOf]; omega⟩
  ·have hk1 : ¬ (k : Int) < 16 := by omega
   go_wp2_with fail
   go_ret3
   have e : r = ⟨0, 0, 0⟩ := by rw [HR.out, faultS_none fun j hj => HK.out.2 j (by omega)]
   exact ⟨iH e, goutW _⟩
end
section
variable (nm : ByteArray) (wd ln : Int) (ds : List S70) (bd : List S119) (A3 : Option Addr) (c3 : Nat) (A4 : Option Addr) (c4 : Nat)
section
attribute [local go_sem] G.cell
theorem size_le {nm : ByteArray} {wd ln : Int} {ds : List S70} {bd : List S119} (h : (bJ nm wd ln ds bd).e = 0) : bR bd <= 65536 := by
 rcases dD 16 (fun k => (cR nm wd ln ds bd k).2) with ⟨_, h2⟩ | ⟨i, h0, h1, h2, h3⟩
 ·exact oZ (h2 15 (by decide))
 ·rw [pW h0 h3 h2] at h
  exfalso
  revert h
  have hcs : i = 0 \/ i = 1 \/ i = 2 \/ i = 3 \/ i = 4 \/ i = 5 \/ i = 6 \/ i = 7 \/ i = 8 \/ i = 9 \/ i = 10 \/ i = 11 \/ i = 12 \/ i = 13 \/ i = 14 \/ i = 15 := by omega
  rcases hcs with rfl | rfl | rfl | rfl | rfl | rfl | rfl | rfl | rfl | rfl | rfl | rfl | rfl | rfl | rfl | rfl <;> intro h <;> cases h
set_option maxRecDepth 100000 in
theorem pJ (w : World) (hp : ProgAt w ds bd A3 c3 A4 c4) (hg : PGood nm wd ln ds bd) (r : Ans) (hr : r = bJ nm wd ln ds bd) :
 Calls ak 60 #[.agg #[.string nm, .int .i64 wd, .int .i64 ln, .slice A3 ds.length c3, .slice A4 bd.length c4]] w fun e w' => e = .returned (.int .i64 r.e) /\ Below w.heap.size w w' := by
 have gout := @gA w
 have PAt := I hp
 have HR := I hr
 have HG := I hg
 clear hp hr hg
 go_enter Tryz.func60, Tryz.ntmps60
 go_upto_region 1 with (fail)
 refine aH ?_
 intro gg
 go_wp2_with fail
 refine (aD (g := gg) (fault_calls nm wd ln ds bd A3 c3 A4 c4 gg.W (PAt.out.below (gout gg)) HG.out r HR.out)).mono ?_
 rintro _ _ ⟨rfl, gg, rfl⟩
 go_wp2_with fail
 go_ret
 exact ⟨rfl, gout _⟩
set_option maxRecDepth 100000 in
theorem size_calls (w : World) (hp : ProgAt w ds bd A3 c3 A4 c4) (hg : PGood nm wd ln ds bd) (r : Int × Int) (hr : r = sizeS 1099511627776 nm wd ln ds bd) :
 Calls ak 65 #[.agg #[.string nm, .int .i64 wd, .int .i64 ln, .slice A3 ds.length c3, .slice A4 bd.length c4]] w fun e w' => e = .returned (.tuple #[.int .i64 r.1, .int .i64 r.2]) /\ Below w.heap.size w w' := by
 have gout := @gA w
 have PAt := I hp
 have HR := I hr
 have HG := I hg
 clear hp hr hg
 obtain ⟨f, hf⟩ : ∃ f, f = bJ nm wd ln ds bd := ⟨_, rfl⟩
 have HF := I hf
 clear hf
 go_enter Tryz.func65, Tryz.ntmps65
 go_upto_region 1 with (fail)
 refine aH ?_
 intro gg
 go_wp2_with fail
 refine (aD (g := gg) (pJ nm wd ln ds bd A3 c3 A4 c4 gg.W (PAt.out.below (gout gg)) HG.out f HF.out)).mono ?_
 rintro _ _ ⟨rfl, gg, rfl⟩
 by_cases h : f.e = 0
 ·have H := I h
  have b : (f.e != 0) = J := by simp [h]
  clear h
  obtain ⟨m, hm⟩ : ∃ m, m = min (bR bd) 1099511627776 := ⟨_, rfl⟩
  have HM := I hm
  clear hm
  go_wp2_with fail
  refine (aD (g := gg) (lN (rK _ bd (ar _) ((Ot.cO bd).2 HG.out.good.bd) HG.out.sizes.2) HM.out A4 c4 gg.W (Kd.aF PAt.out.hb (gout gg)) PAt.out.hlb)).mono ?_
  rintro _ _ ⟨rfl, gg, rfl⟩
  go_wp2_with fail
  go_ret2
  have e : r = ((m : Int), 0) := by rw [HR.out, sizeS, <- HF.out, if_pos H.out, HM.out]
  exact ⟨lU (by rw [e]) (by rw [e]), gout _⟩
 ·have H := I h
  have b := bn h
  clear h
  go_wp2_with fail
  go_ret2
  have e : r = (0, f.e) := by rw [HR.out, sizeS, <- HF.out, if_neg H.out]
  exact ⟨lU (by rw [e]) (by rw [e]), gout _⟩
end
end
end Go.Proofs.YtfigjpehecibeaaGreat.L
namespace Go.Proofs.YtfigjpehecibeaaGreat.L
open Go.RowKit Go.Proofs.YtfigjpehecibeaaGreatW.PrintWords
theorem eQ {nm : ByteArray} {wd ln : Int} {ds : List S70} {bd : List S119} (h : (bJ nm wd ln ds bd).e = 0) : ∀ i : Nat, i < ds.length -> 1 <= (aG ds (i : Int)).f0 /\ ((aG ds (i : Int)).f2 = 0 \/ cZ (aG ds (i : Int)).f2 = af) := by
 intro i hi
 have hr := kX h
 refine ⟨?_, ?_⟩
 ·have hform : dG nm wd ln ds bd = af := gS (hr 0 (by decide))
  unfold dG at hform
  simp only [bo] at hform
  have := dz.1 hform.2.1 _ (dO hi)
  unfold dcB at this
  simp only [bo, decide_eq_true_eq] at this
  exact this.1.1.1.1
 ·have h6 := jK (aT (hr 5 (by decide))) i hi
  unfold bS at h6
  simp only [Bool.and_eq_false_iff, bne_eq_false_iff_eq, Bool.not_eq_false'] at h6
  exact h6
theorem size_right {nm : ByteArray} {wd ln : Int} {ds : List S70} {bd : List S119} (h : (bJ nm wd ln ds bd).e = 0) : (((bR bd : Nat) : Int), (0 : Int)) = sizeS 1099511627776 nm wd ln ds bd := by
 unfold sizeS
 have := size_le h
 rw [if_pos h, cy (by omega)]
end Go.Proofs.YtfigjpehecibeaaGreat.L
namespace Go.Proofs.YtfigjpehecibeaaGreat.Bn
theorem rolbit (m x n i : Nat) (hx : x < 2 ^ m) (hn : n < m) (hi : i < m) :
 ((x * 2 ^ n ||| x / 2 ^ (m - n)) % 2 ^ m).testBit i = x.testBit ((i + (m - n)) % m) := by
 rw [Nat.testBit_mod_two_pow, Nat.testBit_or, <- Nat.shiftLeft_eq, <- Nat.shiftRight_eq_div_pow, Nat.testBit_shiftLeft, Nat.testBit_shiftRight]
 by_cases h : n <= i
 ·have e : (i + (m - n)) % m = i - n := by
   rw [show i + (m - n) = (i - n) + m from by omega, Nat.add_mod_right]
   exact fp (by omega)
  have z : x.testBit (m - n + i) = J := Nat.testBit_lt_two_pow (bq hx (jm (by decide) (by omega)))
  rw [e, z]; simp [hi, h]
 ·have e : (i + (m - n)) % m = m - n + i := by
   rw [Nat.add_comm]; exact fp (by omega)
  rw [e]; simp [hi, h]
theorem shlbit (m x n i : Nat) (hi : i < m) : (x * 2 ^ n % 2 ^ m).testBit i = (decide (n <= i) && x.testBit (i - n)) := by
 rw [Nat.testBit_mod_two_pow, <- Nat.shiftLeft_eq, Nat.testBit_shiftLeft]
 simp [hi]
theorem shrbit (m x n i : Nat) (hx : x < 2 ^ m) : (x / 2 ^ n).testBit i = (decide (i + n < m) && x.testBit (i + n)) := by
 rw [<- Nat.shiftRight_eq_div_pow, Nat.testBit_shiftRight, Nat.add_comm n i]
 by_cases h : i + n < m
 ·simp [h]
 ·have z : x.testBit (i + n) = J := Nat.testBit_lt_two_pow (bq hx (jm (by decide) (by omega)))
  simp [h, z]
theorem sarbit (m x n i : Nat) (hx : x < 2 ^ m) (hh : x.testBit (m - 1) = af) (hm : 0 < m) (hi : i < m) :
 ((x + 2 ^ m * (2 ^ n - 1)) / 2 ^ n).testBit i = x.testBit (min (i + n) (m - 1)) := by
 rw [<- Nat.shiftRight_eq_div_pow, Nat.testBit_shiftRight, Nat.add_comm x, Nat.testBit_two_pow_mul_add _ hx, Nat.add_comm n i]
 by_cases h : i + n < m
 ·rw [if_pos h, cy (by omega)]
 ·rw [if_neg h, iw (by omega), hh, kw]
  simp; omega
theorem l6 (x i : Nat) : (x.testBit i).toNat = x / 2 ^ i % 2 := by
 rw [Nat.testBit_eq_decide_div_mod_eq]
 have := gm (x / 2 ^ i) (show 0 < 2 by decide)
 by_cases h : x / 2 ^ i % 2 = 1 <;> simp [h]
 omega
theorem half (N j : Nat) : 2 * (N / 2 ^ (j + 1)) + N / 2 ^ j % 2 = N / 2 ^ j := by
 rw [Nat.pow_succ, <- Nat.div_div_eq_div_mul]
 omega
end Go.Proofs.YtfigjpehecibeaaGreat.Bn
namespace Go.Proofs.YtfigjpehecibeaaGreat.Bm
open Go.RowKit Go.Proofs.YtfigjpehecibeaaGreatW.PrintWords Go.Proofs.YtfigjpehecibeaaGreatW.PrintLast Go.Proofs.YtfigjpehecibeaaGreatW.PrintMore
theorem u64w (n : Int) : IntKind.u64.wrap n = n % 18446744073709551616 := by simp [IntKind.wrap, ik, jg]
theorem i64w (n : Int) : IntKind.i64.wrap n = wrap64 n := IntWalk.i64_left n
theorem wf_i64 {a : Int} (h : (Lit.int .i64 a).wf = af) : -9223372036854775808 <= a /\ a <= 9223372036854775807 := by
 have hmin : IntKind.i64.min = -9223372036854775808 := rfl
 have hmax : IntKind.i64.max = 9223372036854775807 := rfl
 simp only [Lit.wf, bo, decide_eq_true_eq] at h
 omega
theorem wf_u64 {a : Int} (h : (Lit.int .u64 a).wf = af) : ∃ n : Nat, a = n /\ n < 2 ^ 64 := by
 have hmin : IntKind.u64.min = 0 := rfl
 have hmax : IntKind.u64.max = 18446744073709551615 := rfl
 simp only [Lit.wf, bo, decide_eq_true_eq] at h
 refine ⟨a.toNat, by omega, by omega⟩
theorem p64 : (2 : Nat) ^ 64 = 18446744073709551616 := by decide
theorem p63 : (2 : Nat) ^ 63 = 9223372036854775808 := by decide
theorem pow_lt64 {m : Nat} (h : m < 64) : 2 ^ m <= 9223372036854775808 := by
 rw [<- p63]; exact jm (by decide) (by omega)
theorem mC {m : Nat} (h : m <= 64) : 2 ^ m <= 18446744073709551616 := by
 rw [<- p64]; exact jm (by decide) h
theorem qG (n : Int) (h₀ : 0 <= n) (h₁ : n < 2 ^ 64) : IntKind.u64.wrap n = n := by
 rw [u64w]; have : (2 : Int) ^ 64 = 18446744073709551616 := by decide
 omega
theorem and_nat {a b : Nat} (ha : a < 2 ^ 64) (hb : b < 2 ^ 64) : Go.bits .and .u64 (a : Int) (b : Int) = ((a &&& b : Nat) : Int) :=
 (bits_nat .u64 64 (by decide) qG a b ha hb).1
theorem or_nat {a b : Nat} (ha : a < 2 ^ 64) (hb : b < 2 ^ 64) : Go.bits .or .u64 (a : Int) (b : Int) = ((a ||| b : Nat) : Int) :=
 (bits_nat .u64 64 (by decide) qG a b ha hb).2
theorem xor_nat {a b : Nat} (ha : a < 2 ^ 64) (hb : b < 2 ^ 64) : Go.bits .xor .u64 (a : Int) (b : Int) = ((a ^^^ b : Nat) : Int) := by
 have ha' : a % 2 ^ IntKind.u64.bits = a := fp ha
 have hb' : b % 2 ^ IntKind.u64.bits = b := fp hb
 simp only [Go.bits, BitVec.ofInt_natCast, BitVec.toNat_xor, BitVec.toNat_ofNat, ha', hb']
 exact qG _ (bc _) (by exact_mod_cast Nat.xor_lt_two_pow ha hb)
theorem shl_nat (x : Nat) {n : Int} {m : Nat} (hn : n = m) (hm : m <= 64) : shl .u64 (x : Int) n = ((x * 2 ^ m % 2 ^ 64 : Nat) : Int) := by
 subst hn
 unfold shl
 rw [show min ((m : Int).toNat) IntKind.u64.bits = m from by simp [ik]; omega, u64w, p64, jd, il, Int.natCast_pow]
 rfl
theorem tmod_nat (a b : Nat) : Int.tmod (a : Int) (b : Int) = ((a % b : Nat) : Int) := by rw [Int.tmod_eq_emod_of_nonneg (by omega)]; simp
theorem tdiv_nat (a b : Nat) : Int.tdiv (a : Int) (b : Int) = ((a / b : Nat) : Int) := by rw [Int.tdiv_eq_ediv_of_nonneg (by omega)]; simp
theorem lO (a : Nat) : IntKind.u64.wrap (a : Int) = ((a % 2 ^ 64 : Nat) : Int) := by rw [u64w, p64]; simp
def trn (w : Int) (x : Nat) : Nat := if w < 1 then 0 else if w ≥ 64 then x else x % 2 ^ w.toNat
theorem gP {w : Int} {m x : Nat} (hw : w = m) (h1 : 1 <= m) (h2 : m <= 64) (hx : x < 2 ^ 64) : trn w x = x % 2 ^ m := by
 subst hw
 unfold trn
 rw [if_neg (by omega)]
 by_cases h : (m : Int) ≥ 64
 ·rw [if_pos h]
  have : m = 64 := by omega
  subst this
  exact (fp hx).symm
 ·rw [if_neg h]; simp
theorem pN {w : Int} {m x : Nat} (hw : w = m) (h1 : 1 <= m) (h2 : m <= 64) (hx : x < 2 ^ 64) : trn w x < 2 ^ m := by
 rw [gP hw h1 h2 hx]; exact gm _ (du m)
theorem trn_le {w : Int} {x : Nat} (hx : x < 2 ^ 64) : trn w x < 2 ^ 64 := by
 unfold trn
 split
 ·decide
 ·split
  ·exact hx
  ·exact ez (Nat.mod_le _ _) hx
theorem mask_is {w : Int} {x : Nat} (hx : x < 2 ^ 64) (h1 : ¬ w < 1) (h2 : ¬ w ≥ 64) : 0 <= IntKind.u64.wrap w /\ Go.bits .and .u64 (x : Int) (IntKind.u64.wrap ((shl .u64 1 (IntKind.u64.wrap w)) - 1)) = (trn w x : Int) /\
 shl .u64 1 (IntKind.u64.wrap w) ≠ 0 /\ Int.tmod (x : Int) (shl .u64 1 (IntKind.u64.wrap w)) = (trn w x : Int) := by
 obtain ⟨m, rfl⟩ := dn (show 0 <= w by omega)
 have hp : 2 ^ m <= 9223372036854775808 := pow_lt64 (by omega)
 have hpos : 0 < 2 ^ m := du m
 have e : IntKind.u64.wrap (m : Int) = (m : Int) := by rw [u64w]; omega
 have es : shl .u64 1 (IntKind.u64.wrap (m : Int)) = ((2 ^ m : Nat) : Int) := by
  rw [e, show (1 : Int) = ((1 : Nat) : Int) from rfl, shl_nat 1 rfl (by omega), Nat.one_mul, fp (by rw [p64]; omega)]
 have et : trn (m : Int) x = x % 2 ^ m := gP rfl (by omega) (by omega) hx
 refine ⟨by rw [e]; omega, ?_, ?_, ?_⟩
 ·rw [es, show ((2 ^ m : Nat) : Int) - 1 = ((2 ^ m - 1 : Nat) : Int) from by omega, lO, fp (by rw [p64]; omega), and_nat hx (by rw [p64]; omega), Nat.and_two_pow_sub_one_eq_mod, et]
 ·rw [es]; omega
 ·rw [es, tmod_nat, et]
def sgn (w : Int) (x : Nat) : Int := if 1 <= w /\ w <= 64 then (if 2 ^ (w - 1).toNat <= trn w x then (trn w x : Int) - ((2 ^ w.toNat : Nat) : Int) else (trn w x : Int)) else 0
theorem w64 (n : Int) : wrap64 n = (n + 9223372036854775808) % 18446744073709551616 - 9223372036854775808 := by unfold wrap64; rfl
theorem signed_prog {w : Int} {x : Nat} (hx : x < 2 ^ 64) (h1 : 1 <= w) (h2 : w <= 64) : 0 <= IntKind.u64.wrap (wrap64 (64 - w)) /\
 shr .i64 (wrap64 (shl .u64 (x : Int) (IntKind.u64.wrap (wrap64 (64 - w))))) (IntKind.u64.wrap (wrap64 (64 - w))) = sgn w x := by
 obtain ⟨m, rfl⟩ := dn (show 0 <= w by omega)
 obtain ⟨m, rfl⟩ : ∃ k, m = k + 1 := ⟨m - 1, by omega⟩
 have e : IntKind.u64.wrap (wrap64 (64 - ((m + 1 : Nat) : Int))) = ((63 - m : Nat) : Int) := by rw [u64w, w64]; omega
 have et : trn ((m + 1 : Nat) : Int) x = x % 2 ^ (m + 1) := gP rfl (by omega) (by omega) hx
 refine ⟨by rw [e]; omega, ?_⟩
 have hq : 2 ^ (m + 1) * 2 ^ (63 - m) = 2 ^ 64 := by rw [<- Nat.pow_add]; congr 1; omega
 have hh : 2 ^ m * 2 ^ (63 - m) = 2 ^ 63 := by rw [<- Nat.pow_add]; congr 1; omega
 have hpos : 0 < 2 ^ (63 - m) := du _
 rw [e, shl_nat x rfl (by omega)]
 have em : x * 2 ^ (63 - m) % 2 ^ 64 = (x % 2 ^ (m + 1)) * 2 ^ (63 - m) := by
  rw [<- hq, Nat.mul_mod_mul_right]
 rw [em]
 unfold sgn
 rw [if_pos ⟨by omega, by omega⟩, et, show (((m + 1 : Nat) : Int) - 1).toNat = m from by omega, show ((m + 1 : Nat) : Int).toNat = m + 1 from by omega]
 generalize ht : x % 2 ^ (m + 1) = t
 have htl : t < 2 ^ (m + 1) := by rw [<- ht]; exact gm _ (du _)
 generalize hqe : 2 ^ (63 - m) = q at *
 have hsh : ∀ z : Int, shr .i64 z ((63 - m : Nat) : Int) = z / (q : Int) := by
  intro z; unfold shr
  rw [show min (((63 - m : Nat) : Int).toNat) IntKind.i64.bits = 63 - m from by simp [ik]; omega, <- hqe]
  push_cast; rfl
 rw [hsh]
 have hlt : t * q < 2 ^ (m + 1) * q := Nat.mul_lt_mul_of_pos_right htl hpos
 rw [p64] at hq
 rw [p63] at hh
 by_cases hge : 2 ^ m <= t
 ·rw [if_pos hge]
  have hge' : 2 ^ m * q <= t * q := fj q hge
  have : wrap64 ((t * q : Nat) : Int) = ((t : Int) - ((2 ^ (m + 1) : Nat) : Int)) * (q : Int) := by
   rw [Int.sub_mul, w64]
   have h3 : ((2 ^ (m + 1) : Nat) : Int) * (q : Int) = 18446744073709551616 := by rw [<- il, hq]; rfl
   rw [h3]
   have h4 : ((t * q : Nat) : Int) = (t : Int) * (q : Int) := il _ _
   rw [<- h4]
   omega
  rw [this]
  exact Int.mul_ediv_cancel _ (by omega)
 ·rw [if_neg hge]
  have hge' : t * q < 2 ^ m * q := Nat.mul_lt_mul_of_pos_right (by omega) hpos
  rw [w64]
  have h5 : (((t * q : Nat) : Int) + 9223372036854775808) % 18446744073709551616 - 9223372036854775808 = ((t * q : Nat) : Int) := by omega
  rw [h5, il]
  exact Int.mul_ediv_cancel _ (by omega)
theorem high_bit {t m : Nat} (h : t < 2 ^ (m + 1)) : t / 2 ^ m % 2 = if 2 ^ m <= t then 1 else 0 := by
 rw [Nat.pow_succ] at h
 have hpos := du m
 by_cases hge : 2 ^ m <= t
 ·rw [if_pos hge, Nat.div_eq_of_lt_le (k := 1) (by omega) (by omega)]
 ·rw [if_neg hge, Nat.div_eq_of_lt (by omega)]
end Go.Proofs.YtfigjpehecibeaaGreat.Bm
namespace Go.Proofs.YtfigjpehecibeaaGreat.C
open Go.RowKit Bm
def movn (op : Int) (m x n : Nat) : Nat :=
 if op = 25 then x * 2 ^ n % 2 ^ m else if op = 26 then x / 2 ^ n
 else if op = 27 then (if 2 ^ (m - 1) <= x then (x + 2 ^ m * (2 ^ n - 1)) / 2 ^ n else x / 2 ^ n)
 else if op = 29 then (x * 2 ^ ((m - n) % m) ||| x / 2 ^ (m - (m - n) % m)) % 2 ^ m
 else (x * 2 ^ n ||| x / 2 ^ (m - n)) % 2 ^ m
def pw (m : Nat) : Bool := m == 1 || m == 2 || m == 4 || m == 8 || m == 16 || m == 32 || m == 64
def opn (op : Int) (m x y : Nat) : Nat :=
 if op = 17 then x &&& y else if op = 18 then x ||| y else if op = 19 then x ^^^ y
 else if op = 20 then (x + y) % 2 ^ m else if op = 21 then (x + 2 ^ m - y) % 2 ^ m else if op = 22 then x * y % 2 ^ m
 else if op = 23 then (if y = 0 then 2 ^ m - 1 else x / y) else (if y = 0 then x else x % y)
def binn (op w : Int) (x y : Nat) : Int × Int :=
 if op < 17 \/ 29 < op then (0, 73) else if ¬ (1 <= w /\ w <= 64) \/ (25 <= op /\ pw w.toNat = J) then (0, 5)
 else if 25 <= op then ((movn op w.toNat (x % 2 ^ w.toNat) (y % 2 ^ w.toNat % w.toNat) : Int), 0) else ((opn op w.toNat (x % 2 ^ w.toNat) (y % 2 ^ w.toNat) : Int), 0)
end Go.Proofs.YtfigjpehecibeaaGreat.C
namespace Go.Proofs.YtfigjpehecibeaaGreat.L
open Go.RowKit Bm C
def unW (k wd x : Int) : Int := if k = 4 then (trn wd (18446744073709551615 - x).toNat : Int) else (trn wd ((-x) % 18446744073709551616).toNat : Int)
def opK (k : Int) : Int := if k = 6 then 22 else if k = 7 then 23 else if k = 8 then 24 else if k = 9 then 20 else if k = 10 then 21 else if k = 11 then 25 else if k = 12 then 26 else if k = 13 then 28 else if k = 14 then 29 else if k = 15 then 17 else if k = 16 then 19 else if k = 17 then 18 else if k = 24 then 27 else 0
def binW (k wd x y : Int) : Int := (binn (opK k) wd x.toNat y.toNat).1
def cmpB (k wd x y : Int) : Bool := if k = 18 then x == y else if k = 19 then x != y else if k = 20 then decide (x < y) else if k = 21 then decide (x <= y) else if k = 22 then decide (x > y) else if k = 23 then decide (x ≥ y) else decide (sgn wd x.toNat < sgn wd y.toNat)
def cmpW (k wd x y : Int) : Int := if cmpB k wd x y = af then 1 else 0
def rowOf (R : List (List Int)) (d : Nat) : List Int := R.getD d []
def dE (R : List (List Int)) (d k : Nat) : Int := (rowOf R d).getD k 0
def oW (R : List (List Int)) (d k : Nat) (v : Int) : List (List Int) := R.set d ((rowOf R d).set k v)
def lkL (L : List (ByteArray × Int)) (nm : ByteArray) : Option Int := (L.find? fun p => eqS p.1 nm).map (·.2)
def dNo (ds : List S70) (nm : ByteArray) : Nat := (bZ ds nm).getD 0
def l7 (wd ln : Int) (ds : List S70) (R : List (List Int)) (k : Int) (nm : ByteArray) (x y z : Int) : Int × List S101 :=
 if k = 3 then (dE R (dNo ds nm) (x % ((rowOf R (dNo ds nm)).length : Int)).toNat, [⟨2, dNo ds nm, x % ((rowOf R (dNo ds nm)).length : Int) / ln⟩])
 else if k = 4 \/ k = 5 then (unW k wd x, [])
 else if k = 26 then (if x ≠ 0 then y else z, [])
 else if opK k ≠ 0 then (binW k wd x y, if k = 7 \/ k = 8 then [⟨4, x, y⟩] else [])
 else (cmpW k wd x y, [])
mutual
def evE (wd ln : Int) (ds : List S70) (R : List (List Int)) (L : List (ByteArray × Int)) : S116 -> Int × List S101
 | ⟨k, num, nm, l⟩ => if k = 1 then (num, []) else if k = 2 then ((lkL L nm).getD (dE R (dNo ds nm) 0), []) else
     ((l7 wd ln ds R k nm ((eC wd ln ds R L l).1.getD 0 0) ((eC wd ln ds R L l).1.getD 1 0) ((eC wd ln ds R L l).1.getD 2 0)).1, (eC wd ln ds R L l).2 ++ (l7 wd ln ds R k nm ((eC wd ln ds R L l).1.getD 0 0) ((eC wd ln ds R L l).1.getD 1 0) ((eC wd ln ds R L l).1.getD 2 0)).2)
def eC (wd ln : Int) (ds : List S70) (R : List (List Int)) (L : List (ByteArray × Int)) : List S116 -> List Int × List S101
 | [] => ([], [])
 | x :: r => ((evE wd ln ds R L x).1 :: (eC wd ln ds R L r).1, (evE wd ln ds R L x).2 ++ (eC wd ln ds R L r).2)
end
theorem evE_eq (wd ln : Int) (ds : List S70) (R : List (List Int)) (L : List (ByteArray × Int)) (e : S116) : evE wd ln ds R L e = if e.f0 = 1 then (e.f1, []) else if e.f0 = 2 then ((lkL L e.f2).getD (dE R (dNo ds e.f2) 0), []) else
 ((l7 wd ln ds R e.f0 e.f2 ((eC wd ln ds R L e.f3).1.getD 0 0) ((eC wd ln ds R L e.f3).1.getD 1 0) ((eC wd ln ds R L e.f3).1.getD 2 0)).1, (eC wd ln ds R L e.f3).2 ++ (l7 wd ln ds R e.f0 e.f2 ((eC wd ln ds R L e.f3).1.getD 0 0) ((eC wd ln ds R L e.f3).1.getD 1 0) ((eC wd ln ds R L e.f3).1.getD 2 0)).2) := by
 obtain ⟨a, b, c, l⟩ := e
 rw [evE]
abbrev Sta := List (List Int) × List S101
mutual
def exS (wd ln : Int) (ds : List S70) : S119 -> List (ByteArray × Int) -> Sta -> Sta
 | ⟨k, nm, a, e, lo, hi, th, el⟩, L, s =>
   if k = 1 then (oW s.1 (dNo ds nm) 0 (evE wd ln ds s.1 L e).1, s.2 ++ (evE wd ln ds s.1 L e).2)
   else if k = 2 then (oW s.1 (dNo ds nm) ((evE wd ln ds s.1 L a).1 % ((rowOf s.1 (dNo ds nm)).length : Int)).toNat (evE wd ln ds s.1 L e).1, s.2 ++ (evE wd ln ds s.1 L a).2 ++ (evE wd ln ds s.1 L e).2 ++ [⟨3, dNo ds nm, (evE wd ln ds s.1 L a).1 % ((rowOf s.1 (dNo ds nm)).length : Int) / ln⟩])
   else if k = 3 then if (evE wd ln ds s.1 L e).1 ≠ 0 then eH wd ln ds th L (s.1, s.2 ++ (evE wd ln ds s.1 L e).2 ++ [⟨1, 1, 0⟩]) else eH wd ln ds el L (s.1, s.2 ++ (evE wd ln ds s.1 L e).2 ++ [⟨1, 0, 0⟩])
   else if k = 4 then (br (hi - lo).toNat).foldl (fun s (i : Nat) => eH wd ln ds th (L ++ [(nm, lo + ((i : Nat) : Int))]) s) s
   else (s.1, s.2 ++ [⟨5, dE s.1 (dNo ds nm) 0, 0⟩])
def eH (wd ln : Int) (ds : List S70) : List S119 -> List (ByteArray × Int) -> Sta -> Sta
 | [], _, s => s
 | x :: r, L, s => eH wd ln ds r L (exS wd ln ds x L s)
end
theorem iE (wd ln : Int) (ds : List S70) (x : S119) (L : List (ByteArray × Int)) (s : Sta) : exS wd ln ds x L s =
 if x.f0 = 1 then (oW s.1 (dNo ds x.f1) 0 (evE wd ln ds s.1 L x.f3).1, s.2 ++ (evE wd ln ds s.1 L x.f3).2)
 else if x.f0 = 2 then (oW s.1 (dNo ds x.f1) ((evE wd ln ds s.1 L x.f2).1 % ((rowOf s.1 (dNo ds x.f1)).length : Int)).toNat (evE wd ln ds s.1 L x.f3).1, s.2 ++ (evE wd ln ds s.1 L x.f2).2 ++ (evE wd ln ds s.1 L x.f3).2 ++ [⟨3, dNo ds x.f1, (evE wd ln ds s.1 L x.f2).1 % ((rowOf s.1 (dNo ds x.f1)).length : Int) / ln⟩])
 else if x.f0 = 3 then if (evE wd ln ds s.1 L x.f3).1 ≠ 0 then eH wd ln ds x.f6 L (s.1, s.2 ++ (evE wd ln ds s.1 L x.f3).2 ++ [⟨1, 1, 0⟩]) else eH wd ln ds x.f7 L (s.1, s.2 ++ (evE wd ln ds s.1 L x.f3).2 ++ [⟨1, 0, 0⟩])
 else if x.f0 = 4 then (br (x.f5 - x.f4).toNat).foldl (fun s (i : Nat) => eH wd ln ds x.f6 (L ++ [(x.f1, x.f4 + (i : Int))]) s) s
 else (s.1, s.2 ++ [⟨5, dE s.1 (dNo ds x.f1) 0, 0⟩]) := by
 obtain ⟨k, nm, a, e, lo, hi, th, el⟩ := x
 rw [exS]
theorem exSs_app (wd ln : Int) (ds : List S70) (a b : List S119) (L : List (ByteArray × Int)) (s : Sta) : eH wd ln ds (a ++ b) L s = eH wd ln ds b L (eH wd ln ds a L s) := by
 induction a generalizing s with
 | nil => rw [List.nil_append, eH]
 | cons x r ih => rw [gq, eH, ih, eH]
theorem evEs_app (wd ln : Int) (ds : List S70) (R : List (List Int)) (L : List (ByteArray × Int)) (a : List S116) (x : S116) : eC wd ln ds R L (a ++ [x]) = ((eC wd ln ds R L a).1 ++ [(evE wd ln ds R L x).1], (eC wd ln ds R L a).2 ++ (evE wd ln ds R L x).2) := by
 induction a with
 | nil => simp [eC]
 | cons y r ih => rw [gq, eC, ih, eC]; simp
theorem evEs_len (wd ln : Int) (ds : List S70) (R : List (List Int)) (L : List (ByteArray × Int)) (l : List S116) : (eC wd ln ds R L l).1.length = l.length := by
 induction l with
 | nil => simp [eC]
 | cons y r ih => rw [eC]; simp [ih]
theorem fin_len (wd ln : Int) (ds : List S70) (R : List (List Int)) (k : Int) (nm : ByteArray) (x y z : Int) : (l7 wd ln ds R k nm x y z).2.length <= 1 := by
 unfold l7
 repeat' split
 all_goals simp
mutual
theorem gJ (wd ln : Int) (ds : List S70) (R : List (List Int)) (L : List (ByteArray × Int)) : ∀ e : S116, (evE wd ln ds R L e).2.length <= aK e
 | ⟨k, num, nm, l⟩ => by
   rw [evE, aK]
   have := jL wd ln ds R L l
   split
   ·simp
   ·split
    ·simp
    ·have h := fin_len wd ln ds R k nm ((eC wd ln ds R L l).1.getD 0 0) ((eC wd ln ds R L l).1.getD 1 0) ((eC wd ln ds R L l).1.getD 2 0)
     rw [ay]; omega
theorem jL (wd ln : Int) (ds : List S70) (R : List (List Int)) (L : List (ByteArray × Int)) : ∀ l : List S116, (eC wd ln ds R L l).2.length <= bN l
 | [] => by simp [eC]
 | x :: r => by
   rw [eC, bN, ay]
   have := gJ wd ln ds R L x
   have := jL wd ln ds R L r
   omega
end
theorem pF {f : Sta -> Nat -> Sta} {m : Nat} (h : ∀ s i, (f s i).2.length <= s.2.length + m) (n : Nat) (s : Sta) : ((br n).foldl f s).2.length <= s.2.length + n * m := by
 induction n with
 | zero => simp
 | succ n ih =>
   rw [js, List.foldl_append, List.foldl_cons, List.foldl_nil]
   have := h ((br n).foldl f s) n
   rw [kr]; omega
mutual
theorem exS_seen (wd ln : Int) (ds : List S70) : ∀ (x : S119) (L : List (ByteArray × Int)) (s : Sta), (exS wd ln ds x L s).2.length <= s.2.length + sizeT x
 | ⟨k, nm, a, e, lo, hi, th, el⟩, L, s => by
   have he := gJ wd ln ds s.1 L e
   have ha := gJ wd ln ds s.1 L a
   have ht := gR wd ln ds th
   have hl := gR wd ln ds el
   rw [exS, sizeT]
   split
   ·rw [ay]; omega
   split
   ·simp only [ay, bk]; omega
   split
   ·split
    ·have := ht L (s.1, s.2 ++ (evE wd ln ds s.1 L e).2 ++ [⟨1, 1, 0⟩])
     simp only [ay, bk] at this; omega
    ·have := hl L (s.1, s.2 ++ (evE wd ln ds s.1 L e).2 ++ [⟨1, 0, 0⟩])
     simp only [ay, bk] at this; omega
   split
   ·have := pF (f := fun s (i : Nat) => eH wd ln ds th (L ++ [(nm, lo + ((i : Nat) : Int))]) s) (m := 1 + bR th) (fun s i => by have := ht (L ++ [(nm, lo + (i : Int))]) s; omega) (hi - lo).toNat s
    omega
   ·rw [ay]; simp
theorem gR (wd ln : Int) (ds : List S70) : ∀ (l : List S119) (L : List (ByteArray × Int)) (s : Sta), (eH wd ln ds l L s).2.length <= s.2.length + bR l
 | [], L, s => by rw [eH, bR]; omega
 | x :: r, L, s => by
   rw [eH, bR]
   have := exS_seen wd ln ds x L s
   have := gR wd ln ds r L (exS wd ln ds x L s)
   omega
end
end Go.Proofs.YtfigjpehecibeaaGreat.L
namespace Go.Proofs.YtfigjpehecibeaaGreat.L
open Go.RowKit Go.Maps Go.Proofs.YtfigjpehecibeaaGreatW.PrintWords Go.Proofs.YtfigjpehecibeaaGreatW.PrintLast Go.Proofs.YtfigjpehecibeaaGreatW.PrintMore Go.Proofs.YtfigjpehecibeaaGreat.Gr
structure Kt (ts : List Nat) (lb : Option Nat) (W W' : World) : Prop where
 size : W.heap.size <= W'.heap.size
 blk : ∀ (g : Nat) (cs : Array Value) (t : TypeId) (fr : Nat × Nat), W.heap[g]? = ac (.cells cs t fr) -> t ∉ ts -> W'.heap[g]? = ac (.cells cs t fr)
 maps : ∀ (g : Nat) es k, ac g ≠ lb -> W.heap[g]? = ac (.map es k) -> W'.heap[g]? = ac (.map es k)
theorem Kt.refl (ts : List Nat) (lb : Option Nat) (W : World) : Kt ts lb W W := ⟨ar _, fun _ _ _ _ h _ => h, fun _ _ _ _ h => h⟩
theorem Kt.trans {ts : List Nat} {lb : Option Nat} {a b c : World} (h : Kt ts lb a b) (k : Kt ts lb b c) : Kt ts lb a c :=
 ⟨bh h.size k.size, fun g cs t fr hg ht => k.blk g cs t fr (h.blk g cs t fr hg ht) ht, fun g es x hg he => k.maps g es x hg (h.maps g es x hg he)⟩
theorem Kt.of_below {W W' : World} (h : Below W.heap.size W W') (ts : List Nat) (lb : Option Nat) : Kt ts lb W W' :=
 ⟨h.size, fun g _ _ _ hg _ => (h.block g (aW hg)).trans hg, fun g _ _ _ hg => (h.block g (aW hg)).trans hg⟩
theorem Kt.more {ts ts' : List Nat} {lb lb' : Option Nat} {W W' : World} (h : Kt ts lb W W') (hs : ∀ t, t ∈ ts -> t ∈ ts') (hl : ∀ g, ac g ≠ lb' -> ac g ≠ lb) : Kt ts' lb' W W' :=
 ⟨h.size, fun g cs t fr hg ht => h.blk g cs t fr hg fun x => ht (hs _ x), fun g es x hg he => h.maps g es x (hl g hg) he⟩
theorem Kt.set {ts : List Nat} {lb : Option Nat} {W W' : World} (h : Kt ts lb W W') {g : Nat} {cs : Array Value} {t : TypeId} {fr : Nat × Nat} (hb : W'.heap[g]? = ac (.cells cs t fr)) (ht : t ∈ ts) (j : Nat) (u : Value) : Kt ts lb W (W'.setCell ⟨g, j, ag⟩ u) := by
 refine ⟨by simpa [iu] using h.size, fun g' cs' t' fr' hg' ht' => ?_, fun g' es x hl he => ?_⟩
 ·have h1 := h.blk g' cs' t' fr' hg' ht'
  rw [dw _ _ _ _ (fun e => ?_), h1]
  have e : g' = g := e
  rw [e, hb] at h1
  injection h1 with h1
  injection h1 with _ h1
  exact ht' (h1 ▸ ht)
 ·have h1 := h.maps g' es x hl he
  rw [dw _ _ _ _ (fun e => ?_), h1]
  have e : g' = g := e
  rw [e, hb] at h1
  cases h1
theorem Kt.grown {ts : List Nat} {lb : Option Nat} {W W' W2 : World} (h : Kt ts lb W W') {row : Option Nat} (hg : W'.grownBy W2 row) (hr : ∀ k, row = ac k -> ∃ cs t fr, t ∈ ts /\ W'.heap[k]? = ac (.cells cs t fr)) : Kt ts lb W W2 := by
 refine ⟨bh h.size hg.size, fun g cs t fr hb ht => ?_, fun g es x hl he => ?_⟩
 ·have h1 := h.blk g cs t fr hb ht
  rw [hg.block g (aW h1) (fun e => ?_), h1]
  obtain ⟨cs', t', fr', h2, h3⟩ := hr g e.symm
  rw [h1] at h3
  injection h3 with h3
  injection h3 with _ h3
  exact ht (h3 ▸ h2)
 ·have h1 := h.maps g es x hl he
  rw [hg.block g (aW h1) (fun e => ?_), h1]
  obtain ⟨cs', t', fr', h2, h3⟩ := hr g e.symm
  rw [h1] at h3
  cases h3
theorem Kt.cell {ts : List Nat} {lb : Option Nat} {W W' : World} (h : Kt ts lb W W') {g : Nat} {cs : Array Value} {t : TypeId} (hb : W.heap[g]? = ac (.cells cs t (0, 0))) (ht : t ∉ ts) (i : Nat) : W'.cell? ⟨g, i, ag⟩ = cs[i]? := aA (h.blk g cs t _ hb ht) i
theorem Kt.row {ts : List Nat} {lb : Option Nat} {W W' : World} (h : Kt ts lb W W') {α : Type} {d : Kd α} {e base : Nat} {ok : Nat -> Prop} {v : Value} {xs : List α} (hr : d.R e W base ok v xs) (he : ∀ q, q ∈ e :: d.E -> q ∉ ts) : d.R e W' base ok v xs :=
 Kd.eD (Kd.R_move (Kd.eG hr) fun k hk => by
  obtain ⟨_, _, _, q, hq, cells, hc⟩ := hk
  rw [hc]; exact h.blk k cells q _ hc (he q hq)) fun k hk => hk.1
theorem Kt.own {ts : List Nat} {lb : Option Nat} {W W' : World} (h : Kt ts lb W W') {H : Type} {P : Program} {k : TypeId} {R : Value -> Option (DataW H × List MemPlace)} {b n : Nat} {D : DataW H} (hm : W.ownsMap P k R b n D) (hb : ac b ≠ lb) : W'.ownsMap P k R b n D := by
 obtain ⟨es, clock, h1, h2⟩ := hm
 exact ⟨es, clock, h.maps b es clock hb h1, h2⟩
def GK (ts : List Nat) (lb : Option Nat) (w : World) := { W : World // Kt ts lb w W }
def GK.W {ts : List Nat} {lb : Option Nat} {w : World} (g : GK ts lb w) : World := g.1
theorem GK.kt {ts : List Nat} {lb : Option Nat} {w : World} (g : GK ts lb w) : Kt ts lb w g.W := g.2
def kSl : Kd (Nat × Nat × Nat) := Kd.scalar (fun p => .slice (ac ⟨p.1, 0, ag⟩) p.2.1 p.2.2) (fun _ => rfl)
def zSl : Nat × Nat × Nat := (0, 0, 0)
def iS (w : World) (b : Nat) (l : List Int) : Prop := ∃ cs : Array Value, w.heap[b]? = ac (.cells cs 74 (0, 0)) /\ ∀ k, k < l.length -> cs[k]? = ac (.int .u64 (l.getD k 0))
theorem iS.set {w : World} {b : Nat} {l : List Int} (h : iS w b l) {k : Nat} (hk : k < l.length) (v : Int) : iS (w.setCell ⟨b, k, ag⟩ (.int .u64 v)) b (l.set k v) := by
 obtain ⟨cs, hb, hc⟩ := h
 refine ⟨_, bT hb k _, fun j hj => ?_⟩
 rw [List.length_set] at hj
 have h1 := hc j hj
 by_cases e : j = k
 ·subst e
  have hlt : j < cs.size := (jo.1 h1).1
  rw [Array.getElem?_setIfInBounds, if_pos rfl, if_pos hlt]
  simp [au, kn, hk]
 ·rw [Array.getElem?_setIfInBounds, if_neg (Ne.symm e), h1]
  simp [au, kn, Ne.symm e]
theorem iS.far {w : World} {b : Nat} {l : List Int} (h : iS w b l) {p : Addr} (hp : b ≠ p.block) (u : Value) : iS (w.setCell p u) b l := by
 obtain ⟨cs, hb, hc⟩ := h
 exact ⟨cs, blk_far hb hp u, hc⟩
theorem iS.kt {ts : List Nat} {lb : Option Nat} {w w' : World} (hk : Kt ts lb w w') {b : Nat} {l : List Int} (h : iS w b l) (ht : 74 ∉ ts) : iS w' b l := by
 obtain ⟨cs, hb, hc⟩ := h
 exact ⟨cs, hk.blk b cs 74 _ hb ht, hc⟩
structure RowsT (w : World) (base : Nat) (v : Value) (ts : List (Nat × Nat × Nat)) (R : List (List Int)) : Prop where
 out : kSl.R 36 w base (fun _ => True) v ts
 len : ts.length = R.length
 row : ∀ i, i < R.length -> base <= (ts.getD i zSl).1 /\ (ts.getD i zSl).2.1 = (rowOf R i).length /\ iS w (ts.getD i zSl).1 (rowOf R i)
 ne : ∀ i j, i < R.length -> j < R.length -> i ≠ j -> (ts.getD i zSl).1 ≠ (ts.getD j zSl).1
def RowsB (w : World) (base : Nat) (v : Value) (R : List (List Int)) : Prop := ∃ ts, RowsT w base v ts R
theorem RowsT.kt {ts : List Nat} {lb : Option Nat} {w w' : World} (hk : Kt ts lb w w') {base : Nat} {v : Value} {l : List (Nat × Nat × Nat)} {R : List (List Int)} (h : RowsT w base v l R) (h36 : 36 ∉ ts) (h74 : 74 ∉ ts) : RowsT w' base v l R := by
 refine ⟨hk.row h.out ?_, h.len, fun i hi => ⟨(h.row i hi).1, (h.row i hi).2.1, (h.row i hi).2.2.kt hk h74⟩, h.ne⟩
 intro q hq
 have : q = 36 := by simpa [kSl, Kd.scalar] using hq
 rw [this]; exact h36
theorem RowsB.kt {ts : List Nat} {lb : Option Nat} {w w' : World} (hk : Kt ts lb w w') {base : Nat} {v : Value} {R : List (List Int)} (h : RowsB w base v R) (h36 : 36 ∉ ts) (h74 : 74 ∉ ts) : RowsB w' base v R := h.imp fun l h => h.kt hk h36 h74
theorem RowsT.at' {w : World} {base : Nat} {v : Value} {l : List (Nat × Nat × Nat)} {R : List (List Int)} (h : RowsT w base v l R) {d : Nat} (hd : d < R.length) : ∃ (A : Addr) (cap c : Nat), v = .slice (ac A) R.length cap /\ w.cell? (A.add d) = ac (.slice (ac ⟨(l.getD d zSl).1, 0, ag⟩) (rowOf R d).length c) /\ base <= (l.getD d zSl).1 /\
 (∃ cs, w.heap[(l.getD d zSl).1]? = ac (.cells cs 74 (0, 0))) /\ (∀ k, k < (rowOf R d).length -> w.cell? ⟨(l.getD d zSl).1, k, ag⟩ = ac (.int .u64 (dE R d k)) /\ ∀ x, RowsT (w.setCell ⟨(l.getD d zSl).1, k, ag⟩ (.int .u64 x)) base v l (oW R d k x)) := by
 obtain ⟨A0, cap, rfl, hl, hC⟩ := Kd.d7 h.out
 have hdl : d < l.length := by rw [h.len]; exact hd
 obtain ⟨A, c0, rfl, _, hK, hc⟩ := Kd.oI hC zSl (d : Int) (by omega) (by omega)
 rw [av] at hK hc
 obtain ⟨hb, hn, hi⟩ := h.row d hd
 have hK : c0 = [.slice (ac ⟨(l.getD d zSl).1, 0, ag⟩) (l.getD d zSl).2.1 (l.getD d zSl).2.2] := hK
 have h0 := hc 0 _ (by rw [hK]; rfl)
 rw [show kSl.sz = 1 from rfl, gu, fq, hn] at h0
 obtain ⟨cs, hbb, hcs⟩ := hi
 refine ⟨A, cap, _, by rw [h.len], h0, hb, ⟨cs, hbb⟩, fun k hk => ⟨(aA hbb k).trans (hcs k hk), fun x => ⟨?_, ?_, fun i hi => ?_, fun i j hi hj => ?_⟩⟩⟩
 ·exact Kd.R_set h.out hbb (fun q hq => by have : q = 36 := by simpa [kSl, Kd.scalar] using hq
                                           rw [this]; decide) k _
 ·rw [h.len]; simp [oW]
 ·have hi' : i < R.length := by simpa [oW] using hi
  obtain ⟨g1, g2, g3⟩ := h.row i hi'
  by_cases e : i = d
  ·subst e
   have e2 : rowOf (oW R i k x) i = (rowOf R i).set k x := by simp [rowOf, oW, au, kn, hi']
   rw [e2, List.length_set]
   exact ⟨g1, g2, g3.set hk x⟩
  ·have e2 : rowOf (oW R d k x) i = rowOf R i := by simp [rowOf, oW, au, kn, Ne.symm e]
   rw [e2]
   exact ⟨g1, g2, g3.far (p := ⟨(l.getD d zSl).1, k, ag⟩) (h.ne i d hi' hd e) _⟩
 ·have hl : (oW R d k x).length = R.length := by simp [oW]
  rw [hl] at hi hj
  exact h.ne i j hi hj
theorem RowsB.at' {w : World} {base : Nat} {v : Value} {R : List (List Int)} (h : RowsB w base v R) {d : Nat} (hd : d < R.length) : ∃ (A : Addr) (cap b c : Nat), v = .slice (ac A) R.length cap /\ w.cell? (A.add d) = ac (.slice (ac ⟨b, 0, ag⟩) (rowOf R d).length c) /\ base <= b /\
 (∃ cs, w.heap[b]? = ac (.cells cs 74 (0, 0))) /\ (∀ k, k < (rowOf R d).length -> w.cell? ⟨b, k, ag⟩ = ac (.int .u64 (dE R d k)) /\ ∀ x, RowsB (w.setCell ⟨b, k, ag⟩ (.int .u64 x)) base v (oW R d k x)) := by
 obtain ⟨l, h⟩ := h
 obtain ⟨A, cap, c, h1, h2, h3, h4, h5⟩ := h.at' hd
 exact ⟨A, cap, _, c, h1, h2, h3, h4, fun k hk => ⟨(h5 k hk).1, fun x => ⟨l, (h5 k hk).2 x⟩⟩⟩
abbrev DU := DataW Unit
abbrev pR (nm : ByteArray) : Lit := .string nm.data.toList
theorem kL : Keyed ak 9 := string_keyed jc
theorem zero3 (w : World) : (zeroValue 3).run ak w = .ok (.int .i64 0) w := by kernel_rfl
theorem zero74 (w : World) : (zeroValue 74).run ak w = .ok (.int .u64 0) w := by kernel_rfl
def AtOK (ds : List S70) (D : DU) : Prop := ∀ nm i, bZ ds nm = ac i -> ∀ z, D.atKey (pR nm) z = .lit (.int .i64 (i : Int))
structure LoOK (L : List (ByteArray × Int)) (D : DU) : Prop where
 size : Maps.size D <= L.length
 at' : ∀ nm, Maps.has D (pR nm) = (lkL L nm).isSome /\ ∀ v, lkL L nm = ac v -> ∀ z, D.atKey (pR nm) z = .lit (.int .u64 v)
structure Cfg where
 w0 : World
 nm : ByteArray
 wd : Int
 ln : Int
 ds : List S70
 bd : List S119
 A3 : Option Addr
 c3 : Nat
 A4 : Option Addr
 c4 : Nat
 mb : Nat
 eb : Nat
 ab : Nat
 lb : Nat
 most : Int
abbrev Cfg.cells (c : Cfg) (vr : Value) : Array Value := #[.string c.nm, .int .i64 c.wd, .int .i64 c.ln, .slice c.A3 c.ds.length c.c3, .slice c.A4 c.bd.length c.c4, .map (ac c.ab), vr, .map (ac c.lb), .iface 80 (.pointer (ac ⟨c.eb, 0, ag⟩))]
def EyeAt (c : Cfg) (W : World) (T : List S101) : Prop := ∃ vt, W.heap[c.eb]? = ac (.cells #[vt, .int .i64 c.most] 84 (0, 0)) /\ oD.R 101 W c.w0.heap.size (fun _ => True) vt T
structure MAt (c : Cfg) (R : List (List Int)) (L : List (ByteArray × Int)) (T : List S101) (W : World) : Prop where
 low : Below c.w0.heap.size c.w0 W
 base : c.w0.heap.size <= c.mb /\ c.w0.heap.size <= c.eb /\ c.w0.heap.size <= c.ab /\ c.w0.heap.size <= c.lb /\ c.ab ≠ c.lb
 hm : ∃ vr, W.heap[c.mb]? = ac (.cells (c.cells vr) 93 (0, 0)) /\ RowsB W c.w0.heap.size vr R
 he : EyeAt c W T
 ha : ∃ D : DU, W.ownsMap ak 9 (plainElem ak 3) c.ab c.ds.length D /\ AtOK c.ds D
 hl : ∃ D : DU, W.ownsMap ak 9 (plainElem ak 74) c.lb (Maps.size D) D /\ LoOK L D
theorem MAt.seen {c : Cfg} {R : List (List Int)} {L : List (ByteArray × Int)} {T T' : List S101} {W W' : World} (h : MAt c R L T W) {ts : List Nat} (hk : Kt ts ag W W') (h93 : 93 ∉ ts) (h36 : 36 ∉ ts) (h74 : 74 ∉ ts) (low : Below c.w0.heap.size c.w0 W') (he : EyeAt c W' T') : MAt c R L T' W' := by
 obtain ⟨vr, g1, g2⟩ := h.hm
 obtain ⟨D, a1, a2⟩ := h.ha
 obtain ⟨E, l1, l2⟩ := h.hl
 exact ⟨low, h.base, ⟨vr, hk.blk _ _ _ _ g1 h93, g2.kt hk h36 h74⟩, he, ⟨D, hk.own a1 (by simp), a2⟩, ⟨E, hk.own l1 (by simp), l2⟩⟩
theorem EyeAt.below {c : Cfg} {W W' : World} {T : List S101} (h : EyeAt c W T) (hb : Below W.heap.size W W') : EyeAt c W' T := by
 obtain ⟨vt, h1, h2⟩ := h
 exact ⟨vt, aB h1 hb, Kd.bK h2 hb⟩
theorem MAt.below {c : Cfg} {R : List (List Int)} {L : List (ByteArray × Int)} {T : List S101} {W W' : World} (h : MAt c R L T W) (hb : Below W.heap.size W W') : MAt c R L T W' :=
 h.seen (Kt.of_below hb [] ag) (by simp) (by simp) (by simp) (h.low.trans (hb.mono h.low.size)) (h.he.below hb)
set_option maxRecDepth 20000 in
theorem MAt.look {c : Cfg} {R : List (List Int)} {L : List (ByteArray × Int)} {T : List S101} {W : World} (h : MAt c R L T W) {nm : ByteArray} (hn : nm.size <= maxLen) (hf : (bZ c.ds nm).isSome = af) : (ib 88 (.map (ac c.ab)) (.string nm) J).run ak W = .ok (.int .i64 (dNo c.ds nm : Int)) W := by
 obtain ⟨D, h1, h2⟩ := h.ha
 obtain ⟨i, hi⟩ := Option.isSome_iff_exists.1 hf
 obtain ⟨x, e, hx, _⟩ := h1.lookup_int kL Tryz.underlying88 ju (zero3 W) (jz jc hn)
 rw [h2 nm i hi] at hx
 injection hx with hx
 injection hx with _ hx
 rw [e, <- hx, dNo, hi]; rfl
set_option maxRecDepth 20000 in
theorem MAt.loop {c : Cfg} {R : List (List Int)} {L : List (ByteArray × Int)} {T : List S101} {W : World} (h : MAt c R L T W) {nm : ByteArray} (hn : nm.size <= maxLen) : (ib 89 (.map (ac c.lb)) (.string nm) af).run ak W = .ok (.tuple #[.int .u64 ((lkL L nm).getD 0), .bool (lkL L nm).isSome]) W := by
 obtain ⟨D, h1, h2⟩ := h.hl
 obtain ⟨v, ps, e, hv⟩ := h1.look_ok kL Tryz.underlying89 (zero74 W) (plainElem_int jr (by decide)) (jz jc hn)
 obtain ⟨x, rfl, hx, _⟩ := plainElem_int_inv jr hv
 have hh := (h2.at' nm).1
 rw [hh] at e
 rw [e]
 have hx := congrArg Prod.fst hx
 cases hl : lkL L nm with
 | none =>
   rw [hl] at hh
   rw [atKey_of_not_has hh] at hx
   injection hx with hx
   injection hx with _ hx
   rw [<- hx]; rfl
 | some v =>
   rw [(h2.at' nm).2 v hl] at hx
   injection hx with hx
   injection hx with _ hx
   rw [<- hx]; rfl
theorem info101 : (Tryz.prog.info? 101).map (fun i => (i.zero, i.size, i.bytes)) = ac (ac (.agg #[.int .i64 0, .int .u64 0, .int .u64 0]), 3, 24) := by kernel_rfl
theorem under38 : Tryz.prog.underlying 38 = ac (.slice 101) := by kernel_rfl
theorem eye_set {c : Cfg} {W W1 : World} {vt v1 : Value} {T T' : List S101} (hb : W.heap[c.eb]? = ac (.cells #[vt, .int .i64 c.most] 84 (0, 0))) (hr : oD.R 101 W c.w0.heap.size (fun _ => True) vt T) (hg : W.grownBy W1 vt.ownBlock) (h1 : oD.R 101 W1 c.w0.heap.size (fun _ => True) v1 T') (hB : Below c.w0.heap.size c.w0 W1) (heb : c.w0.heap.size <= c.eb) : 
 EyeAt c (W1.setCell ⟨c.eb, 0, ag⟩ v1) T' /\ Kt [84, 101] ag W (W1.setCell ⟨c.eb, 0, ag⟩ v1) /\ Below c.w0.heap.size c.w0 (W1.setCell ⟨c.eb, 0, ag⟩ v1) /\ W1.heap[c.eb]? = ac (.cells #[vt, .int .i64 c.most] 84 (0, 0)) := by
 have hne : ac c.eb ≠ vt.ownBlock := Kd.R_ne hr hb (by decide)
 have hb1 := fU hb hg hne
 have hk : Kt [84, 101] ag W W1 := (Kt.refl _ _ _).grown hg fun k hk => by
  obtain ⟨inner, ho⟩ := Kd.mJ hr
  obtain ⟨cells, hc⟩ := dY ho k hk
  exact ⟨cells, 101, _, by simp, hc⟩
 refine ⟨⟨v1, by simpa using bT hb1 0 v1, Kd.R_set h1 hb1 (fun q hq => ?_) 0 _⟩, hk.set hb1 (by simp) 0 v1, hB.setCell (p := ⟨c.eb, 0, ag⟩) heb _, hb1⟩
 have : q = 101 := by simpa [oD, Kd.iso, Kd.pair, Kd.int, Kd.scalar] using hq
 rw [this]; decide
set_option maxRecDepth 100000 in
theorem kW (c : Cfg) {T : List S101} (W : World) (k a b : Int) (hE : EyeAt c W T) (hB : Below c.w0.heap.size c.w0 W) (heb : c.w0.heap.size <= c.eb) (hl : T.length < 1073741824) :
 Calls ak 310 #[.pointer (ac ⟨c.eb, 0, ag⟩), .agg #[.int .i64 k, .int .u64 a, .int .u64 b]] W fun r W' => r = .returned (.tuple #[]) /\ EyeAt c W' (T ++ [⟨k, a, b⟩]) /\ Kt [84, 101] ag W W' /\ Below c.w0.heap.size c.w0 W' := by
 obtain ⟨vt, hb, hr⟩ := hE
 have HR := I (ae hb (ae hr (ae hB (ae heb hl))))
 clear hb hr hB heb hl
 go_enter Tryz.func310, Tryz.ntmps310
 go_upto_region 1 with (fail)
 obtain ⟨X, hX⟩ : ∃ X, X = W.alloc (.cells #[.int .i64 k, .int .u64 a, .int .u64 b] 101) := ⟨_, rfl⟩
 have hXB : Below W.heap.size W X := by rw [hX]; exact bA _ _
 have hbx : X.heap[W.heap.size]? = ac (.cells #[.int .i64 k, .int .u64 a, .int .u64 b] 101 (0, 0)) := by rw [hX]; exact aV _ _
 rw [<- hX]
 clear hX
 refine aH ?_
 intro gg
 have HX := I (show ∀ g : G X, Below W.heap.size W g.W from fun g => hXB.trans (g.below.mono hXB.size))
 have c0 : ∀ g : G X, g.W.cell? ⟨c.eb, 0, ag⟩ = ac vt := fun g => (aA (aB HR.out.1 (HX.out g)) 0).trans rfl
 have e0 : ∀ g : G X, g.W.cell? ⟨W.heap.size, 0, ag⟩ = ac (.int .i64 k) := fun g => (aA (aB hbx g.below) 0).trans rfl
 have e1 : ∀ g : G X, g.W.cell? ⟨W.heap.size, 1, ag⟩ = ac (.int .u64 a) := fun g => (aA (aB hbx g.below) 1).trans rfl
 have e2 : ∀ g : G X, g.W.cell? ⟨W.heap.size, 2, ag⟩ = ac (.int .u64 b) := fun g => (aA (aB hbx g.below) 2).trans rfl
 have HD := I (show ∀ g : G X, oD.R 101 g.W c.w0.heap.size (fun _ => True) vt T /\ Below c.w0.heap.size c.w0 g.W /\ c.w0.heap.size <= g.W.heap.size from fun g => ⟨Kd.bK HR.out.2.1 (HX.out g), HR.out.2.2.1.trans ((HX.out g).mono HR.out.2.2.1.size), bh HR.out.2.2.1.size (HX.out g).size⟩)
 clear hXB hbx
 refine fZ (n := 11) (S := fun w' => ∃ g' : G _, w' = g'.W) (ds := [7, 10]) #[J, J, J, J, J, J, J, J, J, J, J] (by kernel_rfl) rfl rfl ⟨mkG (gg.2.drew), rfl⟩ (fun hHeld => ?_)
 obtain ⟨gd, hgd⟩ := hHeld
 rw [hgd]
 clear hgd
 refine bB (i := 0) (N := ac 4) (v := ?_) (a' := ?_) #[af, J, J, J, J, J, J, J, J, J, J] rfl rfl (by kernel_rfl) (fun _ _ _ h => h) (bg ⟨by rfl, ?_⟩) ?_ ?_
 rotate_left
 ·intro w'
  go_simp
  with_reducible rfl
 rotate_left
 ·simp only [ax, aa, ah, ai, aN, aM]
  rfl
 refine bB (i := 1) (N := ac 5) (v := ?_) (a' := ?_) #[af, af, J, J, J, J, J, J, J, J, J] rfl rfl (by kernel_rfl) (fun _ _ _ h => h) (bg ⟨by rfl, ?_⟩) ?_ ?_
 rotate_left
 ·intro w'
  go_simp
  with_reducible rfl
 rotate_left
 ·simp only [ax, aa, ah, ai, aN, aM]
  rfl
 refine bB (i := 2) (N := ac 6) (v := ?_) (a' := ?_) #[af, af, af, J, J, J, J, J, J, J, J] rfl rfl (by kernel_rfl) (fun _ _ _ h => h) (bg ⟨by rfl, ?_⟩) ?_ ?_
 rotate_left
 ·intro w'
  go_simp
  with_reducible rfl
 rotate_left
 ·simp only [ax, aa, ah, ai, aN, aM]
  rfl
 refine bB (i := 3) (N := ac 7) (v := ?_) (a' := ?_) #[af, af, af, af, J, J, J, J, J, J, J] rfl rfl (by kernel_rfl) (fun _ _ _ h => h) (bg ⟨by rfl, ?_⟩) ?_ ?_
 rotate_left
 ·intro w'
  go_simp
  with_reducible rfl
 rotate_left
 ·simp only [ax, aa, ah, ai, aN, aM]
  rfl
 refine dP (i := 4) (N := ac 8) (v := ?_) (a' := ?_) #[af, af, af, af, af, J, J, J, J, J, J] rfl rfl (by kernel_rfl) (fun _ _ _ h => h) (bg ⟨by rfl, ?_⟩) ⟨gd, rfl⟩ ?_ ?_
 rotate_left
 ·rintro w' ⟨g', rfl⟩
  go_simp
  with_reducible rfl
 rotate_left
 ·simp only [ax, aa, ah, ai, aN, aM]
  rfl
 refine dP (i := 5) (N := ac 9) (v := ?_) (a' := ?_) #[af, af, af, af, af, af, J, J, J, J, J] rfl rfl (by kernel_rfl) (fun _ _ _ h => h) (bg ⟨by rfl, ?_⟩) ⟨gd, rfl⟩ ?_ ?_
 rotate_left
 ·rintro w' ⟨g', rfl⟩
  go_simp
  with_reducible rfl
 rotate_left
 ·simp only [ax, aa, ah, ai, aN, aM]
  rfl
 refine kJ (i := 6) (N := ac 10) #[af, af, af, af, af, af, af, J, J, J, J] rfl rfl (by kernel_rfl) (by simp) (fun Kr hKr => ?_)
 refine dZ (v := .slice (ac ⟨gd.W.heap.size, 0, ag⟩) 1 1) (w1 := gd.W.alloc (.cells #[.int .i64 k, .int .u64 a, .int .u64 b] 101)) (by rfl) (by first | (go_simp; done) | (go_simp; rfl)) ?_
 refine hKr.out _ _ ⟨mkG (G.ball gd _), rfl⟩ (fun _ => ?_)
 clear hKr Kr
 refine cU (a' := ?_) ?_ ?_
 rotate_left
 ·show ax _ (ac 10) _ = _
  simp only [ax, aa, ah, ai, aN, aM]
  rfl
 refine oF (i := 7) (N := ac 11) #[af, af, af, af, af, af, af, af, J, J, J] rfl rfl (by kernel_rfl) (by simp) (fun Kr hKr => ?_)
 refine Kd.gX oD (w0 := c.w0) c.w0.heap.size (by rfl) (.tmp 8) (.tmp 10) 38 101 (.agg #[.int .i64 0, .int .u64 0, .int .u64 0]) 24 rfl under38 info101 rfl (show 0 < 3 by decide) (by decide) vt T ⟨k, a, b⟩ [.int .i64 k, .int .u64 a, .int .u64 b] (fun _ => True) (fun _ => False) (by rfl) (by rfl) (k101_mkM _ _ _ _) (fun _ h => h.elim) (fun _ _ => trivial) (HD.out gd).1 (HD.out gd).2.1 (HD.out gd).2.2 (by have := HR.out.2.2.2.2; omega) ?_
 intro v1 w1 hr1 hb1 hg1 hat1
 have HE := I (eye_set (aB HR.out.1 (HX.out gd)) (HD.out gd).1 hg1 hr1 hb1 HR.out.2.2.2.1)
 have y0 := aA HE.out.2.2.2 0
 have y1 := aI HE.out.2.2.2 0
 clear hb1 hg1 hat1
 obtain ⟨A1, k1, rfl⟩ := Kd.cD hr1
 clear hr1
 refine hKr.out _ _ ?_
 clear hKr Kr
 refine cU (a' := ?_) ?_ ?_
 rotate_left
 ·show ax _ (ac 11) _ = _
  simp only [ax, aa, ah, ai, aN, aM]
  rfl
 refine bB (i := 8) (N := ac 12) (v := ?_) (a' := ?_) #[af, af, af, af, af, af, af, af, af, J, J] rfl rfl (by kernel_rfl) (fun _ _ _ h => h) (bg ⟨by rfl, ?_⟩) ?_ ?_
 rotate_left
 ·intro w'
  go_simp
  with_reducible rfl
 rotate_left
 ·simp only [ax, aa, ah, ai, aN, aM]
  rfl
 refine bB (i := 9) (N := ac 13) (v := ?_) (a' := ?_) #[af, af, af, af, af, af, af, af, af, af, J] rfl rfl (by kernel_rfl) (fun _ _ _ h => h) (bg ⟨by rfl, ?_⟩) ?_ ?_
 rotate_left
 ·intro w'
  go_simp
  with_reducible rfl
 rotate_left
 ·simp only [ax, aa, ah, ai, aN, aM]
  rfl
 refine oF (i := 10) (N := ag) #[af, af, af, af, af, af, af, af, af, af, af] rfl rfl (by kernel_rfl) (by simp) (fun Kr hKr => ?_)
 refine skip_ (w1 := w1.setCell ⟨c.eb, 0, ag⟩ (.slice A1 (T ++ [(⟨k, a, b⟩ : S101)]).length k1)) (by rfl) rfl (by first | (go_simp; done) | (go_simp; rfl)) ?_
 refine hKr.out _ _ ?_
 clear hKr Kr
 refine kH (by kernel_rfl) ?_
 clear y0 y1 c0 e0 e1 e2
 go_wp2_with fail
 first | go_end0 | skip
 exact ⟨rfl, HE.out.1, (Kt.of_below (HX.out gd) _ _).trans HE.out.2.1, HE.out.2.2.1⟩
theorem MAt.put {c : Cfg} {R R' : List (List Int)} {L : List (ByteArray × Int)} {T : List S101} {W : World} (h : MAt c R L T W) {b k : Nat} {u vr : Value} (hb : ∃ cs, W.heap[b]? = ac (.cells cs 74 (0, 0))) (hle : c.w0.heap.size <= b) (g1 : W.heap[c.mb]? = ac (.cells (c.cells vr) 93 (0, 0))) (hr : RowsB (W.setCell ⟨b, k, ag⟩ u) c.w0.heap.size vr R') : MAt c R' L T (W.setCell ⟨b, k, ag⟩ u) := by
 obtain ⟨cs, hb⟩ := hb
 have hk : Kt [74] ag W (W.setCell ⟨b, k, ag⟩ u) := (Kt.refl _ _ _).set hb (by simp) k u
 obtain ⟨D, a1, a2⟩ := h.ha
 obtain ⟨E, l1, l2⟩ := h.hl
 obtain ⟨vt, t1, t2⟩ := h.he
 exact ⟨h.low.setCell (p := ⟨b, k, ag⟩) hle _, h.base, ⟨vr, hk.blk _ _ _ _ g1 (by simp), hr⟩, ⟨vt, hk.blk _ _ _ _ t1 (by simp), hk.row t2 (fun q hq => by
  have : q = 101 := by simpa [oD, Kd.iso, Kd.pair, Kd.int, Kd.scalar] using hq
  rw [this]; simp)⟩, ⟨D, hk.own a1 (by simp), a2⟩, ⟨E, hk.own l1 (by simp), l2⟩⟩
theorem Kt.undrew {ts : List Nat} {lb : Option Nat} {W W' : World} (h : Kt ts lb W.drew W') : Kt ts lb W W' := ⟨h.size, h.blk, h.maps⟩
theorem kZ (b : Nat) (w : World) : (method 414 80 (.pointer (ac ⟨b, 0, ag⟩)) "cadence/run.see").run ak w = .ok (310, .pointer (ac ⟨b, 0, ag⟩)) w := by kernel_rfl
set_option maxRecDepth 100000 in
theorem rL (c : Cfg) {vr : Value} {ts : List (Nat × Nat × Nat)} {R : List (List Int)} {L : List (ByteArray × Int)} {T : List S101} (W : World) (hM : MAt c R L T W) (hmb : W.heap[c.mb]? = ac (.cells (c.cells vr) 93 (0, 0))) (hrb : RowsT W c.w0.heap.size vr ts R) (k x : Int) (d n j b : Nat) (hbt : b = (ts.getD d zSl).1) (hd : d < R.length) (hn : (rowOf R d).length = n) (h1 : 1 <= n) (h2 : n <= 65536) (hx0 : 0 <= x) (hx : x % (n : Int) = (j : Int)) (hd2 : R.length <= 65536) (hl1 : 1 <= c.ln) (hl2 : c.ln <= 65536) (hl : T.length < 1073741824) :
 Calls ak 116 #[.pointer (ac ⟨c.mb, 0, ag⟩), .int .i64 k, .int .i64 d, .int .u64 x] W fun r W' => r = .returned (.pointer (ac ⟨b, j, ag⟩)) /\ MAt c R L (T ++ [⟨k, d, (j : Int) / c.ln⟩]) W' /\ Kt [84, 101] ag W W' /\
  W'.cell? ⟨b, j, ag⟩ = ac (.int .u64 (dE R d j)) /\ (∃ cs, W'.heap[b]? = ac (.cells cs 74 (0, 0))) /\ ∀ v, MAt c (oW R d j v) L (T ++ [⟨k, d, (j : Int) / c.ln⟩]) (W'.setCell ⟨b, j, ag⟩ (.int .u64 v)) := by
 obtain ⟨A, cap, c0, rfl, hcd, hb0, hbb, hcell⟩ := hrb.at' hd
 rw [<- hbt] at hcd hb0 hbb hcell
 have m2 : W.cell? ⟨c.mb, 2, ag⟩ = ac (.int .i64 c.ln) := (aA hmb 2).trans rfl
 have m6 : W.cell? ⟨c.mb, 6, ag⟩ = ac (.slice (ac A) R.length cap) := (aA hmb 6).trans rfl
 have m8 : W.cell? ⟨c.mb, 8, ag⟩ = ac (.iface 80 (.pointer (ac ⟨c.eb, 0, ag⟩))) := (aA hmb 8).trans rfl
 obtain ⟨D, hD⟩ : ∃ D : Int, D = (d : Int) := ⟨_, rfl⟩
 obtain ⟨N, hN⟩ : ∃ N : Int, N = (n : Int) := ⟨_, rfl⟩
 obtain ⟨RN, hRN⟩ : ∃ N : Nat, N = R.length := ⟨_, rfl⟩
 obtain ⟨ln, hln⟩ : ∃ ln, ln = c.ln := ⟨_, rfl⟩
 rw [hn] at hcd
 rw [<- hRN] at m6
 rw [<- hln] at m2
 rw [<- hD]
 have hd0 : 0 <= D := by omega
 have hd1 : D < (RN : Int) := by omega
 have hcd : W.cell? (A.add D.toNat) = ac (.slice (ac ⟨b, 0, ag⟩) n c0) := by rw [hD]; exact hcd
 have hw : IntKind.u64.wrap (n : Int) = (n : Int) := by rw [Bm.u64w]; omega
 have hw0 : ¬ (n : Int) = 0 := by omega
 have hj : Int.tmod x (n : Int) = (j : Int) := by rw [Int.tmod_eq_emod_of_nonneg hx0]; exact hx
 have hwd : IntKind.u64.wrap D = D := by rw [Bm.u64w]; omega
 have hwl : IntKind.u64.wrap ln = ln := by rw [Bm.u64w]; omega
 have hl0 : ¬ ln = 0 := by omega
 have hq : Int.tdiv (j : Int) ln = (j : Int) / ln := Int.tdiv_eq_ediv_of_nonneg (by omega)
 obtain ⟨q, hqq⟩ : ∃ q, q = (j : Int) / ln := ⟨_, rfl⟩
 rw [<- hqq] at hq
 have hwq : IntKind.u64.wrap q = q := by
  have h3 : q <= (j : Int) := hqq ▸ Int.ediv_le_self _ (by omega)
  have h4 : 0 <= q := hqq ▸ Int.ediv_nonneg (by omega) (by omega)
  have h5 : (j : Int) < (n : Int) := hx ▸ jw _ (by omega)
  rw [Bm.u64w]; omega
 have hmt := kZ c.eb
 have HM := I (ae hM (ae hmb (ae hrb (ae hd hbt))))
 have HH := I (ae hn (ae h1 (ae h2 (ae hx0 (ae hx (ae hd2 (ae hl1 (ae hl2 (ae hl (ae hD (ae hN (ae hRN (ae hln hqq)))))))))))))
 clear hM hmb hrb hbt hd hn h1 h2 hx0 hx hd2 hl1 hl2 hl hD hN hRN hln hqq hb0 hbb hcell
 go_enter Tryz.func116, Tryz.ntmps116
 go_wp2_with fail
 have HK := I (show ∀ w1, Kt [84, 101] ag W w1 -> w1.cell? ⟨c.mb, 8, ag⟩ = ac (.iface 80 (.pointer (ac ⟨c.eb, 0, ag⟩))) /\ w1.cell? ⟨c.mb, 2, ag⟩ = ac (.int .i64 ln) from fun w1 hk => ⟨(hk.cell HM.out.2.1 (by simp) 8).trans rfl, by rw [HH.out.2.2.2.2.2.2.2.2.2.2.2.2.1]; exact (hk.cell HM.out.2.1 (by simp) 2).trans rfl⟩)
 go_region_held3 (fun w' => w'.cell? ⟨c.mb, 8, ag⟩ = ac (.iface 80 (.pointer (ac ⟨c.eb, 0, ag⟩))) /\ w'.cell? ⟨c.mb, 2, ag⟩ = ac (.int .i64 ln))
  (first | go_keep | exact HK.out _ hk1)
  (first | (go_at_call 310; refine (kW c W.drew k D q (HM.out.1.he.below (aq _ _).drew) HM.out.1.low.drew HM.out.1.base.2.1 HH.out.2.2.2.2.2.2.2.2.1).mono ?_; rintro _ w1 ⟨rfl, he1, hk1, hb1⟩; have hk1 := hk1.undrew))
 have hM1 : MAt c R L (T ++ [⟨k, D, q⟩]) w1 := HM.out.1.seen hk1 (by simp) (by simp) (by simp) hb1 he1
 have g1 := hk1.blk _ _ _ _ HM.out.2.1 (by simp)
 obtain ⟨A1, cap1, c1, e1, hcd1, hb2, hbb, hcell⟩ := (HM.out.2.2.1.kt hk1 (by simp) (by simp)).at' HM.out.2.2.2.1
 rw [<- HM.out.2.2.2.2] at hcd1 hb2 hbb hcell
 injection e1 with e1 e2 e3
 injection e1 with e1
 subst e1
 have m6 : w1.cell? ⟨c.mb, 6, ag⟩ = ac (.slice (ac A) RN cap) := by rw [HH.out.2.2.2.2.2.2.2.2.2.2.2.1]; exact (aA g1 6).trans rfl
 have hD := HH.out.2.2.2.2.2.2.2.2.2.1
 have hx := HH.out.2.2.2.2.1
 have h1 := HH.out.2.1
 have hcd : w1.cell? (A.add D.toNat) = ac (.slice (ac ⟨b, 0, ag⟩) n c1) := by rw [hD, <- HH.out.1]; exact hcd1
 have j1 : (j : Int) < (n : Int) := hx ▸ jw _ (by omega)
 have j0 : (0 : Int) <= (j : Int) := by omega
 obtain ⟨q1, q2⟩ := hcell j (by rw [HH.out.1]; omega)
 have HE := I (ae hM1 (ae hk1 (ae q1 (ae hbb (ae q2 (ae hb2 (ae g1 HH.out.2.2.2.2.2.2.2.2.2.2.2.2)))))))
 clear hM1 hk1 hbb hcell g1 hD hx h1 hcd1 q1 q2 hb1 he1 hb2
 go_wp2_with fail
 go_ret
 obtain ⟨f1, f2, f3, f4, f5, f6, f7, f8, f9⟩ := HE.out
 rw [show (j : Int) / c.ln = q by rw [<- f8]; exact f9.symm]
 exact ⟨rfl, f1, f2, f3, f4, fun v => f1.put f4 f6 f7 ⟨_, f5 v⟩⟩
theorem two_index (k : Int) (w : World) (h0 : 6 <= k) (h1 : k <= 25) : (Instr.index 264 (.agg #[.int .i64 0, .int .i64 0, .int .i64 0, .int .i64 0, .int .i64 0, .int .i64 0, .int .i64 22, .int .i64 23, .int .i64 24, .int .i64 20, .int .i64 21, .int .i64 25, .int .i64 26, .int .i64 28, .int .i64 29, .int .i64 17, .int .i64 19, .int .i64 18, .int .i64 0, .int .i64 0, .int .i64 0, .int .i64 0, .int .i64 0, .int .i64 0, .int .i64 27, .int .i64 0, .int .i64 0]) (.int .i64 k)).run ak w = .ok (.int .i64 (opK k)) w := by
 have hk : k = 6 \/ k = 7 \/ k = 8 \/ k = 9 \/ k = 10 \/ k = 11 \/ k = 12 \/ k = 13 \/ k = 14 \/ k = 15 \/ k = 16 \/ k = 17 \/ k = 18 \/ k = 19 \/ k = 20 \/ k = 21 \/ k = 22 \/ k = 23 \/ k = 24 \/ k = 25 := by omega
 clear h0 h1
 rcases hk with rfl | rfl | rfl | rfl | rfl | rfl | rfl | rfl | rfl | rfl | rfl | rfl | rfl | rfl | rfl | rfl | rfl | rfl | rfl | rfl
 all_goals (show _ = _; kernel_rfl)
set_option maxRecDepth 100000 in
theorem two_calls (k : Int) (W : World) (h0 : 6 <= k) (h1 : k <= 25) : Calls ak 159 #[.int .i64 k] W fun e W' => e = .returned (.int .i64 (opK k)) /\ Below W.heap.size W W' := by
 have hix := fun w => two_index k w h0 h1
 clear h0 h1
 go_enter Tryz.func159, Tryz.ntmps159
 go_wp2_with fail
 go_ret
 exact ⟨rfl, aq _ _⟩
set_option maxRecDepth 100000 in
theorem compared_calls (c : Cfg) {R : List (List Int)} {L : List (ByteArray × Int)} {T : List S101} (W : World) (hM : MAt c R L T W) (k x y : Int) (hk : k = 18 \/ k = 19 \/ k = 20 \/ k = 21 \/ k = 22 \/ k = 23) :
 Calls ak 161 #[.pointer (ac ⟨c.mb, 0, ag⟩), .int .i64 k, .int .u64 x, .int .u64 y] W fun e W' => e = .returned (.int .u64 (cmpW k c.wd x y)) /\ Below W.heap.size W W' := by
 clear hM
 obtain ⟨b, hb⟩ : ∃ b, b = cmpB k c.wd x y := ⟨_, rfl⟩
 have hr : cmpW k c.wd x y = if b = af then 1 else 0 := by unfold cmpW; rw [hb]
 rw [hr]
 clear hr
 rcases hk with rfl | rfl | rfl | rfl | rfl | rfl
 all_goals (
  rcases aJ b with rfl | rfl
  all_goals (
   simp only [cmpB] at hb
   simp at hb
   go_enter Tryz.func161, Tryz.ntmps161
   go_wp2_with fail
   go_ret
   exact ⟨rfl, aq _ _⟩))
end Go.Proofs.YtfigjpehecibeaaGreat.L
namespace Go.Proofs.YtfigjpehecibeaaGreat.C
open Go.RowKit Bm
theorem pL (z : Nat) {m : Nat} (h : m <= 64) : z % 2 ^ 64 % 2 ^ m = z % 2 ^ m := Nat.mod_mod_of_dvd _ (Nat.pow_dvd_pow 2 h)
theorem lt64 {m x : Nat} (h2 : m <= 64) (hx : x < 2 ^ m) : x < 2 ^ 64 := bq hx (by rw [p64]; exact mC h2)
theorem jT {a : Int} (h0 : 0 <= a) (h1 : a < 18446744073709551616) : IntKind.u64.wrap a = a := by rw [u64w]; omega
theorem castpow (x n : Nat) : (x : Int) * 2 ^ n = ((x * 2 ^ n : Nat) : Int) := by rw [il, Int.natCast_pow]; rfl
theorem castdiv (x n : Nat) : (x : Int) / 2 ^ n = ((x / 2 ^ n : Nat) : Int) := by rw [Int.natCast_ediv, Int.natCast_pow]; rfl
theorem shl_val (x n : Nat) : IntKind.u64.wrap ((x : Int) * 2 ^ n) = ((x * 2 ^ n % 2 ^ 64 : Nat) : Int) := by rw [castpow, lO]
theorem trn_mod {m : Nat} (z : Nat) (h1 : 1 <= m) (h2 : m <= 64) : trn (m : Int) (z % 2 ^ 64) = z % 2 ^ m := by rw [gP rfl h1 h2 (gm _ (du _)), pL _ h2]
theorem sgn_in {m x : Nat} (h1 : 1 <= m) (h2 : m <= 64) (hx : x < 2 ^ m) : sgn (m : Int) x = if 2 ^ (m - 1) <= x then (x : Int) - ((2 ^ m : Nat) : Int) else (x : Int) := by
 unfold sgn
 rw [if_pos ⟨by omega, by omega⟩, gP rfl h1 h2 (bq hx (by rw [p64]; exact mC h2)), fp hx, show ((m : Int) - 1).toNat = m - 1 from by omega]
 rfl
theorem turn_val {m x k : Nat} (h1 : 1 <= m) (h2 : m <= 64) (hx : x < 2 ^ m) (hk : k <= m) : ∃ N : Nat, N < 2 ^ 64 /\ Go.bits .or .u64 (IntKind.u64.wrap ((x : Int) * 2 ^ k)) ((x : Int) / 2 ^ (m - k)) = (N : Int) /\ trn (m : Int) N = (x * 2 ^ k ||| x / 2 ^ (m - k)) % 2 ^ m := by
 have l1 : x * 2 ^ k % 2 ^ 64 < 2 ^ 64 := gm _ (du _)
 have l2 : x / 2 ^ (m - k) < 2 ^ 64 := ez (iq _ _) (lt64 h2 hx)
 refine ⟨x * 2 ^ k % 2 ^ 64 ||| x / 2 ^ (m - k), Nat.or_lt_two_pow l1 l2, ?_, ?_⟩
 ·rw [shl_val, castdiv, or_nat l1 l2]
 ·rw [gP rfl h1 h2 (Nat.or_lt_two_pow l1 l2), Nat.or_mod_two_pow, pL _ h2, <- Nat.or_mod_two_pow]
theorem sar_val {m x n : Nat} (h1 : 1 <= m) (h2 : m <= 64) (hx : x < 2 ^ m) (hn : n < m) : ∃ N : Nat, N < 2 ^ 64 /\ IntKind.u64.wrap (sgn (m : Int) x / 2 ^ n) = (N : Int) /\ trn (m : Int) N = movn 27 m x n := by
 have hx64 := lt64 h2 hx
 unfold movn
 rw [if_neg (by decide), if_neg (by decide), if_pos rfl, sgn_in h1 h2 hx, show (2 : Int) ^ n = ((2 ^ n : Nat) : Int) from by rw [Int.natCast_pow]; rfl]
 by_cases g : 2 ^ (m - 1) <= x
 ·rw [if_pos g, if_pos g]
  have hM : (x + 2 ^ m * (2 ^ n - 1)) / 2 ^ n < 2 ^ m := by
   rw [Nat.div_lt_iff_lt_mul (du n), Nat.mul_sub, gu]
   have : 2 ^ m <= 2 ^ m * 2 ^ n := fo _ (du n)
   omega
  have hl : (x + 2 ^ m * (2 ^ n - 1)) / 2 ^ n + (2 ^ 64 - 2 ^ m) < 2 ^ 64 := by
   have := mC h2; rw [p64]; omega
  refine ⟨(x + 2 ^ m * (2 ^ n - 1)) / 2 ^ n + (2 ^ 64 - 2 ^ m), hl, ?_, ?_⟩
  ·have hd : ((x : Int) - ((2 ^ m : Nat) : Int)) / ((2 ^ n : Nat) : Int) = (((x + 2 ^ m * (2 ^ n - 1)) / 2 ^ n : Nat) : Int) - ((2 ^ m : Nat) : Int) := by
    have hne : ((2 ^ n : Nat) : Int) ≠ 0 := by have := du n; omega
    have hs1 : (x : Int) - ((2 ^ m : Nat) : Int) = ((x + 2 ^ m * (2 ^ n - 1) : Nat) : Int) + (-((2 ^ m : Nat) : Int)) * ((2 ^ n : Nat) : Int) := by
     have h3 : 2 ^ m * (2 ^ n - 1) + 2 ^ m = 2 ^ m * 2 ^ n := by
      have := du n
      rw [<- Nat.mul_succ]; congr 1; omega
     have h4 : ((2 ^ m : Nat) : Int) * ((2 ^ n : Nat) : Int) = ((2 ^ m * (2 ^ n - 1) + 2 ^ m : Nat) : Int) := by rw [h3, il]
     rw [Int.neg_mul, h4, kp, kp]; omega
    rw [hs1, Int.add_mul_ediv_right _ _ hne, <- Int.natCast_ediv]; omega
   rw [hd, u64w]
   have hp := mC h2
   rw [p64]
   generalize (x + 2 ^ m * (2 ^ n - 1)) / 2 ^ n = M at *
   generalize 2 ^ m = P at *
   omega
  ·rw [gP rfl h1 h2 hl]
   have hdv : 2 ^ 64 - 2 ^ m = 2 ^ m * (2 ^ (64 - m) - 1) := by
    rw [Nat.mul_sub, <- Nat.pow_add, gu]; congr 2; omega
   rw [hdv, Nat.add_mul_mod_self_left, fp hM]
 ·rw [if_neg g, if_neg g, <- Int.natCast_ediv, lO]
  have l : x / 2 ^ n < 2 ^ m := ez (iq _ _) hx
  exact ⟨x / 2 ^ n, lt64 h2 l, by rw [fp (lt64 h2 l)], by rw [gP rfl h1 h2 (lt64 h2 l), fp l]⟩
theorem sub_wrap {m x y : Nat} (h2 : m <= 64) (hx : x < 2 ^ m) (hy : y < 2 ^ m) :
 ∃ z : Nat, IntKind.u64.wrap ((x : Int) - (y : Int)) = IntKind.u64.wrap (z : Int) /\ z % 2 ^ m = (x + 2 ^ m - y) % 2 ^ m := by
 have hp := mC h2
 refine ⟨x + 2 ^ 64 - y, ?_, ?_⟩
 ·rw [u64w, u64w, p64]
  generalize 2 ^ m = P at *
  omega
 ·have hd : 2 ^ 64 = 2 ^ m + 2 ^ m * (2 ^ (64 - m) - 1) := by
   have h3 : 2 ^ m * 2 ^ (64 - m) = 2 ^ 64 := by rw [<- Nat.pow_add]; congr 1; omega
   have h4 : 2 ^ m * (2 ^ (64 - m) - 1) + 2 ^ m = 2 ^ m * 2 ^ (64 - m) := by
    have := du (64 - m)
    rw [<- Nat.mul_succ]; congr 1; omega
   omega
  rw [hd, show x + (2 ^ m + 2 ^ m * (2 ^ (64 - m) - 1)) - y = (x + 2 ^ m - y) + 2 ^ m * (2 ^ (64 - m) - 1) from by omega, Nat.add_mul_mod_self_left]
theorem ones_mod {m : Nat} (h2 : m <= 64) : (2 ^ 64 - 1) % 2 ^ m = 2 ^ m - 1 := by
 refine Nat.eq_of_testBit_eq fun i => ?_
 rw [Nat.testBit_mod_two_pow, kw, kw]
 by_cases h : i < m
 ·have : i < 64 := by omega
  simp [h, this]
 ·simp [h]
end Go.Proofs.YtfigjpehecibeaaGreat.C
namespace Go.Proofs.YtfigjpehecibeaaGreat.L
open Go.RowKit Bm C Go.Proofs.YtfigjpehecibeaaGreatW.PrintWords Go.Proofs.YtfigjpehecibeaaGreatW.PrintLast Go.Proofs.YtfigjpehecibeaaGreatW.PrintMore Go.Proofs.YtfigjpehecibeaaGreat.Gr
section
attribute [local go_sem] G.cell
theorem iL (w : Int) (h1 : 1 <= w) (h2 : w <= 64) (W : World) : Calls ak 231 #[.int .i64 w] W fun e W' => e = .returned (.bool af) /\ Below W.heap.size W W' := by
 go_enter Tryz.func231, Tryz.ntmps231
 go_wp2_with fail
 go_ret
 exact ⟨by first | rfl | (simp; done) | (simp [*]; done), aq _ _⟩
theorem dU (w : Int) (h1 : 1 <= w) (h2 : w <= 64) (W : World) : Calls ak 277 #[.int .i64 w] W fun e W' => e = .returned (.bool af) /\ Below W.heap.size W W' := by
 go_enter Tryz.func277, Tryz.ntmps277
 go_wp2_with fail
 go_ret
 exact ⟨by first | rfl | (simp; done) | (simp [*]; done), aq _ _⟩
theorem shifts_calls (op : Int) (h2 : op <= 29) (b : Bool) (hb : decide (25 <= op) = b) (W : World) : Calls ak 232 #[.int .i64 op] W fun e W' => e = .returned (.bool b) /\ Below W.heap.size W W' := by
 rcases aJ b with rfl | rfl
 ·have h := of_decide_eq_true hb
  go_enter Tryz.func232, Tryz.ntmps232
  go_wp2_with fail
  go_ret
  exact ⟨by first | rfl | (simp; done) | (simp [*]; done), aq _ _⟩
 ·have h := of_decide_eq_false hb
  go_enter Tryz.func232, Tryz.ntmps232
  go_wp2_with fail
  go_ret
  exact ⟨by first | rfl | (simp; done) | (simp [*]; done), aq _ _⟩
theorem trim_calls (w : Int) (h1 : 1 <= w) (x : Nat) (hx : x < 2 ^ 64) (W : World) : Calls ak 72 #[.int .i64 w, .int .u64 (x : Int)] W fun e W' => e = .returned (.int .u64 (trn w x : Int)) /\ Below W.heap.size W W' := by
 have h3 : ¬ w < 1 := by omega
 rcases cu w 64 with h2 | h2
 ·obtain ⟨a, b, _, _⟩ := mask_is hx h3 (by omega)
  have hs : shl .u64 1 (IntKind.u64.wrap w) = IntKind.u64.wrap (2 ^ w.toNat) := by
   unfold shl
   rw [jT (a := w) (by omega) (by omega), Int.one_mul, show min w.toNat IntKind.u64.bits = w.toNat from by simp [ik]; omega]
  obtain ⟨p, hq⟩ : ∃ p, IntKind.u64.wrap (2 ^ w.toNat) = p := ⟨_, rfl⟩
  rw [hs, hq] at b
  clear hs
  clear hx
  go_enter Tryz.func72, Tryz.ntmps72
  go_wp2_with fail
  go_ret
  exact ⟨by first | rfl | (simp; done) | (simp [*]; done), aq _ _⟩
 ·have e : trn w x = x := by unfold trn; rw [if_neg h3, if_pos h2]
  rw [e]
  clear hx e
  go_enter Tryz.func72, Tryz.ntmps72
  go_wp2_with fail
  go_ret
  exact ⟨by first | rfl | (simp; done) | (simp [*]; done), aq _ _⟩
theorem mI (w : Int) (h1 : 1 <= w) (x : Nat) (hx : x < 2 ^ 64) (W : World) : Calls ak 73 #[.int .i64 w, .int .u64 (x : Int)] W fun e W' => e = .returned (.int .u64 (trn w x : Int)) /\ Below W.heap.size W W' := by
 have h3 : ¬ w < 1 := by omega
 rcases cu w 64 with h2 | h2
 ·obtain ⟨a, _, b, d⟩ := mask_is hx h3 (by omega)
  have hs : shl .u64 1 (IntKind.u64.wrap w) = IntKind.u64.wrap (2 ^ w.toNat) := by
   unfold shl
   rw [jT (a := w) (by omega) (by omega), Int.one_mul, show min w.toNat IntKind.u64.bits = w.toNat from by simp [ik]; omega]
  obtain ⟨p, hq⟩ : ∃ p, IntKind.u64.wrap (2 ^ w.toNat) = p := ⟨_, rfl⟩
  rw [hs, hq] at b d
  have b : ¬ p = 0 := b
  clear hs
  clear hx
  go_enter Tryz.func73, Tryz.ntmps73
  go_wp2_with fail
  go_ret
  exact ⟨by first | rfl | (simp; done) | (simp [*]; done), aq _ _⟩
 ·have e : trn w x = x := by unfold trn; rw [if_neg h3, if_pos h2]
  rw [e]
  clear hx e
  go_enter Tryz.func73, Tryz.ntmps73
  go_wp2_with fail
  go_ret
  exact ⟨by first | rfl | (simp; done) | (simp [*]; done), aq _ _⟩
theorem n8 (w : Int) (h1 : 1 <= w) (h2 : w <= 64) (x : Nat) (hx : x < 2 ^ 64) (W : World) : Calls ak 235 #[.int .i64 w, .int .u64 (x : Int)] W fun e W' => e = .returned (.int .i64 (sgn w x)) /\ Below W.heap.size W W' := by
 obtain ⟨a, b⟩ := signed_prog hx h1 h2
 clear hx
 have H := I (ae h1 h2)
 clear h1 h2
 go_enter Tryz.func235, Tryz.ntmps235
 refine bE ?_
 intro gg
 go_wp2_with fail
 refine (aD (g := gg) (iL w H.out.1 H.out.2 gg.W)).mono ?_
 rintro _ _ ⟨rfl, gg, rfl⟩
 go_wp2_with fail
 go_ret
 exact ⟨by rw [<- b]; rfl, gg.below⟩
theorem ones_calls (w : Int) (hw : w = 4 \/ w = 8 \/ w = 16 \/ w = 32 \/ w = 64) (W : World) : Calls ak 233 #[.int .u64 w] W fun e W' => e = .returned (.int .i64 1) /\ Below W.heap.size W W' := by
 rcases hw with rfl | rfl | rfl | rfl | rfl
 all_goals (
  go_enter Tryz.func233, Tryz.ntmps233
  go_wp2
  go_ret
  exact ⟨by first | rfl | kernel_rfl, aq _ _⟩)
theorem fK (w : Int) (h1 : 1 <= w) {v : Int} {x : Nat} (hv : v = (x : Int)) (hx : x < 2 ^ 64) (W : World) : Calls ak 72 #[.int .i64 w, .int .u64 v] W fun e W' => e = .returned (.int .u64 (trn w x : Int)) /\ Below W.heap.size W W' := hv ▸ trim_calls w h1 x hx W
theorem ret_u64 {a b : Int} (h : a = b) : fw (.int .u64 a) = .returned (.int .u64 b) := by rw [h]
theorem moved_calls (op : Int) (m x n : Nat) (h1 : 1 <= m) (h2 : m <= 64) (hx : x < 2 ^ m) (hn : n < m) (ho : op = 25 \/ op = 26 \/ op = 27 \/ op = 28 \/ op = 29) (W : World) :
 Calls ak 234 #[.int .i64 op, .int .i64 (m : Int), .int .u64 (x : Int), .int .i64 (n : Int)] W fun e W' => e = .returned (.int .u64 (movn op m x n : Int)) /\ Below W.heap.size W W' := by
 rcases ho with rfl | rfl | rfl | rfl | rfl
 ·go_enter Tryz.func234, Tryz.ntmps234
  refine bE ?_
  intro gg
  go_wp2_with fail
  refine (aD (g := gg) (fK m (by omega) (shl_val x n) (gm _ (du _)) gg.W)).mono ?_
  rintro _ _ ⟨rfl, gg, rfl⟩
  rw [trn_mod _ h1 h2]
  go_wp2_with fail
  go_ret
  exact ⟨rfl, gg.below⟩
 ·go_enter Tryz.func234, Tryz.ntmps234
  go_wp2_with fail
  go_ret
  exact ⟨ret_u64 (castdiv x n), aq _ _⟩
 ·obtain ⟨N, hN, e1, e2⟩ := sar_val h1 h2 hx hn
  go_enter Tryz.func234, Tryz.ntmps234
  refine bE ?_
  intro gg
  go_wp2_with fail
  refine (aD (g := gg) (n8 m (by omega) (by omega) x (lt64 h2 hx) gg.W)).mono ?_
  rintro _ _ ⟨rfl, gg, rfl⟩
  go_wp2_with fail
  refine (aD (g := gg) (fK m (by omega) rfl hN gg.W)).mono ?_
  rintro _ _ ⟨rfl, gg, rfl⟩
  rw [e2]
  go_wp2_with fail
  go_ret
  exact ⟨rfl, gg.below⟩
 ·obtain ⟨N, hN, e1, e2⟩ := turn_val h1 h2 hx (k := n) (by omega)
  go_enter Tryz.func234, Tryz.ntmps234
  refine bE ?_
  intro gg
  go_wp2_with fail
  refine (aD (g := gg) (fK m (by omega) rfl hN gg.W)).mono ?_
  rintro _ _ ⟨rfl, gg, rfl⟩
  rw [e2]
  go_wp2_with fail
  go_ret
  exact ⟨rfl, gg.below⟩
 ·obtain ⟨k, hk⟩ : ∃ k, k = (m - n) % m := ⟨_, rfl⟩
  have hk1 : k < m := hk ▸ gm _ (by omega)
  have HK := I hk
  clear hk
  obtain ⟨N, hN, e1, e2⟩ := turn_val h1 h2 hx (k := k) (by omega)
  go_enter Tryz.func234, Tryz.ntmps234
  refine bE ?_
  intro gg
  go_wp2_with fail
  have ek : -(n : Int) % (m : Int) = (k : Int) := by
   rw [HK.out, jd, show -(n : Int) = ((m - n : Nat) : Int) + (m : Int) * (-1) from by omega, Int.add_mul_emod_self_left]
  refine (aD (g := gg) (fK m (by omega) (x := N) (by
   rw [ek, jT (a := (k : Int)) (by omega) (by omega), show wrap64 ((m : Int) - (k : Int)) = ((m - k : Nat) : Int) from by rw [w64]; omega, jT (a := ((m - k : Nat) : Int)) (by omega) (by omega), av, av, cy (by omega), cy (by omega)]
   exact e1) hN gg.W)).mono ?_
  rintro _ _ ⟨rfl, gg, rfl⟩
  rw [e2]
  go_wp2_with fail
  go_ret
  refine ⟨ret_u64 ?_, gg.below⟩
  unfold movn
  rw [if_neg (by decide), if_neg (by decide), if_neg (by decide), if_pos rfl, <- HK.out, jd, Int.natCast_pow]
  rfl
theorem d6 (w : Int) (h1 : 1 <= w) {v : Int} {x : Nat} (hv : v = (x : Int)) (hx : x < 2 ^ 64) (W : World) : Calls ak 73 #[.int .i64 w, .int .u64 v] W fun e W' => e = .returned (.int .u64 (trn w x : Int)) /\ Below W.heap.size W W' := hv ▸ mI w h1 x hx W
theorem not_val {x : Nat} (hx : x < 2 ^ 64) : Go.bits .xor .u64 IntKind.u64.max (x : Int) = (((18446744073709551615 - (x : Int)).toNat : Nat) : Int) := by
 have h := xor_nat (a := 2 ^ 64 - 1) (b := x) (by decide) hx
 rw [show ((2 ^ 64 - 1 : Nat) : Int) = IntKind.u64.max from by decide] at h
 rw [h]
 have h2 : 2 ^ 64 - 1 ^^^ x = 2 ^ 64 - 1 - x := by
  refine Nat.eq_of_testBit_eq fun i => ?_
  rw [Nat.testBit_xor, kw, show 2 ^ 64 - 1 - x = 2 ^ 64 - (x + 1) from by omega, Nat.testBit_two_pow_sub_succ hx]
  by_cases hi : i < 64
  ·simp [hi]
  ·have : x.testBit i = J := Nat.testBit_lt_two_pow (bq hx (jm (by decide) (by omega)))
   simp [hi, this]
 rw [h2, p64] at *
 omega
theorem neg_val {x : Nat} (hx : x < 2 ^ 64) : IntKind.u64.wrap (-(x : Int)) = (((-(x : Int)) % 18446744073709551616).toNat : Int) := by rw [u64w]; omega
theorem un_calls (k wd : Int) (hk : k = 4 \/ k = 5) (h1 : 1 <= wd) (h2 : wd <= 64) (x : Nat) (hx : x < 2 ^ 64) (W : World) :
 Calls ak 158 #[.int .i64 (wrap64 (wrap64 (k - 4) + 15)), .int .i64 wd, .int .u64 (x : Int)] W fun e W' => e = .returned (.tuple #[.int .u64 (unW k wd x), .int .i64 0]) /\ Below W.heap.size W W' := by
 rcases hk with rfl | rfl
 ·rw [show wrap64 (wrap64 (4 - 4) + 15) = 15 from by rw [w64, w64]; omega]
  go_enter Tryz.func158, Tryz.ntmps158
  refine bE ?_
  intro gg
  go_wp2_with fail
  refine (aD (g := gg) (iL wd h1 h2 gg.W)).mono ?_
  rintro _ _ ⟨rfl, gg, rfl⟩
  go_wp2_with fail
  refine (aD (g := gg) (fK wd h1 (not_val hx) (by rw [p64]; omega) gg.W)).mono ?_
  rintro _ _ ⟨rfl, gg, rfl⟩
  go_wp2_with fail
  go_ret2
  refine ⟨?_, gg.below⟩
  rw [show unW 4 wd (x : Int) = ((trn wd (18446744073709551615 - x) : Nat) : Int) from by unfold unW; rw [if_pos rfl]; congr 3; omega]
  rfl
 ·rw [show wrap64 (wrap64 (5 - 4) + 15) = 16 from by rw [w64, w64]; omega]
  go_enter Tryz.func158, Tryz.ntmps158
  refine bE ?_
  intro gg
  go_wp2_with fail
  refine (aD (g := gg) (iL wd h1 h2 gg.W)).mono ?_
  rintro _ _ ⟨rfl, gg, rfl⟩
  go_wp2_with fail
  refine (aD (g := gg) (fK wd h1 (neg_val hx) (by rw [p64]; omega) gg.W)).mono ?_
  rintro _ _ ⟨rfl, gg, rfl⟩
  go_wp2_with fail
  go_ret2
  exact ⟨rfl, gg.below⟩
def eN (m : Nat) : Prop := m = 4 \/ m = 8 \/ m = 16 \/ m = 32 \/ m = 64
theorem eN.le {m : Nat} (h : eN m) : 1 <= m /\ m <= 64 := by unfold eN at h; omega
theorem oV (op : Int) {b : Bool} (hb : decide (25 <= op) = b) (h2 : op <= 29) (W : World) : Calls ak 232 #[.int .i64 op] W fun e W' => e = .returned (.bool b) /\ Below W.heap.size W W' := shifts_calls op h2 b hb W
theorem ones_v {v : Int} {m : Nat} (hm : eN m) (hv : v = (m : Int)) (W : World) : Calls ak 233 #[.int .u64 v] W fun e W' => e = .returned (.int .i64 1) /\ Below W.heap.size W W' := by
 subst hv
 exact ones_calls (m : Int) (by unfold eN at hm; omega) W
theorem moved_v (op : Int) (m x : Nat) {v : Int} {n : Nat} (hv : v = (n : Int)) (h1 : 1 <= m) (h2 : m <= 64) (hx : x < 2 ^ m) (hn : n < m) (ho : op = 25 \/ op = 26 \/ op = 27 \/ op = 28 \/ op = 29) (W : World) :
 Calls ak 234 #[.int .i64 op, .int .i64 (m : Int), .int .u64 (x : Int), .int .i64 v] W fun e W' => e = .returned (.int .u64 (movn op m x n : Int)) /\ Below W.heap.size W W' := hv ▸ moved_calls op m x n h1 h2 hx hn ho W
theorem bin_shift {op : Int} {m x y : Nat} (hm : eN m) (o1 : 25 <= op) (o2 : op <= 29) : (binn op (m : Int) x y).1 = (movn op m (x % 2 ^ m) (y % 2 ^ m % m) : Int) := by
 have hw := hm.le
 have hp : pw m = af := by unfold eN at hm; rcases hm with rfl | rfl | rfl | rfl | rfl <;> rfl
 unfold binn
 rw [if_neg (by omega), av, hp, if_neg (by intro h; rcases h with h | h; exact h (by omega); exact absurd h.2 (by decide)), if_pos o1]
theorem bin_plain {op : Int} {m x y : Nat} (hm : eN m) (o1 : 17 <= op) (o2 : op < 25) : (binn op (m : Int) x y).1 = (opn op m (x % 2 ^ m) (y % 2 ^ m) : Int) := by
 have hw := hm.le
 unfold binn
 rw [if_neg (by omega), if_neg (by intro h; rcases h with h | h; exact h (by omega); exact absurd h.1 (by omega)), if_neg (by omega), av]
set_option maxRecDepth 100000 in
theorem binS_calls (op : Int) (m x y : Nat) (hm : eN m) (o1 : 25 <= op) (o2 : op <= 29) (hx : x < 2 ^ 64) (hy : y < 2 ^ 64) (W : World) :
 Calls ak 160 #[.int .i64 op, .int .i64 (m : Int), .int .u64 (x : Int), .int .u64 (y : Int)] W fun e W' => e = .returned (.tuple #[.int .u64 (binn op (m : Int) x y).1, .int .i64 0]) /\ Below W.heap.size W W' := by
 rw [bin_shift hm o1 o2]
 have HW := I (ae hm hm.le)
 have h17 : ¬ op < 17 := by omega
 have h29 : ¬ op > 29 := by omega
 have HB := I (ae hx hy)
 have HA := I (show trn (m : Int) x < 2 ^ m /\ trn (m : Int) y < 2 ^ m /\ trn (m : Int) x = x % 2 ^ m /\ trn (m : Int) y = y % 2 ^ m from ⟨pN rfl hm.le.1 hm.le.2 hx, pN rfl hm.le.1 hm.le.2 hy, gP rfl hm.le.1 hm.le.2 hx, gP rfl hm.le.1 hm.le.2 hy⟩)
 have hwm : IntKind.u64.wrap (m : Int) = (m : Int) := jT (by omega) (by have := hm.le; omega)
 have hm0 : ¬ (m : Int) = 0 := by have := hm.le; omega
 clear hx hy hm
 rw [<- HA.out.2.2.1, <- HA.out.2.2.2]
 obtain ⟨a, ha⟩ : ∃ a, a = trn (m : Int) x := ⟨_, rfl⟩
 obtain ⟨b, hb⟩ : ∃ b, b = trn (m : Int) y := ⟨_, rfl⟩
 rw [<- ha, <- hb] at HA ⊢
 have HC := I (ae ha hb)
 clear ha hb
 go_enter Tryz.func160, Tryz.ntmps160
 refine bE ?_
 intro gg
 go_wp2_with fail
 refine (aD (g := gg) (iL m (by have := HW.out.2; omega) (by have := HW.out.2; omega) gg.W)).mono ?_
 rintro _ _ ⟨rfl, gg, rfl⟩
 go_wp2_with fail
 refine (aD (g := gg) (oV op (decide_eq_true o1) o2 gg.W)).mono ?_
 rintro _ _ ⟨rfl, gg, rfl⟩
 go_wp2_with fail
 refine (aD (g := gg) (ones_v HW.out.1 rfl gg.W)).mono ?_
 rintro _ _ ⟨rfl, gg, rfl⟩
 go_wp2_with fail
 refine (aD (g := gg) (fK m (by have := HW.out.2; omega) rfl HB.out.1 gg.W)).mono ?_
 rintro _ _ ⟨rfl, gg, rfl⟩
 rw [<- HC.out.1]
 go_wp2_with fail
 refine (aD (g := gg) (fK m (by have := HW.out.2; omega) rfl HB.out.2 gg.W)).mono ?_
 rintro _ _ ⟨rfl, gg, rfl⟩
 rw [<- HC.out.2]
 go_wp2_with fail
 refine (aD (g := gg) (oV op (decide_eq_true o1) o2 gg.W)).mono ?_
 rintro _ _ ⟨rfl, gg, rfl⟩
 go_wp2_with fail
 have hb2 : (b : Int) % (m : Int) = ((b % m : Nat) : Int) := by rw [jd]
 have hlt : b % m < m := gm _ (by have := HW.out.2; omega)
 refine (aD (g := gg) (moved_v op m a (n := b % m) (by rw [hb2, w64]; have := HW.out.2; omega) HW.out.2.1 HW.out.2.2 HA.out.1 hlt (by omega) gg.W)).mono ?_
 rintro _ _ ⟨rfl, gg, rfl⟩
 clear hb2 hlt
 go_wp2_with fail
 go_ret2
 exact ⟨rfl, gg.below⟩
theorem nO {m z : Nat} (h1 : 1 <= m) (h2 : m <= 64) (hz : z < 2 ^ m) : trn (m : Int) z = z := by rw [gP rfl h1 h2 (lt64 h2 hz), fp hz]
theorem opn_val {op : Int} {m a b : Nat} (h1 : 1 <= m) (h2 : m <= 64) (ha : a < 2 ^ m) (hb : b < 2 ^ m) :
 (∃ N : Nat, N < 2 ^ 64 /\ Go.bits .and .u64 (a : Int) (b : Int) = N /\ trn (m : Int) N = opn 17 m a b /\ N = opn 17 m a b) /\ (∃ N : Nat, N < 2 ^ 64 /\ Go.bits .or .u64 (a : Int) (b : Int) = N /\ trn (m : Int) N = opn 18 m a b /\ N = opn 18 m a b) /\
 (∃ N : Nat, N < 2 ^ 64 /\ Go.bits .xor .u64 (a : Int) (b : Int) = N /\ trn (m : Int) N = opn 19 m a b /\ N = opn 19 m a b) /\ (∃ N : Nat, N < 2 ^ 64 /\ IntKind.u64.wrap ((a : Int) + (b : Int)) = N /\ trn (m : Int) N = opn 20 m a b) /\
 (∃ N : Nat, N < 2 ^ 64 /\ IntKind.u64.wrap ((a : Int) - (b : Int)) = N /\ trn (m : Int) N = opn 21 m a b) /\ (∃ N : Nat, N < 2 ^ 64 /\ IntKind.u64.wrap ((a : Int) * (b : Int)) = N /\ trn (m : Int) N = opn 22 m a b) := by
 have la := lt64 h2 ha
 have lb := lt64 h2 hb
 have A := Nat.and_lt_two_pow a hb
 have O := Nat.or_lt_two_pow ha hb
 have X := Nat.xor_lt_two_pow ha hb
 have w : ∀ z : Nat, trn (m : Int) (z % 2 ^ 64) = z % 2 ^ m := fun z => trn_mod z h1 h2
 have l : ∀ z : Nat, z % 2 ^ 64 < 2 ^ 64 := fun z => gm _ (du _)
 refine ⟨⟨_, lt64 h2 A, and_nat la lb, nO h1 h2 A, rfl⟩, ⟨_, lt64 h2 O, or_nat la lb, nO h1 h2 O, rfl⟩, ⟨_, lt64 h2 X, xor_nat la lb, nO h1 h2 X, rfl⟩, ⟨(a + b) % 2 ^ 64, l _, by rw [<- kp, lO], w _⟩, ?_, ⟨(a * b) % 2 ^ 64, l _, by rw [<- il, lO], w _⟩⟩
 obtain ⟨z, e1, e2⟩ := sub_wrap h2 ha hb
 exact ⟨z % 2 ^ 64, l _, by rw [e1, lO], by rw [w, e2]; rfl⟩
theorem div_val {m a b : Nat} (h1 : 1 <= m) (h2 : m <= 64) (ha : a < 2 ^ m) (hz : ¬ b = 0) : (Int.tdiv (a : Int) (b : Int) = ((a / b : Nat) : Int) /\ a / b < 2 ^ m /\ IntKind.u64.wrap ((a / b : Nat) : Int) = ((a / b : Nat) : Int)) /\ Int.tmod (a : Int) (b : Int) = ((a % b : Nat) : Int) /\ a % b < 2 ^ m := by
 have l : a / b < 2 ^ m := ez (iq _ _) ha
 exact ⟨⟨tdiv_nat a b, l, by rw [lO, fp (lt64 h2 l)]⟩, tmod_nat a b, ez (Nat.mod_le _ _) ha⟩
set_option maxRecDepth 100000 in
theorem binP_calls (op : Int) (m x y : Nat) (hm : eN m) (o1 : 17 <= op) (o2 : op < 25) (hx : x < 2 ^ 64) (hy : y < 2 ^ 64) (W : World) :
 Calls ak 160 #[.int .i64 op, .int .i64 (m : Int), .int .u64 (x : Int), .int .u64 (y : Int)] W fun e W' => e = .returned (.tuple #[.int .u64 (binn op (m : Int) x y).1, .int .i64 0]) /\ Below W.heap.size W W' := by
 rw [bin_plain hm o1 o2]
 have HW := I (ae hm hm.le)
 have h17 : ¬ op < 17 := by omega
 have h29 : ¬ op > 29 := by omega
 have h25 : decide (25 <= op) = J := decide_eq_false (by omega)
 have HB := I (ae hx hy)
 have HA := I (show trn (m : Int) x < 2 ^ m /\ trn (m : Int) y < 2 ^ m /\ trn (m : Int) x = x % 2 ^ m /\ trn (m : Int) y = y % 2 ^ m from ⟨pN rfl hm.le.1 hm.le.2 hx, pN rfl hm.le.1 hm.le.2 hy, gP rfl hm.le.1 hm.le.2 hx, gP rfl hm.le.1 hm.le.2 hy⟩)
 have hwm : IntKind.u64.wrap (m : Int) = (m : Int) := jT (by omega) (by have := hm.le; omega)
 have hm0 : ¬ (m : Int) = 0 := by have := hm.le; omega
 clear hx hy hm
 rw [<- HA.out.2.2.1, <- HA.out.2.2.2]
 obtain ⟨a, ha⟩ : ∃ a, a = trn (m : Int) x := ⟨_, rfl⟩
 obtain ⟨b, hb⟩ : ∃ b, b = trn (m : Int) y := ⟨_, rfl⟩
 rw [<- ha, <- hb] at HA ⊢
 have HC := I (ae ha hb)
 clear ha hb
 have hab : a < 2 ^ m /\ b < 2 ^ m := ⟨HA.out.1, HA.out.2.1⟩
 have hop : op = 17 \/ op = 18 \/ op = 19 \/ op = 20 \/ op = 21 \/ op = 22 \/ op = 23 \/ op = 24 := by omega
 have V := I (opn_val (op := op) HW.out.2.1 HW.out.2.2 HA.out.1 HA.out.2.1)
 clear h17 h29 o1 o2 hab hwm hm0
 rcases hop with rfl | rfl | rfl | rfl | rfl | rfl | rfl | rfl
 all_goals (
  go_enter Tryz.func160, Tryz.ntmps160
  refine bE ?_
  intro gg
  go_wp2_with fail
  refine (aD (g := gg) (iL m (by have := HW.out.2; omega) (by have := HW.out.2; omega) gg.W)).mono ?_
  rintro _ _ ⟨rfl, gg, rfl⟩
  go_wp2_with fail
  refine (aD (g := gg) (oV _ h25 (by decide) gg.W)).mono ?_
  rintro _ _ ⟨rfl, gg, rfl⟩
  go_wp2_with fail
  refine (aD (g := gg) (fK m (by have := HW.out.2; omega) rfl HB.out.1 gg.W)).mono ?_
  rintro _ _ ⟨rfl, gg, rfl⟩
  rw [<- HC.out.1]
  go_wp2_with fail
  refine (aD (g := gg) (fK m (by have := HW.out.2; omega) rfl HB.out.2 gg.W)).mono ?_
  rintro _ _ ⟨rfl, gg, rfl⟩
  rw [<- HC.out.2]
  go_wp2_with fail
  refine (aD (g := gg) (oV _ h25 (by decide) gg.W)).mono ?_
  rintro _ _ ⟨rfl, gg, rfl⟩)
 ·obtain ⟨N, n1, n2, n3, -⟩ := V.out.1
  go_wp2_with fail
  refine (aD (g := gg) (fK m (by have := HW.out.2; omega) rfl n1 gg.W)).mono ?_
  rintro _ _ ⟨rfl, gg, rfl⟩
  rw [n3]
  go_wp2_with fail
  go_ret2
  exact ⟨rfl, gg.below⟩
 ·obtain ⟨N, n1, n2, n3, -⟩ := V.out.2.1
  go_wp2_with fail
  refine (aD (g := gg) (fK m (by have := HW.out.2; omega) rfl n1 gg.W)).mono ?_
  rintro _ _ ⟨rfl, gg, rfl⟩
  rw [n3]
  go_wp2_with fail
  go_ret2
  exact ⟨rfl, gg.below⟩
 ·obtain ⟨N, n1, n2, n3, -⟩ := V.out.2.2.1
  go_wp2_with fail
  refine (aD (g := gg) (fK m (by have := HW.out.2; omega) rfl n1 gg.W)).mono ?_
  rintro _ _ ⟨rfl, gg, rfl⟩
  rw [n3]
  go_wp2_with fail
  go_ret2
  exact ⟨rfl, gg.below⟩
 ·obtain ⟨N, n1, n2, n3⟩ := V.out.2.2.2.1
  go_wp2_with fail
  refine (aD (g := gg) (fK m (by have := HW.out.2; omega) rfl n1 gg.W)).mono ?_
  rintro _ _ ⟨rfl, gg, rfl⟩
  rw [n3]
  go_wp2_with fail
  go_ret2
  exact ⟨rfl, gg.below⟩
 ·obtain ⟨N, n1, n2, n3⟩ := V.out.2.2.2.2.1
  go_wp2_with fail
  refine (aD (g := gg) (fK m (by have := HW.out.2; omega) rfl n1 gg.W)).mono ?_
  rintro _ _ ⟨rfl, gg, rfl⟩
  rw [n3]
  go_wp2_with fail
  go_ret2
  exact ⟨rfl, gg.below⟩
 ·obtain ⟨N, n1, n2, n3⟩ := V.out.2.2.2.2.2
  go_wp2_with fail
  refine (aD (g := gg) (fK m (by have := HW.out.2; omega) rfl n1 gg.W)).mono ?_
  rintro _ _ ⟨rfl, gg, rfl⟩
  rw [n3]
  go_wp2_with fail
  go_ret2
  exact ⟨rfl, gg.below⟩
 ·rcases cf b with hz | hz
  ·have ho : trn (m : Int) (2 ^ 64 - 1) = opn 23 m a b := by
    rw [gP rfl HW.out.2.1 HW.out.2.2 (by decide), ones_mod HW.out.2.2, hz]; rfl
   have HZ := I hz
   have hz : (b : Int) = 0 := by omega
   go_wp2_with fail
   refine (aD (g := gg) (fK m (by have := HW.out.2; omega) (x := 2 ^ 64 - 1) (by decide) (by decide) gg.W)).mono ?_
   rintro _ _ ⟨rfl, gg, rfl⟩
   rw [ho]
   go_wp2_with fail
   go_ret2
   refine ⟨?_, gg.below⟩
   rw [HZ.out]
   rfl
  ·have hb0 : ¬ b = 0 := by omega
   have D := I (div_val HW.out.2.1 HW.out.2.2 HA.out.1 hb0)
   have ho : trn (m : Int) (a / b) = opn 23 m a b := by
    rw [nO HW.out.2.1 HW.out.2.2 D.out.1.2.1]; unfold opn; simp [hb0]
   have HO := I ho
   have hz : ¬ (b : Int) = 0 := by omega
   clear hb0 ho
   go_wp2_with fail
   refine (aD (g := gg) (fK m (by have := HW.out.2; omega) (x := a / b) (by rw [<- Int.natCast_ediv]; exact D.out.1.2.2) (lt64 HW.out.2.2 D.out.1.2.1) gg.W)).mono ?_
   rintro _ _ ⟨rfl, gg, rfl⟩
   rw [HO.out]
   go_wp2_with fail
   go_ret2
   exact ⟨rfl, gg.below⟩
 ·rcases cf b with hz | hz
  ·have ho : trn (m : Int) a = opn 24 m a b := by
    rw [nO HW.out.2.1 HW.out.2.2 HA.out.1, hz]; rfl
   have HZ := I hz
   have hz : (b : Int) = 0 := by omega
   go_wp2_with fail
   refine (aD (g := gg) (fK m (by have := HW.out.2; omega) (x := a) rfl (lt64 HW.out.2.2 HA.out.1) gg.W)).mono ?_
   rintro _ _ ⟨rfl, gg, rfl⟩
   rw [ho]
   go_wp2_with fail
   go_ret2
   refine ⟨?_, gg.below⟩
   rw [HZ.out]
   rfl
  ·have hb0 : ¬ b = 0 := by omega
   have D := I (div_val HW.out.2.1 HW.out.2.2 HA.out.1 hb0)
   have ho : trn (m : Int) (a % b) = opn 24 m a b := by
    rw [nO HW.out.2.1 HW.out.2.2 D.out.2.2]; unfold opn; simp [hb0]
   have HO := I ho
   have hz : ¬ (b : Int) = 0 := by omega
   clear hb0 ho
   go_wp2_with fail
   refine (aD (g := gg) (fK m (by have := HW.out.2; omega) (x := a % b) (by rw [jd]) (lt64 HW.out.2.2 D.out.2.2) gg.W)).mono ?_
   rintro _ _ ⟨rfl, gg, rfl⟩
   rw [HO.out]
   go_wp2_with fail
   go_ret2
   exact ⟨rfl, gg.below⟩
end
end Go.Proofs.YtfigjpehecibeaaGreat.L
namespace Go.Proofs.YtfigjpehecibeaaGreat.L
open Go.RowKit Bm C Go.Maps Go.Proofs.YtfigjpehecibeaaGreatW.PrintWords Go.Proofs.YtfigjpehecibeaaGreatW.PrintLast Go.Proofs.YtfigjpehecibeaaGreatW.PrintMore Go.Proofs.YtfigjpehecibeaaGreat.Gr
theorem oO {w : Int} {x : Nat} {s : Int} (hs : s = sgn w x) (h1 : 1 <= w) (h2 : w <= 64) (hx : x < 2 ^ 64) (W : World) : Calls ak 235 #[.int .i64 w, .int .u64 (x : Int)] W fun e W' => e = .returned (.int .i64 s) /\ Below W.heap.size W W' := hs ▸ n8 w h1 h2 x hx W
set_option maxRecDepth 100000 in
theorem compared25 (c : Cfg) {R : List (List Int)} {L : List (ByteArray × Int)} {T : List S101} (W : World) (hM : MAt c R L T W) (x y : Nat) (hx : x < 2 ^ 64) (hy : y < 2 ^ 64) (h1 : 1 <= c.wd) (h2 : c.wd <= 64) :
 Calls ak 161 #[.pointer (ac ⟨c.mb, 0, ag⟩), .int .i64 25, .int .u64 (x : Int), .int .u64 (y : Int)] W fun e W' => e = .returned (.int .u64 (cmpW 25 c.wd x y)) /\ Below W.heap.size W W' := by
 obtain ⟨vr, hmb, _⟩ := hM.hm
 obtain ⟨wd, hwd⟩ : ∃ wd, wd = c.wd := ⟨_, rfl⟩
 have m1 : ∀ g : G W, g.W.cell? ⟨c.mb, 1, ag⟩ = ac (.int .i64 wd) := fun g => by rw [hwd]; exact (aA (aB hmb g.below) 1).trans rfl
 rw [<- hwd] at h1 h2 ⊢
 obtain ⟨s1, hs1⟩ : ∃ s, s = sgn wd x := ⟨_, rfl⟩
 obtain ⟨s2, hs2⟩ : ∃ s, s = sgn wd y := ⟨_, rfl⟩
 have hr : cmpW 25 wd x y = if s1 < s2 then 1 else 0 := by
  have e : cmpB 25 wd x y = decide (s1 < s2) := by
   unfold cmpB
   simp [hs1, hs2]
  unfold cmpW
  rw [e]
  by_cases h : s1 < s2 <;> simp [h]
 rw [hr]
 have H := I (ae hs1 (ae hs2 (ae hx (ae hy (ae h1 h2)))))
 clear hM hmb hwd hr hs1 hs2 hx hy h1 h2
 rcases cu s1 s2 with hlt | hle
 ·rw [if_pos hlt]
  go_enter Tryz.func161, Tryz.ntmps161
  go_upto_region 16 with (fail)
  refine bF (by kernel_rfl) (by kernel_rfl) ?_
  repeat (go_big_quiet_step (first | (go_at_call_of 235 (ba IntKind.u64 (x : Int)); exact aD (oO H.out.1 H.out.2.2.2.2.1 H.out.2.2.2.2.2 H.out.2.2.1 _)) | (go_at_call_of 235 (ba IntKind.u64 (y : Int)); exact aD (oO H.out.2.1 H.out.2.2.2.2.1 H.out.2.2.2.2.2 H.out.2.2.2.1 _))))
  refine wpQuiet_nil ?_
  rintro _ ⟨gg, rfl⟩
  go_wp2_with fail
  go_ret
  exact ⟨rfl, gg.below⟩
 ·have hn : ¬ s1 < s2 := by omega
  rw [if_neg hn]
  go_enter Tryz.func161, Tryz.ntmps161
  go_upto_region 16 with (fail)
  refine bF (by kernel_rfl) (by kernel_rfl) ?_
  repeat (go_big_quiet_step (first | (go_at_call_of 235 (ba IntKind.u64 (x : Int)); exact aD (oO H.out.1 H.out.2.2.2.2.1 H.out.2.2.2.2.2 H.out.2.2.1 _)) | (go_at_call_of 235 (ba IntKind.u64 (y : Int)); exact aD (oO H.out.2.1 H.out.2.2.2.2.1 H.out.2.2.2.2.2 H.out.2.2.2.1 _))))
  refine wpQuiet_nil ?_
  rintro _ ⟨gg, rfl⟩
  go_wp2_with fail
  go_ret
  exact ⟨rfl, gg.below⟩
structure SOK (wd ln : Int) (ds : List S70) : Prop where
 wd : ∃ m : Nat, wd = (m : Int) /\ eN m
 ln : 1 <= ln /\ ln <= 256
 few : ds.length <= 256
 row : ∀ i, i < ds.length -> 1 <= cK (aG ds (i : Int)) /\ cK (aG ds (i : Int)) <= 256
structure ROK (ds : List S70) (R : List (List Int)) : Prop where
 len : R.length = ds.length
 row : ∀ i, i < ds.length -> ((rowOf R i).length : Int) = cK (aG ds (i : Int))
 word : ∀ i k, 0 <= dE R i k /\ dE R i k < 18446744073709551616
def LOK (L : List (ByteArray × Int)) : Prop := ∀ p ∈ L, 0 <= p.2 /\ p.2 < 18446744073709551616
structure EOK (ds : List S70) (lo : List ByteArray) (e : S116) : Prop where
 form : exB e = af
 good : Ot.kU e
 th : ∀ t ∈ dX e lo, jF ds t = J /\ mY ds t = J
theorem EOK.kid {ds : List S70} {lo : List ByteArray} {e y : S116} (h : EOK ds lo e) (hy : y ∈ e.f3) : EOK ds lo y := by
 refine ⟨?_, ?_, fun t ht => h.th t ?_⟩
 ·have := h.form
  rw [exB_eq, bo] at this
  exact dz.1 this.2 y hy
 ·have := h.good
  obtain ⟨a, b, s, l⟩ := e
  rw [Ot.kU] at this
  exact (Ot.nP l).1 this.2.2.2.2 y hy
 ·rw [iI]
  refine List.mem_cons_of_mem _ ?_
  obtain ⟨j, hj, rfl⟩ := fz hy
  rw [o8 e.f3 j hj lo]
  have e2 : bO e.f3 (j : Int) = e.f3[j] := by unfold bO; rw [av, au, az hj]; rfl
  rw [e2]
  exact List.mem_append_right _ (List.mem_append_left _ ht)
theorem o5 {L : List (ByteArray × Int)} {nm : ByteArray} : (lkL L nm).isSome = iC (L.map (·.1)) nm := by
 unfold lkL iC
 rw [Option.isSome_map, List.any_map]
 induction L with
 | nil => rfl
 | cons p r ih =>
   rw [List.find?_cons, jn]
   cases h : eqS p.1 nm with
   | true => simp [h]
   | false => simpa [h] using ih
theorem lkL_ok {L : List (ByteArray × Int)} (h : LOK L) {nm : ByteArray} {v : Int} (hv : lkL L nm = ac v) : 0 <= v /\ v < 18446744073709551616 := by
 unfold lkL at hv
 obtain ⟨p, hp, rfl⟩ := gf.1 hv
 exact h p (List.mem_of_find?_eq_some hp)
theorem EOK.name {ds : List S70} {lo : List ByteArray} {e : S116} (h : EOK ds lo e) (hk : e.f0 = 2) : iC lo e.f2 = af \/ (iC lo e.f2 = J /\ (bZ ds e.f2).isSome = af) := by
 obtain ⟨h1, h2⟩ := h.th (.expr e lo) (by rw [iI]; exact ji)
 have hu : iO (.expr e lo) = ac e.f2 := by unfold iO; simp [hk]
 unfold jF at h1
 rw [hu] at h1
 simp only [gF] at h1
 cases hl : iC lo e.f2 with
 | true => exact .inl rfl
 | false =>
   rw [hl] at h1
   refine .inr ⟨rfl, ?_⟩
   cases hf : bZ ds e.f2 with
   | none => rw [hf] at h1; simp at h1
   | some i => rfl
theorem EOK.load {ds : List S70} {lo : List ByteArray} {e : S116} (h : EOK ds lo e) (hk : e.f0 = 3) : (bZ ds e.f2).isSome = af := by
 obtain ⟨h1, h2⟩ := h.th (.expr e lo) (by rw [iI]; exact ji)
 have hu : iO (.expr e lo) = ac e.f2 := by unfold iO; simp [hk]
 unfold jF at h1
 unfold mY at h2
 rw [hu] at h1 h2
 simp only [gF] at h1
 cases hl : iC lo e.f2 with
 | true =>
   have e3 : oH ds (.expr e lo) e.f2 = nW (.expr e lo) := if_pos hl
   replace h2 : (!oH ds (.expr e lo) e.f2) = J := h2
   rw [e3] at h2
   simp [nW, hk] at h2
 | false =>
   rw [hl] at h1
   cases hf : bZ ds e.f2 with
   | none => rw [hf] at h1; simp at h1
   | some i => rfl
theorem find_lt {ds : List S70} {nm : ByteArray} (h : (bZ ds nm).isSome = af) : dNo ds nm < ds.length := by
 obtain ⟨i, hi⟩ := Option.isSome_iff_exists.1 h
 unfold dNo
 rw [hi]
 unfold bZ at hi
 rcases dD ds.length (fun i => eqS (aG ds (i : Int)).f1 nm) with ⟨h1, _⟩ | ⟨j, h0, h1, _⟩
 ·rw [h1] at hi; cases hi
 ·rw [h1] at hi; injection hi with hi; subst hi; exact h0
theorem EOK.kind {ds : List S70} {lo : List ByteArray} {e : S116} (h : EOK ds lo e) : 1 <= e.f0 /\ e.f0 <= 26 /\ (e.f3.length : Int) = fJ e.f0 /\ e.f3.length <= 3 /\ (e.f0 = 1 -> 0 <= e.f1 /\ e.f1 < 18446744073709551616) /\ e.f2.size <= maxLen := by
 have h1 := h.form
 rw [exB_eq, bo] at h1
 have h2 := h1.1
 unfold exOwn at h2
 simp only [bo, beq_iff_eq] at h2
 have h3 := h2.1.1.1
 have h4 := h.good
 obtain ⟨a, b, s, l⟩ := e
 rw [Ot.kU] at h4
 obtain ⟨g1, g2, g3, _, _⟩ := h4
 have hp : fJ a <= 3 /\ (0 <= fJ a -> 1 <= a /\ a <= 26) := by
  unfold fJ
  repeat' split
  all_goals omega
 have h5 : fJ a = (l.length : Int) := h3
 obtain ⟨n, hn, hn2⟩ := wf_u64 g2
 refine ⟨(hp.2 (by omega)).1, (hp.2 (by omega)).2, h5.symm, by show l.length <= 3; omega, fun _ => by show 0 <= b /\ b < _; rw [p64] at hn2; omega, ?_⟩
 exact bh g3 (by unfold maxLen; omega)
theorem bX {P : Program} {id : Nat} {Q : Exit -> Act -> World -> Prop} {a : Act} {X : World} {gg : G X} {l : List Oper} (hm : P.follows .mixedOrders = af) (hB : Region.lexB .any l.toArray = af)
 (h : wpQuiet P l.toArray (fun w' => ∃ g : G X, w' = g.W) (fun a' => ∀ w', (∃ g : G X, w' = g.W) -> Q .normal a' w') l a) : (Code.region id l.toArray af).wp P Q a gg.W :=
 wp_region_quiet (C := fun w' => ∃ g : G X, w' = g.W) hm hB ⟨mkG gg.below.drew, rfl⟩ (by simpa using h)
def ExprM (c : Cfg) (e : S116) : Prop := ∀ (W : World) (R : List (List Int)) (L : List (ByteArray × Int)) (T : List S101) (A : Option Addr) (cap : Nat), MAt c R L T W -> ROK c.ds R -> LOK L -> EOK c.ds (L.map (·.1)) e -> T.length + aK e < 1073741824 -> cQ.C c.w0 A e.f3.length e.f3 -> e.f3.length <= cap ->
 Calls ak 115 #[.pointer (ac ⟨c.mb, 0, ag⟩), .agg #[.int .i64 e.f0, .int .u64 e.f1, .string e.f2, .slice A e.f3.length cap]] W fun r W' => r = .returned (.int .u64 (evE c.wd c.ln c.ds R L e).1) /\ MAt c R L (T ++ (evE c.wd c.ln c.ds R L e).2) W' /\ Kt [84, 101] ag W W'
set_option maxRecDepth 100000 in
theorem expr_num (c : Cfg) (e : S116) (hk : e.f0 = 1) : ExprM c e := by
 intro W R L T A cap hM hR hL hE hT hC hcap
 have hr : evE c.wd c.ln c.ds R L e = (e.f1, []) := by rw [evE_eq, if_pos hk]
 rw [hr]
 have H := I hM
 clear hM hR hL hE hT hC hcap hr
 obtain ⟨k, num, nm, l⟩ := e
 subst hk
 go_enter Tryz.func115, Tryz.ntmps115
 go_wp2_with fail
 go_ret
 refine ⟨rfl, ?_, ?_⟩
 ·rw [df]
  exact H.out.below ((aq _ _).alloc (ar _) _)
 ·exact Kt.of_below ((aq _ _).alloc (ar _) _) _ _
set_option maxRecDepth 100000 in
theorem expr_name (c : Cfg) (hs : SOK c.wd c.ln c.ds) (e : S116) (hk : e.f0 = 2) : ExprM c e := by
 intro W R L T A cap hM hR hL hE hT hC hcap
 have hr : evE c.wd c.ln c.ds R L e = ((lkL L e.f2).getD (dE R (dNo c.ds e.f2) 0), []) := by rw [evE_eq, if_neg (by omega), if_pos hk]
 have hn := hE.name hk
 have hsz := hE.kind.2.2.2.2.2
 rw [hr, df]
 obtain ⟨k, num, nm, l⟩ := e
 replace hk : k = 2 := hk
 replace hsz : nm.size <= maxLen := hsz
 replace hn : iC (L.map (·.1)) nm = af \/ (iC (L.map (·.1)) nm = J /\ (bZ c.ds nm).isSome = af) := hn
 subst hk
 clear hE hT hC hcap hr hL
 show Calls ak 115 #[.pointer (ac ⟨c.mb, 0, ag⟩), .agg #[.int .i64 2, .int .u64 num, .string nm, .slice A l.length cap]] W fun r W' => r = .returned (.int .u64 ((lkL L nm).getD (dE R (dNo c.ds nm) 0))) /\ MAt c R L T W' /\ Kt [84, 101] ag W W'
 obtain ⟨vr, hmb, hrb⟩ := hM.hm
 obtain ⟨X, hX⟩ : ∃ X, X = W.alloc (.cells #[.int .i64 2, .int .u64 num, .string nm, .slice A l.length cap] 116) := ⟨_, rfl⟩
 have hXB : Below W.heap.size W X := by rw [hX]; exact bA _ _
 have hbx : X.heap[W.heap.size]? = ac (.cells #[.int .i64 2, .int .u64 num, .string nm, .slice A l.length cap] 116 (0, 0)) := by rw [hX]; exact aV _ _
 have hMX := I (show ∀ g : G X, MAt c R L T g.W from fun g => (hM.below hXB).below g.below)
 have OUT := I (show ∀ g : G X, Kt [84, 101] ag W g.W from fun g => (Kt.of_below hXB _ _).trans (Kt.of_below g.below _ _))
 have m7 : ∀ g : G X, g.W.cell? ⟨c.mb, 7, ag⟩ = ac (.map (ac c.lb)) := fun g => (aA (aB (aB hmb hXB) g.below) 7).trans rfl
 have e2 : ∀ g : G X, g.W.cell? ⟨W.heap.size, 2, ag⟩ = ac (.string nm) := fun g => (aA (aB hbx g.below) 2).trans rfl
 have hlk : ∀ g : G X, (ib 89 (.map (ac c.lb)) (.string nm) af).run ak g.W = .ok (.tuple #[.int .u64 ((lkL L nm).getD 0), .bool (lkL L nm).isSome]) g.W := fun g => (hMX.out g).loop hsz
 rcases hl : lkL L nm with _ | v
 ·have hf : (bZ c.ds nm).isSome = af := by
   rcases hn with h | h
   ·rw [<- o5, hl] at h; cases h
   ·exact h.2
  have hd := find_lt hf
  have m5 : ∀ g : G X, g.W.cell? ⟨c.mb, 5, ag⟩ = ac (.map (ac c.ab)) := fun g => (aA (aB (aB hmb hXB) g.below) 5).trans rfl
  obtain ⟨d, hdd⟩ : ∃ d : Nat, d = dNo c.ds nm := ⟨_, rfl⟩
  have hla : ∀ g : G X, (ib 88 (.map (ac c.ab)) (.string nm) J).run ak g.W = .ok (.int .i64 (d : Int)) g.W := fun g => by rw [hdd]; exact (hMX.out g).look hsz hf
  rw [<- hdd] at hd ⊢
  have hdR : d < R.length := by rw [hR.len]; exact hd
  obtain ⟨A0, cp, b, c0, rfl, hcd, _, hbb, hcell⟩ := hrb.at' hdR
  have hr1 := hs.row d hd
  have hl1 : 1 <= (rowOf R d).length := by have := hR.row d hd; omega
  obtain ⟨q, _⟩ := hcell 0 (by omega)
  obtain ⟨n, hnn⟩ : ∃ n, n = (rowOf R d).length := ⟨_, rfl⟩
  obtain ⟨RN, hRN⟩ : ∃ n, n = R.length := ⟨_, rfl⟩
  obtain ⟨x, hx⟩ : ∃ x, x = dE R d 0 := ⟨_, rfl⟩
  rw [<- hnn] at hcd hl1
  rw [<- hRN] at hdR hmb
  rw [<- hx] at q ⊢
  have m6 : ∀ g : G X, g.W.cell? ⟨c.mb, 6, ag⟩ = ac (.slice (ac A0) RN cp) := fun g => by rw [hRN]; exact (aA (aB (aB (hRN ▸ hmb) hXB) g.below) 6).trans rfl
  have q1 : ∀ g : G X, g.W.cell? (A0.add d) = ac (.slice (ac ⟨b, 0, ag⟩) n c0) := fun g => aE (hXB.trans (g.below.mono hXB.size)) hcd
  have q2 : ∀ g : G X, g.W.cell? ⟨b, 0, ag⟩ = ac (.int .u64 x) := fun g => aE (hXB.trans (g.below.mono hXB.size)) q
  have d0 : (0 : Int) <= (d : Int) := by omega
  have d1 : (d : Int) < (RN : Int) := by omega
  have n1 : (0 : Int) < (n : Int) := by omega
  rw [hl] at hlk
  replace hlk : ∀ g : G X, (ib 89 (.map (ac c.lb)) (.string nm) af).run ak g.W = .ok (.tuple #[.int .u64 0, .bool J]) g.W := hlk
  show Calls ak 115 _ W fun r W' => r = .returned (.int .u64 x) /\ MAt c R L T W' /\ Kt [84, 101] ag W W'
  clear hM hmb hrb hn hl hf hd hdR hbb hcell q hcd hXB hbx hsz hR hs hr1 hl1 hnn hRN hx hdd
  go_enter Tryz.func115, Tryz.ntmps115
  go_upto_region 5 with (fail)
  rw [<- hX]
  clear hX
  refine bF (by kernel_rfl) (by kernel_rfl) ?_
  repeat go_big_quiet_step (fail)
  refine wpQuiet_nil ?_
  rintro _ ⟨gg, rfl⟩
  go_wp2_with fail
  refine bX (by kernel_rfl) (by kernel_rfl) ?_
  repeat go_big_quiet_step (fail)
  refine wpQuiet_nil ?_
  rintro _ ⟨gg, rfl⟩
  go_wp2_with fail
  go_ret
  exact ⟨rfl, hMX.out gg, OUT.out gg⟩
 ·rw [hl] at hlk
  replace hlk : ∀ g : G X, (ib 89 (.map (ac c.lb)) (.string nm) af).run ak g.W = .ok (.tuple #[.int .u64 v, .bool af]) g.W := hlk
  show Calls ak 115 _ W fun r W' => r = .returned (.int .u64 v) /\ MAt c R L T W' /\ Kt [84, 101] ag W W'
  clear hM hmb hrb hn hl hXB hbx hsz hR hs
  go_enter Tryz.func115, Tryz.ntmps115
  go_upto_region 5 with (fail)
  rw [<- hX]
  clear hX
  refine bF (by kernel_rfl) (by kernel_rfl) ?_
  repeat go_big_quiet_step (fail)
  refine wpQuiet_nil ?_
  rintro _ ⟨gg, rfl⟩
  go_wp2_with fail
  go_ret
  exact ⟨rfl, hMX.out gg, OUT.out gg⟩
end Go.Proofs.YtfigjpehecibeaaGreat.L
namespace Go.Proofs.YtfigjpehecibeaaGreat.L
open Go.RowKit Bm C
theorem movn_lt {op : Int} {m x n : Nat} (hx : x < 2 ^ m) : movn op m x n < 2 ^ m := by
 have hp := du m
 unfold movn
 split
 ·exact gm _ hp
 split
 ·exact ez (iq _ _) hx
 split
 ·split
  ·rw [Nat.div_lt_iff_lt_mul (du n), Nat.mul_sub, gu]
   have : 2 ^ m <= 2 ^ m * 2 ^ n := fo _ (du n)
   omega
  ·exact ez (iq _ _) hx
 split
 ·exact gm _ hp
 ·exact gm _ hp
theorem opn_lt {op : Int} {m x y : Nat} (hx : x < 2 ^ m) (hy : y < 2 ^ m) : opn op m x y < 2 ^ m := by
 have hp := du m
 unfold opn
 split
 ·exact Nat.and_lt_two_pow x hy
 split
 ·exact Nat.or_lt_two_pow hx hy
 split
 ·exact Nat.xor_lt_two_pow hx hy
 split
 ·exact gm _ hp
 split
 ·exact gm _ hp
 split
 ·exact gm _ hp
 split
 ·split
  ·omega
  ·exact ez (iq _ _) hx
 ·split
  ·exact hx
  ·exact ez (Nat.mod_le _ _) hx
abbrev U64 (x : Int) : Prop := 0 <= x /\ x < 18446744073709551616
theorem U64.nat {x : Int} (h : U64 x) : ∃ n : Nat, x = (n : Int) /\ n < 2 ^ 64 := ⟨x.toNat, by omega, by rw [p64]; omega⟩
theorem n9 {n : Nat} (h : n < 2 ^ 64) : U64 (n : Int) := by rw [p64] at h; exact ⟨by omega, by omega⟩
theorem unW_u64 (k wd : Int) {x : Int} (h : U64 x) : U64 (unW k wd x) := by
 unfold unW
 split
 ·exact n9 (trn_le (by rw [p64]; omega))
 ·exact n9 (trn_le (by rw [p64]; omega))
theorem binW_u64 (k : Int) {m : Nat} (hm : eN m) (x y : Int) : U64 (binW k m x y) := by
 have h2 := hm.le
 have l : ∀ z : Nat, z < 2 ^ m -> U64 (z : Int) := fun z hz => n9 (lt64 h2.2 hz)
 have hp := du m
 unfold binW binn
 split
 ·exact ⟨by decide, by decide⟩
 split
 ·exact ⟨by decide, by decide⟩
 rw [av]
 split
 ·exact l _ (movn_lt (gm _ hp))
 ·exact l _ (opn_lt (gm _ hp) (gm _ hp))
theorem cmpW_u64 (k wd x y : Int) : U64 (cmpW k wd x y) := by
 unfold cmpW
 split <;> exact ⟨by decide, by decide⟩
theorem finE_u64 {wd ln : Int} {ds : List S70} (hs : SOK wd ln ds) {R : List (List Int)} (hR : ROK ds R) (k : Int) (nm : ByteArray) {x y z : Int} (hx : U64 x) (hy : U64 y) (hz : U64 z) : U64 (l7 wd ln ds R k nm x y z).1 := by
 obtain ⟨m, rfl, hm⟩ := hs.wd
 unfold l7
 split
 ·exact hR.word _ _
 split
 ·exact unW_u64 _ _ hx
 split
 ·show U64 (if x ≠ 0 then y else z)
  split
  ·exact hy
  ·exact hz
 split
 ·exact binW_u64 _ hm _ _
 ·exact cmpW_u64 _ _ _ _
theorem kK {wd ln : Int} {ds : List S70} (hs : SOK wd ln ds) {R : List (List Int)} (hR : ROK ds R) {L : List (ByteArray × Int)} (hL : LOK L) : ∀ (n : Nat) (e : S116), cd e <= n -> EOK ds (L.map (·.1)) e -> U64 (evE wd ln ds R L e).1 := by
 intro n
 induction n with
 | zero => intro e h; obtain ⟨a, b, s, l⟩ := e; simp at h
 | succ n ih =>
   intro e h hE
   have hk : ∀ i, U64 ((eC wd ln ds R L e.f3).1.getD i 0) := by
    intro i
    have : ∀ l : List S116, (∀ y ∈ l, U64 (evE wd ln ds R L y).1) -> ∀ i, U64 ((eC wd ln ds R L l).1.getD i 0) := by
     intro l
     induction l with
     | nil => intro _ i; simp [eC]; exact ⟨by decide, by decide⟩
     | cons y r ihr =>
       intro hy i
       rw [eC]
       cases i with
       | zero => exact hy y (by simp)
       | succ i => exact ihr (fun z hz => hy z (by simp [hz])) i
    exact this e.f3 (fun y hy => ih y (eK rfl hy h) (hE.kid hy)) i
   rw [evE_eq]
   split
   ·rename_i h1
    exact hE.kind.2.2.2.2.1 h1
   split
   ·cases hl : lkL L e.f2 with
    | none => exact hR.word _ _
    | some v => exact lkL_ok hL hl
   ·exact finE_u64 hs hR _ _ (hk 0) (hk 1) (hk 2)
end Go.Proofs.YtfigjpehecibeaaGreat.L
namespace Go.Proofs.YtfigjpehecibeaaGreat.L
open Go.RowKit Bm C Go.Maps Go.Proofs.YtfigjpehecibeaaGreatW.PrintWords Go.Proofs.YtfigjpehecibeaaGreatW.PrintLast Go.Proofs.YtfigjpehecibeaaGreatW.PrintMore Go.Proofs.YtfigjpehecibeaaGreat.Gr
theorem Kt.set_new {ts : List Nat} {lb : Option Nat} {W W' : World} (h : Kt ts lb W W') {g : Nat} (hg : W.heap.size <= g) (j : Nat) (u : Value) : Kt ts lb W (W'.setCell ⟨g, j, ag⟩ u) := by
 refine ⟨by simpa [iu] using h.size, fun g' cs t fr hb ht => ?_, fun g' es x hl he => ?_⟩
 ·have := aW hb
  rw [dw _ _ _ _ (fun e => by have e : g' = g := e; omega)]
  exact h.blk g' cs t fr hb ht
 ·have := aW he
  rw [dw _ _ _ _ (fun e => by have e : g' = g := e; omega)]
  exact h.maps g' es x hl he
theorem MAt.other {c : Cfg} {R : List (List Int)} {L : List (ByteArray × Int)} {T : List S101} {W : World} (h : MAt c R L T W) {g t : Nat} {cs : Array Value} (hb : W.heap[g]? = ac (.cells cs t (0, 0))) (ht : t ≠ 93 /\ t ≠ 36 /\ t ≠ 74 /\ t ≠ 84 /\ t ≠ 101) (hg : c.w0.heap.size <= g) (j : Nat) (u : Value) : MAt c R L T (W.setCell ⟨g, j, ag⟩ u) := by
 have hk : Kt [t] ag W (W.setCell ⟨g, j, ag⟩ u) := (Kt.refl _ _ _).set hb (by simp) j u
 obtain ⟨vt, t1, t2⟩ := h.he
 obtain ⟨n1, n2, n3, n4, n5⟩ := ht
 refine h.seen hk (by simp [Ne.symm n1]) (by simp [Ne.symm n2]) (by simp [Ne.symm n3]) (h.low.setCell (p := ⟨g, j, ag⟩) hg _) ⟨vt, hk.blk _ _ _ _ t1 (by simp [Ne.symm n4]), hk.row t2 (fun q hq => ?_)⟩
 have : q = 101 := by simpa [oD, Kd.iso, Kd.pair, Kd.int, Kd.scalar] using hq
 rw [this]; simp [Ne.symm n5]
abbrev three (l : List Int) : Array Value := #[.int .u64 (l.getD 0 0), .int .u64 (l.getD 1 0), .int .u64 (l.getD 2 0)]
theorem three_set (l : List Int) (v : Int) {j : Nat} (hj : l.length = j) (h3 : j < 3) : (three l).setIfInBounds j (.int .u64 v) = three (l ++ [v]) := by
 match l, hj with
 | [], rfl => rfl
 | [a], rfl => rfl
 | [a, b], rfl => rfl
 | a :: b :: d :: r, rfl => simp only [iv] at h3; omega
theorem three_get (l : List Int) {j : Nat} (h3 : j < 3) : ∃ v, (three l)[j]? = ac (.int .u64 v) := by
 match j, h3 with
 | 0, _ => exact ⟨_, rfl⟩
 | 1, _ => exact ⟨_, rfl⟩
 | 2, _ => exact ⟨_, rfl⟩
theorem evEs_u64 {wd ln : Int} {ds : List S70} (hs : SOK wd ln ds) {R : List (List Int)} (hR : ROK ds R) {L : List (ByteArray × Int)} (hL : LOK L) : ∀ (l : List S116), (∀ y ∈ l, EOK ds (L.map (·.1)) y) -> ∀ i, U64 ((eC wd ln ds R L l).1.getD i 0)
 | [], _, i => by simp [eC]; exact ⟨by decide, by decide⟩
 | y :: r, hy, i => by
   rw [eC]
   cases i with
   | zero => exact kK hs hR hL _ y (ar _) (hy y (by simp))
   | succ i => exact evEs_u64 hs hR hL r (fun z hz => hy z (by simp [hz])) i
theorem un15 (wd : Int) (h1 : 1 <= wd) (h2 : wd <= 64) (x : Nat) (hx : x < 2 ^ 64) (W : World) : Calls ak 158 #[.int .i64 15, .int .i64 wd, .int .u64 (x : Int)] W fun e W' => e = .returned (.tuple #[.int .u64 (unW 4 wd x), .int .i64 0]) /\ Below W.heap.size W W' := by
 have := un_calls 4 wd (.inl rfl) h1 h2 x hx W
 rwa [show wrap64 (wrap64 (4 - 4) + 15) = 15 from by rw [w64, w64]; omega] at this
theorem un16 (wd : Int) (h1 : 1 <= wd) (h2 : wd <= 64) (x : Nat) (hx : x < 2 ^ 64) (W : World) : Calls ak 158 #[.int .i64 16, .int .i64 wd, .int .u64 (x : Int)] W fun e W' => e = .returned (.tuple #[.int .u64 (unW 5 wd x), .int .i64 0]) /\ Below W.heap.size W W' := by
 have := un_calls 5 wd (.inr rfl) h1 h2 x hx W
 rwa [show wrap64 (wrap64 (5 - 4) + 15) = 16 from by rw [w64, w64]; omega] at this
theorem bin_v (k : Int) {wd : Int} (hw : ∃ m : Nat, wd = (m : Int) /\ eN m) (ho : 17 <= opK k /\ opK k <= 29) {x y : Int} (hx : U64 x) (hy : U64 y) (W : World) :
 Calls ak 160 #[.int .i64 (opK k), .int .i64 wd, .int .u64 x, .int .u64 y] W fun e W' => e = .returned (.tuple #[.int .u64 (binW k wd x y), .int .i64 0]) /\ Below W.heap.size W W' := by
 obtain ⟨m, rfl, hm⟩ := hw
 obtain ⟨a, rfl, ha⟩ := hx.nat
 obtain ⟨b, rfl, hb⟩ := hy.nat
 unfold binW
 rw [av, av]
 rcases cu (opK k) 25 with h | h
 ·exact binP_calls (opK k) m a b hm ho.1 h ha hb W
 ·exact binS_calls (opK k) m a b hm h ho.2 ha hb W
theorem opK_in {k : Int} (h : (6 <= k /\ k <= 17) \/ k = 24) : 17 <= opK k /\ opK k <= 29 := by
 have h : k = 6 \/ k = 7 \/ k = 8 \/ k = 9 \/ k = 10 \/ k = 11 \/ k = 12 \/ k = 13 \/ k = 14 \/ k = 15 \/ k = 16 \/ k = 17 \/ k = 24 := by omega
 rcases h with rfl | rfl | rfl | rfl | rfl | rfl | rfl | rfl | rfl | rfl | rfl | rfl | rfl <;> decide
theorem opK_no {k : Int} (h : (18 <= k /\ k <= 23) \/ k = 25) : opK k = 0 := by
 have h : k = 18 \/ k = 19 \/ k = 20 \/ k = 21 \/ k = 22 \/ k = 23 \/ k = 25 := by omega
 rcases h with rfl | rfl | rfl | rfl | rfl | rfl | rfl <;> rfl
theorem two_v {k v : Int} (hv : v = opK k) (W : World) (h0 : 6 <= k) (h1 : k <= 25) : Calls ak 159 #[.int .i64 k] W fun e W' => e = .returned (.int .i64 v) /\ Below W.heap.size W W' := hv ▸ two_calls k W h0 h1
theorem cmp_v (c : Cfg) {R : List (List Int)} {L : List (ByteArray × Int)} {T : List S101} (W : World) (hM : MAt c R L T W) {k : Int} (hk : (18 <= k /\ k <= 23) \/ k = 25) {x y : Int} (hx : U64 x) (hy : U64 y) (hw : ∃ m : Nat, c.wd = (m : Int) /\ eN m) :
 Calls ak 161 #[.pointer (ac ⟨c.mb, 0, ag⟩), .int .i64 k, .int .u64 x, .int .u64 y] W fun e W' => e = .returned (.int .u64 (cmpW k c.wd x y)) /\ Below W.heap.size W W' := by
 rcases hk with hk | rfl
 ·exact compared_calls c W hM k x y (by omega)
 ·obtain ⟨m, hm, hm2⟩ := hw
  obtain ⟨a, rfl, ha⟩ := hx.nat
  obtain ⟨b, rfl, hb⟩ := hy.nat
  have := hm2.le
  exact compared25 c W hM a b ha hb (by omega) (by omega)
theorem fin26 (wd ln : Int) (ds : List S70) (R : List (List Int)) (nm : ByteArray) (x y z : Int) : l7 wd ln ds R 26 nm x y z = (if x ≠ 0 then y else z, []) := by
 unfold l7
 rw [if_neg (by decide), if_neg (by decide), if_pos rfl]
theorem fin45 (wd ln : Int) (ds : List S70) (R : List (List Int)) {k : Int} (hk : k = 4 \/ k = 5) (nm : ByteArray) (x y z : Int) : l7 wd ln ds R k nm x y z = (unW k wd x, []) := by
 unfold l7
 rw [if_neg (by omega), if_pos hk]
theorem finBin (wd ln : Int) (ds : List S70) (R : List (List Int)) {k : Int} (h : (6 <= k /\ k <= 17) \/ k = 24) (nm : ByteArray) (x y z : Int) : l7 wd ln ds R k nm x y z = (binW k wd x y, if k = 7 \/ k = 8 then [⟨4, x, y⟩] else []) := by
 have := opK_in h
 unfold l7
 rw [if_neg (by omega), if_neg (by omega), if_neg (by omega), if_pos (by omega)]
theorem finCmp (wd ln : Int) (ds : List S70) (R : List (List Int)) {k : Int} (h : (18 <= k /\ k <= 23) \/ k = 25) (nm : ByteArray) (x y z : Int) : l7 wd ln ds R k nm x y z = (cmpW k wd x y, []) := by
 have := opK_no h
 unfold l7
 rw [if_neg (by omega), if_neg (by omega), if_neg (by omega), if_neg (by omega)]
set_option maxRecDepth 100000 in
theorem expr_rest (c : Cfg) (hs : SOK c.wd c.ln c.ds) (e : S116) (hk : 3 <= e.f0) (ih : ∀ y ∈ e.f3, ExprM c y) : ExprM c e := by
 intro W R L T A cap hM hR hL hE hT hC hcap
 have hkd := hE.kind
 have hsz := hkd.2.2.2.2.2
 have hr : evE c.wd c.ln c.ds R L e = ((l7 c.wd c.ln c.ds R e.f0 e.f2 ((eC c.wd c.ln c.ds R L e.f3).1.getD 0 0) ((eC c.wd c.ln c.ds R L e.f3).1.getD 1 0) ((eC c.wd c.ln c.ds R L e.f3).1.getD 2 0)).1, (eC c.wd c.ln c.ds R L e.f3).2 ++ (l7 c.wd c.ln c.ds R e.f0 e.f2 ((eC c.wd c.ln c.ds R L e.f3).1.getD 0 0) ((eC c.wd c.ln c.ds R L e.f3).1.getD 1 0) ((eC c.wd c.ln c.ds R L e.f3).1.getD 2 0)).2) := by rw [evE_eq, if_neg (by omega), if_neg (by omega)]
 rw [hr]
 obtain ⟨x, hx⟩ : ∃ x, x = (eC c.wd c.ln c.ds R L e.f3).1.getD 0 0 := ⟨_, rfl⟩
 obtain ⟨y, hy⟩ : ∃ x, x = (eC c.wd c.ln c.ds R L e.f3).1.getD 1 0 := ⟨_, rfl⟩
 obtain ⟨z, hz⟩ : ∃ x, x = (eC c.wd c.ln c.ds R L e.f3).1.getD 2 0 := ⟨_, rfl⟩
 obtain ⟨T1, hT1⟩ : ∃ T1, T1 = T ++ (eC c.wd c.ln c.ds R L e.f3).2 := ⟨_, rfl⟩
 rw [<- hx, <- hy, <- hz, <- dr, <- hT1]
 obtain ⟨k, hkk⟩ : ∃ k, k = e.f0 := ⟨_, rfl⟩
 obtain ⟨num, hnum⟩ : ∃ k, k = e.f1 := ⟨_, rfl⟩
 obtain ⟨nm, hnm⟩ : ∃ k, k = e.f2 := ⟨_, rfl⟩
 obtain ⟨l, hl⟩ : ∃ k, k = e.f3 := ⟨_, rfl⟩
 rw [<- hl] at ih hC hcap hx hy hz hT1
 have HV := I (ae hx (ae hy (ae hz hT1)))
 rw [<- hkk, <- hnum, <- hnm, <- hl]
 obtain ⟨n, hn⟩ : ∃ n, n = l.length := ⟨_, rfl⟩
 rw [<- hn] at hC hcap ⊢
 have k1 : (k == 1) = J := beq_eq_false_iff_ne.2 (by omega)
 have k2 : (k == 2) = J := beq_eq_false_iff_ne.2 (by omega)
 obtain ⟨X, hX⟩ : ∃ X, X = W.alloc (.cells #[.int .i64 k, .int .u64 num, .string nm, .slice A n cap] 116) := ⟨_, rfl⟩
 have hXB : Below W.heap.size W X := by rw [hX]; exact bA _ _
 have hXs : X.heap.size = W.heap.size + 1 := by rw [hX]; simp
 have hbx : X.heap[W.heap.size]? = ac (.cells #[.int .i64 k, .int .u64 num, .string nm, .slice A n cap] 116 (0, 0)) := by rw [hX]; exact aV _ _
 obtain ⟨Y, hY⟩ : ∃ Y, Y = X.alloc (.cells #[.int .u64 0, .int .u64 0, .int .u64 0] 218) := ⟨_, rfl⟩
 have hYB : Below X.heap.size X Y := by rw [hY]; exact (aq _ _).alloc (ar _) _
 have hbY : Y.heap[W.heap.size + 1]? = ac (.cells #[.int .u64 0, .int .u64 0, .int .u64 0] 218 (0, 0)) := by rw [hY, <- hXs]; exact aV _ _
 have hIn := I (ae hkk (ae hnum (ae hnm (ae hl hn))))
 have HS := I (ae hs (ae hR (ae hL (ae hE (ae hT (ae hcap (ae hC hkd)))))))
 have IH := I ih
 have HK3 := I (show 3 <= k from hkk ▸ hk)
 have HLW := I hM.low.size
 have HX := I (ae hXB (ae hbx hXs))
 have HM0 := I (show MAt c R L (T ++ (eC c.wd c.ln c.ds R L (l.take 0)).2) Y from by
  rw [jq, eC, df]; exact (hM.below hXB).below hYB)
 have HY := I (ae hYB hbY)
 have z3 : Y.cell? ⟨W.heap.size, 3, ag⟩ = ac (.slice A n cap) := (aA (aB hbx hYB) 3).trans rfl
 clear hx hy hz hT1 hs hR hL hE hT hC hcap hkd hkk hnum hnm hl hn ih hM hr hk hXB hbx hYB hbY hXs
 go_enter Tryz.func115, Tryz.ntmps115
 go_upto_region 10 with (fail)
 rw [<- hX, <- hY]
 clear hX hY
 go_wp2_with fail
 go_loopw [53] (fun i W' => ∃ (j : Nat) (W2 : World), i = .int .i64 j /\ W2 = W' /\ j <= n /\ Aside0 (MAt c R L (T ++ (eC c.wd c.ln c.ds R L (l.take j)).2) W2 /\ Kt [84, 101] ag X W2 /\ W2.heap[W.heap.size + 1]? = ac (.cells (three (eC c.wd c.ln c.ds R L (l.take j)).1) 218 (0, 0)))) (fun i _ => n - (intOf i).toNat)
 case atStart => exact ⟨0, _, rfl, rfl, bi _, ⟨HM0.out, Kt.of_below HY.out.1 _ _, by rw [jq, eC]; exact HY.out.2⟩⟩
 case round =>
  obtain ⟨j, W2, rfl, rfl, hj, HK⟩ := hrel
  by_cases hlt : j < n
  ·have hlt2 : (j : Int) < (n : Int) := by omega
   obtain ⟨ad, A3, c3, e1, q0, q1, q2, q3, l3, g3⟩ := fR HS.out.2.2.2.2.2.2.1 (j : Int) (by omega) (by omega)
   cases e1
   rw [av] at q0 q1 q2 q3
   have p0 := aE HK.out.1.low q0
   have p1 := aE HK.out.1.low q1
   have p2 := aE HK.out.1.low q2
   have p3 := aE HK.out.1.low q3
   have hj0 : j < l.length := by rw [<- hIn.out.2.2.2.2]; exact hlt
   have MEM := I (gM hj0)
   have TK := I (dK hj0)
   have G3 := I (ae g3 l3)
   obtain ⟨y', hy⟩ : ∃ y, y = bO l (j : Int) := ⟨_, rfl⟩
   rw [<- hy] at p0 p1 p2 p3 MEM TK G3
   have lw := aj W2 _ p0
   clear q0 q1 q2 q3 hy l3 g3
   go_wp2_with fail
   have TK2 := congrArg (eC c.wd c.ln c.ds R L) TK.out
   rw [evEs_app] at TK2
   have TW := congrArg bN TK.out
   rw [eE] at TW
   refine (IH.out y' MEM.out (W2.alloc (.cells #[.int .i64 y'.f0, .int .u64 y'.f1, .string y'.f2, .slice A3 y'.f3.length c3] 116)) R L (T ++ (eC c.wd c.ln c.ds R L (l.take j)).2) A3 c3 (HK.out.1.below ((aq _ _).alloc (ar _) _)) HS.out.2.1 HS.out.2.2.1 (HS.out.2.2.2.1.kid (hIn.out.2.2.2.1 ▸ MEM.out)) (by
    have h1 := HS.out.2.2.2.2.1
    have h2 := jL c.wd c.ln c.ds R L (l.take j)
    have h3 := fH l (j + 1)
    rw [eB, <- hIn.out.2.2.2.1] at h1
    rw [ay]
    omega) G3.out.1 G3.out.2).mono ?_
   rintro _ W4 ⟨rfl, hm4, hk4⟩
   have hb4 := hk4.blk _ _ _ _ (eP HK.out.2.2 _) (by simp)
   have j3 : j < 3 := by have := HS.out.2.2.2.2.2.2.2.2.2.2.1; rw [<- hIn.out.2.2.2.1, <- hIn.out.2.2.2.2] at this; omega
   have jl : (eC c.wd c.ln c.ds R L (l.take j)).1.length = j := by rw [evEs_len, cn]; omega
   obtain ⟨u0, hu0⟩ := three_get (eC c.wd c.ln c.ds R L (l.take j)).1 j3
   have c4 : W4.cell? ⟨W.heap.size + 1, j, ag⟩ = ac (.int .u64 u0) := (aA hb4 j).trans hu0
   have f4 := aI hb4 j
   have HN := I (show MAt c R L (T ++ (eC c.wd c.ln c.ds R L (l.take (j + 1))).2) (W4.setCell ⟨W.heap.size + 1, j, ag⟩ (.int .u64 (evE c.wd c.ln c.ds R L y').1)) /\ Kt [84, 101] ag X (W4.setCell ⟨W.heap.size + 1, j, ag⟩ (.int .u64 (evE c.wd c.ln c.ds R L y').1)) /\ (W4.setCell ⟨W.heap.size + 1, j, ag⟩ (.int .u64 (evE c.wd c.ln c.ds R L y').1)).heap[W.heap.size + 1]? = ac (.cells (three (eC c.wd c.ln c.ds R L (l.take (j + 1))).1) 218 (0, 0)) from by
    rw [TK2]
    refine ⟨?_, ?_, ?_⟩
    ·rw [<- dr]
     exact hm4.other hb4 (by decide) (by have := HLW.out; omega) _ _
    ·exact ((HK.out.2.1.trans (Kt.of_below ((aq _ _).alloc (ar _) _) _ _)).trans hk4).set_new (by have := HX.out.2.2; omega) _ _
    ·rw [<- three_set _ _ jl j3]
     exact bT hb4 j _)
   obtain ⟨v, hv⟩ : ∃ v, v = (evE c.wd c.ln c.ds R L y').1 := ⟨_, rfl⟩
   rw [<- hv] at HN ⊢
   have j0 : (0 : Int) <= (j : Int) := by omega
   have j3 : (j : Int) < 3 := by omega
   clear hb4 hu0 jl TK2 TW hm4 hk4 hv p0 p1 p2 p3 lw hj0
   go_wp2_with fail
   go_roundw
   case measure => simp [intOf]; omega
   case rel => exact ⟨j + 1, _, show _ = ba .i64 ((j + 1 : Nat) : Int) from by go_num, rfl, by omega, HN⟩
  ·have hjn : j = l.length := by have := hIn.out.2.2.2.2; omega
   have hK := HK.out
   rw [hjn, di] at hK
   obtain ⟨hm1, hkx, hbx⟩ := hK
   have hbe := hkx.blk _ _ _ _ HX.out.2.1 (by simp)
   have hlt2 : ¬ (j : Int) < (n : Int) := by omega
   have hu := evEs_u64 HS.out.1 HS.out.2.1 HS.out.2.2.1 l (fun y hy => HS.out.2.2.2.1.kid (hIn.out.2.2.2.1 ▸ hy))
   have hux := hu 0
   have huy := hu 1
   have huz := hu 2
   have hkd := HS.out.2.2.2.2.2.2.2
   rw [<- hIn.out.1] at hkd
   have hTl : T1.length < 1073741824 := by
    rw [HV.out.2.2.2, ay]
    have h1 := HS.out.2.2.2.2.1
    have h2 := jL c.wd c.ln c.ds R L l
    rw [eB, <- hIn.out.2.2.2.1] at h1
    omega
   unfold three at hbx
   rw [<- HV.out.2.2.2] at hm1
   rw [<- HV.out.1, <- HV.out.2.1, <- HV.out.2.2.1] at hbx
   rw [<- HV.out.1] at hux
   rw [<- HV.out.2.1] at huy
   rw [<- HV.out.2.2.1] at huz
   have hkk : k = 3 \/ (k = 4 \/ k = 5) \/ k = 26 \/ ((6 <= k /\ k <= 17) \/ k = 24) \/ ((18 <= k /\ k <= 23) \/ k = 25) := by have h1 := HK3.out; have h2 := hkd.2.1; omega
   have OUT := I (show ∀ g : G W2, Kt [84, 101] ag W g.W from fun g => ((Kt.of_below HX.out.1 _ _).trans hkx).trans (Kt.of_below g.below _ _))
   have HMG := I (show ∀ g : G W2, MAt c R L T1 g.W from fun g => hm1.below g.below)
   obtain ⟨vr, hmb, ts, hrt⟩ := hm1.hm
   have b0 : ∀ g : G W2, g.W.cell? ⟨W.heap.size, 0, ag⟩ = ac (.int .i64 k) := fun g => (aA (aB hbe g.below) 0).trans rfl
   have x0 : ∀ g : G W2, g.W.cell? ⟨W.heap.size + 1, 0, ag⟩ = ac (.int .u64 x) := fun g => (aA (aB hbx g.below) 0).trans rfl
   have x1 : ∀ g : G W2, g.W.cell? ⟨W.heap.size + 1, 1, ag⟩ = ac (.int .u64 y) := fun g => (aA (aB hbx g.below) 1).trans rfl
   have x2 : ∀ g : G W2, g.W.cell? ⟨W.heap.size + 1, 2, ag⟩ = ac (.int .u64 z) := fun g => (aA (aB hbx g.below) 2).trans rfl
   have m1 : ∀ g : G W2, g.W.cell? ⟨c.mb, 1, ag⟩ = ac (.int .i64 c.wd) := fun g => (aA (aB hmb g.below) 1).trans rfl
   have HZ := I (ae hux (ae huy (ae hTl (ae hm1 (ae hbe (ae hbx (ae hmb hrt)))))))
   have HWD := I HS.out.1.wd
   clear hux huy huz hTl hm1 hbe hbx hmb hrt hkx hu
   rcases hkk with hkk | hkk | hkk | hkk | hkk
   ·have HF := I (show l7 c.wd c.ln c.ds R 3 nm x y z = (dE R (dNo c.ds nm) (x % ((rowOf R (dNo c.ds nm)).length : Int)).toNat, [⟨2, dNo c.ds nm, x % ((rowOf R (dNo c.ds nm)).length : Int) / c.ln⟩]) from by unfold l7; rw [if_pos rfl])
    have hf : (bZ c.ds nm).isSome = af := by
     rw [hIn.out.2.2.1]
     exact HS.out.2.2.2.1.load (hIn.out.1 ▸ hkk)
    subst hkk
    have hd := find_lt hf
    have hlk : ∀ T' w1, MAt c R L T' w1 -> (ib 88 (.map (ac c.ab)) (.string nm) J).run ak w1 = .ok (.int .i64 (dNo c.ds nm : Int)) w1 := fun T' w1 h => h.look (by rw [hIn.out.2.2.1]; exact hsz) hf
    obtain ⟨d, hdd⟩ : ∃ d : Nat, d = dNo c.ds nm := ⟨_, rfl⟩
    rw [<- hdd] at hd hlk HF
    have hr1 := HS.out.1.row d hd
    have hr2 := HS.out.2.1.row d hd
    obtain ⟨n2, hn2⟩ : ∃ n, n = (rowOf R d).length := ⟨_, rfl⟩
    rw [<- hn2] at hr2 HF
    obtain ⟨j2, hj2⟩ := dn (Int.emod_nonneg x (show (n2 : Int) ≠ 0 by omega))
    obtain ⟨bb, hbb⟩ : ∃ b, b = (ts.getD d zSl).1 := ⟨_, rfl⟩
    have hdR : d < R.length := by rw [HS.out.2.1.len]; exact hd
    have hj2n : j2 < n2 := by have := jw x (show (0 : Int) < (n2 : Int) by omega); omega
    have HBW := I (show ∀ w1, Kt [84, 101] ag W2 w1 -> w1.cell? ⟨bb, j2, ag⟩ = ac (.int .u64 (dE R d j2)) from fun w1 hk => by
     obtain ⟨A1, cap1, c1, _, _, _, _, hcell⟩ := (HZ.out.2.2.2.2.2.2.2.kt hk (by simp) (by simp)).at' hdR
     rw [hbb]; exact (hcell j2 (by rw [<- hn2]; exact hj2n)).1)
    have HBB := I hbb
    have HP := I (ae hd (ae hn2 (ae (show 1 <= n2 /\ n2 <= 65536 by omega) hj2)))
    rw [hj2] at HF
    have HSK := I (show ∀ T' w1, MAt c R L T' w1 -> Kt [84, 101] ag W2 w1 -> w1.cell? ⟨c.mb, 5, ag⟩ = ac (.map (ac c.ab)) /\ w1.cell? ⟨W.heap.size, 2, ag⟩ = ac (.string nm) /\ w1.cell? ⟨W.heap.size + 1, 0, ag⟩ = ac (.int .u64 x) /\ (ib 88 (.map (ac c.ab)) (.string nm) J).run ak w1 = .ok (.int .i64 (d : Int)) w1 /\ w1.cell? ⟨bb, j2, ag⟩ = ac (.int .u64 (dE R d j2)) from fun T' w1 h hk => ⟨(hk.cell HZ.out.2.2.2.2.2.2.1 (by simp) 5).trans rfl, (hk.cell HZ.out.2.2.2.2.1 (by simp) 2).trans rfl, (hk.cell HZ.out.2.2.2.2.2.1 (by simp) 0).trans rfl, hlk T' w1 h, HBW.out w1 hk⟩)
    have HMD := I (show MAt c R L T1 W2.drew /\ Kt [84, 101] ag W2 W2.drew from ⟨HZ.out.2.2.2.1.below (aq _ _).drew, Kt.of_below (aq _ _).drew _ _⟩)
    obtain ⟨s5, s2, s0, sl, sb⟩ := HSK.out _ _ HMD.out.1 HMD.out.2
    have b00 : W2.cell? ⟨W.heap.size, 0, ag⟩ = ac (.int .i64 3) := (aA HZ.out.2.2.2.2.1 0).trans rfl
    clear hd hr1 hr2 hn2 hj2 hdd hf hlk hbb hdR hj2n
    go_wp2_with fail
    go_region_held3 (fun w' => w'.cell? ⟨c.mb, 5, ag⟩ = ac (.map (ac c.ab)) /\ w'.cell? ⟨W.heap.size, 2, ag⟩ = ac (.string nm) /\ w'.cell? ⟨W.heap.size + 1, 0, ag⟩ = ac (.int .u64 x) /\ (ib 88 (.map (ac c.ab)) (.string nm) J).run ak w' = .ok (.int .i64 (d : Int)) w' /\ w'.cell? ⟨bb, j2, ag⟩ = ac (.int .u64 (dE R d j2)))
     (first | exact HSK.out _ _ HMD.out.1 HMD.out.2 | exact HSK.out _ _ hm1 hk1 | go_keep)
     (first | (go_at_call 116; refine (rL c W2.drew HMD.out.1 (HMD.out.2.blk _ _ _ _ HZ.out.2.2.2.2.2.2.1 (by simp)) (HZ.out.2.2.2.2.2.2.2.kt HMD.out.2 (by simp) (by simp)) 2 x d n2 j2 bb HBB.out (by rw [HS.out.2.1.len]; exact HP.out.1) HP.out.2.1.symm HP.out.2.2.1.1 HP.out.2.2.1.2 HZ.out.1.1 HP.out.2.2.2 (by have := HS.out.2.1.len; have := HS.out.1.few; omega) HS.out.1.ln.1 (by have := HS.out.1.ln.2; omega) HZ.out.2.2.1).mono ?_; rintro _ w1 ⟨rfl, hm1, hk1, hc1, _, _⟩; have hk1 := hk1.undrew))
    have HE := I (ae hm1 hk1)
    clear hm1 hk1 hc1 s5 s2 s0 sl sb
    go_wp2_with fail
    go_ret
    simp only [HF.out, av]
    exact ⟨rfl, HE.out.1, (OUT.out ⟨W2, aq _ _⟩).trans HE.out.2⟩
   ·have HF := I (fin45 c.wd c.ln c.ds R hkk nm x y z)
    obtain ⟨a, ha, ha2⟩ := HZ.out.1.nat
    obtain ⟨m, hm, hm2⟩ := HWD.out
    have HA := I (ae ha2 (show 1 <= c.wd /\ c.wd <= 64 from by have := hm2.le; omega))
    subst ha
    clear ha2 hm hm2
    rcases hkk with rfl | rfl
    ·refine aH ?_
     intro gg
     go_wp2_with fail
     refine bX (by kernel_rfl) (by kernel_rfl) ?_
     repeat (go_big_quiet_step (first | (go_at_call 158; exact aD (un15 c.wd HA.out.2.1 HA.out.2.2 a HA.out.1 _))))
     refine wpQuiet_nil ?_
     rintro _ ⟨gg, rfl⟩
     go_wp2_with fail
     go_ret
     simp only [HF.out, df]
     exact ⟨rfl, HMG.out gg, OUT.out gg⟩
    ·refine aH ?_
     intro gg
     go_wp2_with fail
     refine bX (by kernel_rfl) (by kernel_rfl) ?_
     repeat (go_big_quiet_step (first | (go_at_call 158; exact aD (un16 c.wd HA.out.2.1 HA.out.2.2 a HA.out.1 _))))
     refine wpQuiet_nil ?_
     rintro _ ⟨gg, rfl⟩
     go_wp2_with fail
     go_ret
     simp only [HF.out, df]
     exact ⟨rfl, HMG.out gg, OUT.out gg⟩
   ·subst hkk
    refine aH ?_
    intro gg
    by_cases hx : x = 0
    ·subst hx
     go_wp2_with fail
     go_ret
     simp only [fin26, df]
     exact ⟨rfl, HMG.out gg, OUT.out gg⟩
    ·have hx2 : (x == 0) = J := beq_eq_false_iff_ne.2 hx
     go_wp2_with fail
     go_ret
     simp only [fin26, df]
     exact ⟨by rw [if_pos hx]; rfl, HMG.out gg, OUT.out gg⟩
   ·have HF := I (finBin c.wd c.ln c.ds R hkk nm x y z)
    have HO := I (ae (opK_in hkk) (ae hkk (show 6 <= k /\ k <= 25 by omega)))
    have ho := (opK_in hkk).1
    have k3 : (k == 3) = J := beq_eq_false_iff_ne.2 (by omega)
    have k4 : (k == 4) = J := beq_eq_false_iff_ne.2 (by omega)
    have k5 : (k == 5) = J := beq_eq_false_iff_ne.2 (by omega)
    have k26 : (k == 26) = J := beq_eq_false_iff_ne.2 (by omega)
    obtain ⟨op, hop⟩ : ∃ op, op = opK k := ⟨_, rfl⟩
    have hop0 : (op == 0) = J := beq_eq_false_iff_ne.2 (by omega)
    have HOP := I hop
    by_cases h78 : k = 7 \/ k = 8
    ·have H78 := I h78
     have HSK := I (show ∀ w1, Kt [84, 101] ag W2 w1 -> w1.cell? ⟨c.mb, 8, ag⟩ = ac (.iface 80 (.pointer (ac ⟨c.eb, 0, ag⟩))) /\ w1.cell? ⟨W.heap.size + 1, 0, ag⟩ = ac (.int .u64 x) /\ w1.cell? ⟨W.heap.size + 1, 1, ag⟩ = ac (.int .u64 y) from fun w1 hk => ⟨(hk.cell HZ.out.2.2.2.2.2.2.1 (by simp) 8).trans rfl, (hk.cell HZ.out.2.2.2.2.2.1 (by simp) 0).trans rfl, (hk.cell HZ.out.2.2.2.2.2.1 (by simp) 1).trans rfl⟩)
     obtain ⟨s8, s0, s1⟩ := HSK.out W2 (Kt.refl _ _ _)
     have hmt := kZ c.eb
     clear hkk ho hop
     rcases h78 with hk7 | hk7
     all_goals (
      subst hk7
      have b00 : W2.cell? ⟨W.heap.size, 0, ag⟩ = ac (.int .i64 _) := (aA HZ.out.2.2.2.2.1 0).trans rfl
      go_wp2_with fail
      go_region_held3 (fun w' => w'.cell? ⟨c.mb, 8, ag⟩ = ac (.iface 80 (.pointer (ac ⟨c.eb, 0, ag⟩))) /\ w'.cell? ⟨W.heap.size + 1, 0, ag⟩ = ac (.int .u64 x) /\ w'.cell? ⟨W.heap.size + 1, 1, ag⟩ = ac (.int .u64 y))
       (first | go_keep | exact HSK.out _ hk1)
       (first | (go_at_call 310; refine (kW c W2.drew 4 x y (HZ.out.2.2.2.1.he.below (aq _ _).drew) HZ.out.2.2.2.1.low.drew HZ.out.2.2.2.1.base.2.1 HZ.out.2.2.1).mono ?_; rintro _ w1 ⟨rfl, he1, hk1, hb1⟩; have hk1 := hk1.undrew))
      have HE := I (ae (HZ.out.2.2.2.1.seen hk1 (by simp) (by simp) (by simp) hb1 he1) (ae ((OUT.out (mkG (aq W2.heap.size W2))).trans hk1) (ae (hk1.blk _ _ _ _ HZ.out.2.2.2.2.1 (by simp)) (ae (hk1.blk _ _ _ _ HZ.out.2.2.2.2.2.1 (by simp)) (hk1.blk _ _ _ _ HZ.out.2.2.2.2.2.2.1 (by simp))))))
      clear hk1 he1 hb1 s8 s0 s1 hmt b00 b0 x0 x1 x2 m1
      have b00 : w1.cell? ⟨W.heap.size, 0, ag⟩ = ac (.int .i64 _) := (aA HE.out.2.2.1 0).trans rfl
      have x0 : ∀ g : G w1, g.W.cell? ⟨W.heap.size + 1, 0, ag⟩ = ac (.int .u64 x) := fun g => (aA (aB HE.out.2.2.2.1 g.below) 0).trans rfl
      have x1 : ∀ g : G w1, g.W.cell? ⟨W.heap.size + 1, 1, ag⟩ = ac (.int .u64 y) := fun g => (aA (aB HE.out.2.2.2.1 g.below) 1).trans rfl
      have m1 : ∀ g : G w1, g.W.cell? ⟨c.mb, 1, ag⟩ = ac (.int .i64 c.wd) := fun g => (aA (aB HE.out.2.2.2.2 g.below) 1).trans rfl
      go_wp2_with fail
      refine (two_v HOP.out w1 HO.out.2.2.1 HO.out.2.2.2).mono ?_
      rintro _ w9 ⟨rfl, hb⟩
      obtain ⟨gg, rfl⟩ : ∃ g : G w1, w9 = g.W := ⟨mkG hb, rfl⟩
      clear hb b00
      go_wp2_with fail
      refine bX (by kernel_rfl) (by kernel_rfl) ?_
      repeat (go_big_quiet_step (first | (go_at_call 160; rw [HOP.out]; exact aD (bin_v _ HWD.out HO.out.1 HZ.out.1 HZ.out.2.1 _))))
      refine wpQuiet_nil ?_
      rintro _ ⟨gg, rfl⟩
      go_wp2_with fail
      go_ret
      simp only [HF.out, if_pos H78.out]
      exact ⟨rfl, HE.out.1.below gg.below, HE.out.2.1.trans (Kt.of_below gg.below _ _)⟩)
    ·have HN := I h78
     have k7 : (k == 7) = J := beq_eq_false_iff_ne.2 (by omega)
     have k8 : (k == 8) = J := beq_eq_false_iff_ne.2 (by omega)
     clear hkk ho h78 hop
     refine aH ?_
     intro gg
     go_wp2_with fail
     refine (aD (g := gg) (two_v HOP.out gg.W HO.out.2.2.1 HO.out.2.2.2)).mono ?_
     rintro _ _ ⟨rfl, gg, rfl⟩
     go_wp2_with fail
     refine bX (by kernel_rfl) (by kernel_rfl) ?_
     repeat (go_big_quiet_step (first | (go_at_call 160; rw [HOP.out]; exact aD (bin_v k HWD.out HO.out.1 HZ.out.1 HZ.out.2.1 _))))
     refine wpQuiet_nil ?_
     rintro _ ⟨gg, rfl⟩
     go_wp2_with fail
     go_ret
     simp only [HF.out, if_neg HN.out, df]
     exact ⟨rfl, HMG.out gg, OUT.out gg⟩
   ·have HF := I (finCmp c.wd c.ln c.ds R hkk nm x y z)
    have HO := I (ae (opK_no hkk) (ae hkk (show 6 <= k /\ k <= 25 by omega)))
    have k3 : (k == 3) = J := beq_eq_false_iff_ne.2 (by omega)
    have k4 : (k == 4) = J := beq_eq_false_iff_ne.2 (by omega)
    have k5 : (k == 5) = J := beq_eq_false_iff_ne.2 (by omega)
    have k26 : (k == 26) = J := beq_eq_false_iff_ne.2 (by omega)
    have k7 : (k == 7) = J := beq_eq_false_iff_ne.2 (by omega)
    have k8 : (k == 8) = J := beq_eq_false_iff_ne.2 (by omega)
    clear hkk
    refine aH ?_
    intro gg
    go_wp2_with fail
    refine (aD (g := gg) (two_v HO.out.1.symm gg.W HO.out.2.2.1 HO.out.2.2.2)).mono ?_
    rintro _ _ ⟨rfl, gg, rfl⟩
    go_wp2_with fail
    refine (aD (g := gg) (cmp_v c gg.W (HMG.out gg) HO.out.2.1 HZ.out.1 HZ.out.2.1 HWD.out)).mono ?_
    rintro _ _ ⟨rfl, gg, rfl⟩
    go_wp2_with fail
    go_ret
    simp only [HF.out, df]
    exact ⟨rfl, HMG.out gg, OUT.out gg⟩
theorem lD (c : Cfg) (hs : SOK c.wd c.ln c.ds) : ∀ (n : Nat) (e : S116), cd e <= n -> 1 <= e.f0 -> ExprM c e := by
 intro n
 induction n with
 | zero => intro e h; obtain ⟨a, b, s, l⟩ := e; simp at h
 | succ n ih =>
   intro e h h1
   by_cases k1 : e.f0 = 1
   ·exact expr_num c e k1
   by_cases k2 : e.f0 = 2
   ·exact expr_name c hs e k2
   ·refine expr_rest c hs e (by omega) fun y hy => ?_
    intro W R L T A cap hM hR hL hE hT hC hcap
    exact ih y (eK rfl hy h) hE.kind.1 W R L T A cap hM hR hL hE hT hC hcap
def ForOK : Th -> Prop
 | .stmt s _ _ => s.f0 = 4 -> s.f4 <= s.f5
 | _ => True
structure TOK (ds : List S70) (L : List (ByteArray × Int)) (x : S119) : Prop where
 form : stB x = af
 good : Ot.jE x
 th : ∃ d, L.length < d /\ ∀ t ∈ stTh x d (L.map (·.1)), qZ t = J /\ jF ds t = J /\ mY ds t = J /\ lP ds t = J /\ ForOK t
theorem TOK.own {ds : List S70} {L : List (ByteArray × Int)} {x : S119} (h : TOK ds L x) : 1 <= x.f0 /\ x.f0 <= 5 /\ x.f1.size <= maxLen /\ L.length < 64 /\ U64 x.f4 /\ U64 x.f5 := by
 have h1 := h.form
 rw [nT, bo, bo] at h1
 have h2 := h1.1.1
 unfold aX at h2
 simp only [bo, decide_eq_true_eq] at h2
 obtain ⟨d, hd, ht⟩ := h.th
 have hs := (ht (.stmt x d (L.map (·.1))) (by rw [dR]; exact ji)).1
 have hg := h.good
 obtain ⟨a, s, e, f, lo, hi, th, el⟩ := x
 rw [Ot.jE] at hg
 obtain ⟨n1, e1, l1⟩ := wf_u64 hg.2.2.2.2.1
 obtain ⟨n2, e2, l2⟩ := wf_u64 hg.2.2.2.2.2.1
 refine ⟨h2.1.1.1.1.1.1.1, h2.1.1.1.1.1.1.2, bh hg.2.1 (by unfold maxLen; omega), ?_, ?_, ?_⟩
 ·unfold qZ at hs
  simp only [decide_eq_false_iff_not] at hs
  omega
 ·show U64 lo
  rw [e1]; exact n9 l1
 ·show U64 hi
  rw [e2]; exact n9 l2
theorem TOK.use {ds : List S70} {L : List (ByteArray × Int)} {x : S119} (h : TOK ds L x) (hk : x.f0 = 1 \/ x.f0 = 2 \/ x.f0 = 5) : (bZ ds x.f1).isSome = af := by
 obtain ⟨d, hd, ht⟩ := h.th
 obtain ⟨_, h1, h2, _⟩ := ht (.stmt x d (L.map (·.1))) (by rw [dR]; exact ji)
 have hu : iO (.stmt x d (L.map (·.1))) = ac x.f1 := by unfold iO; exact if_pos hk
 unfold jF at h1
 unfold mY at h2
 rw [hu] at h1 h2
 simp only [gF] at h1
 cases hl : iC (L.map (·.1)) x.f1 with
 | true =>
   have e3 : oH ds (.stmt x d (L.map (·.1))) x.f1 = nW (.stmt x d (L.map (·.1))) := if_pos hl
   replace h2 : (!oH ds (.stmt x d (L.map (·.1))) x.f1) = J := h2
   rw [e3] at h2
   cases h2
 | false =>
   rw [hl] at h1
   cases hf : bZ ds x.f1 with
   | none => rw [hf] at h1; simp at h1
   | some i => rfl
theorem TOK.at' {ds : List S70} {L : List (ByteArray × Int)} {x : S119} (h : TOK ds L x) (hk : x.f0 = 2) : EOK ds (L.map (·.1)) x.f2 := by
 have h1 := h.form
 rw [nT, bo, bo] at h1
 have h2 := h1.1.1
 unfold aX at h2
 simp only [bo] at h2
 obtain ⟨d, hd, ht⟩ := h.th
 refine ⟨?_, ?_, fun t hm => ?_⟩
 ·have := h2.1.1.1.1.2
  rwa [if_pos hk] at this
 ·have hg := h.good
  obtain ⟨a, s, e, f, lo, hi, th, el⟩ := x
  rw [Ot.jE] at hg
  exact hg.2.2.1
 ·have := ht t (by rw [dR, if_pos hk]; simp [hm])
  exact ⟨this.2.1, this.2.2.1⟩
theorem TOK.e' {ds : List S70} {L : List (ByteArray × Int)} {x : S119} (h : TOK ds L x) (hk : x.f0 = 1 \/ x.f0 = 2 \/ x.f0 = 3) : EOK ds (L.map (·.1)) x.f3 := by
 have h1 := h.form
 rw [nT, bo, bo] at h1
 have h2 := h1.1.1
 unfold aX at h2
 simp only [bo] at h2
 obtain ⟨d, hd, ht⟩ := h.th
 refine ⟨?_, ?_, fun t hm => ?_⟩
 ·have := h2.1.1.1.2
  rwa [if_pos (by omega)] at this
 ·have hg := h.good
  obtain ⟨a, s, e, f, lo, hi, th, el⟩ := x
  rw [Ot.jE] at hg
  exact hg.2.2.2.1
 ·have := ht t (by rw [dR, if_pos hk]; simp [hm])
  exact ⟨this.2.1, this.2.2.1⟩
theorem mB {l : List S119} {y : S119} (hy : y ∈ l) (d : Nat) (lo : List ByteArray) {t : Th} (ht : t ∈ stTh y d lo) : t ∈ aL l d lo := by
 induction l with
 | nil => cases hy
 | cons x r ih =>
   rw [aL]
   rcases gi.1 hy with rfl | hy
   ·exact List.mem_append_left _ ht
   ·exact List.mem_append_right _ (ih hy)
theorem bdB_mem {l : List S119} (h : bdB l = af) {y : S119} (hy : y ∈ l) : stB y = af := by
 rw [kQ] at h
 exact dz.1 h y hy
theorem TOK.inner {ds : List S70} {L : List (ByteArray × Int)} {x : S119} (h : TOK ds L x) {y : S119} (hy : y ∈ x.f6 \/ y ∈ x.f7) (hk : x.f0 ≠ 4) : TOK ds L y := by
 have h1 := h.form
 rw [nT, bo, bo] at h1
 obtain ⟨d, hd, ht⟩ := h.th
 refine ⟨?_, ?_, d + 1, by omega, fun t hm => ht t ?_⟩
 ·rcases hy with hy | hy
  ·exact bdB_mem h1.1.2 hy
  ·exact bdB_mem h1.2 hy
 ·have hg := h.good
  obtain ⟨a, s, e, f, lo, hi, th, el⟩ := x
  rw [Ot.jE] at hg
  rcases hy with hy | hy
  ·exact (Ot.cO th).1 hg.2.2.2.2.2.2.2.2.1 y hy
  ·exact (Ot.cO el).1 hg.2.2.2.2.2.2.2.2.2 y hy
 ·rw [dR]
  have e : inLoop x.f0 x.f1 (L.map (·.1)) = L.map (·.1) := if_neg hk
  rw [e]
  rcases hy with hy | hy
  ·have := mB hy (d + 1) _ hm
   simp [this]
  ·have := mB hy (d + 1) _ hm
   simp [this]
theorem TOK.loop {ds : List S70} {L : List (ByteArray × Int)} {x : S119} (h : TOK ds L x) (hk : x.f0 = 4) (v : Int) {y : S119} (hy : y ∈ x.f6) : TOK ds (L ++ [(x.f1, v)]) y := by
 have h1 := h.form
 rw [nT, bo, bo] at h1
 obtain ⟨d, hd, ht⟩ := h.th
 refine ⟨bdB_mem h1.1.2 hy, ?_, d + 1, by simp; omega, fun t hm => ht t ?_⟩
 ·have hg := h.good
  obtain ⟨a, s, e, f, lo, hi, th, el⟩ := x
  rw [Ot.jE] at hg
  exact (Ot.cO th).1 hg.2.2.2.2.2.2.2.2.1 y hy
 ·rw [dR]
  have e : inLoop x.f0 x.f1 (L.map (·.1)) = L.map (·.1) ++ [x.f1] := if_pos hk
  rw [e]
  rw [fg] at hm
  have := mB hy (d + 1) _ hm
  simp only [cm, cw] at this
  simp [this]
theorem TOK.new {ds : List S70} {L : List (ByteArray × Int)} {x : S119} (h : TOK ds L x) (hk : x.f0 = 4) : iC (L.map (·.1)) x.f1 = J := by
 obtain ⟨d, hd, ht⟩ := h.th
 obtain ⟨_, _, _, h2, _⟩ := ht (.stmt x d (L.map (·.1))) (by rw [dR]; exact ji)
 unfold lP at h2
 simp [hk] at h2
 exact h2.2
theorem TOK.bounds {ds : List S70} {L : List (ByteArray × Int)} {x : S119} (h : TOK ds L x) (hk : x.f0 = 4) : x.f4 <= x.f5 := by
 obtain ⟨d, hd, ht⟩ := h.th
 exact (ht (.stmt x d (L.map (·.1))) (by rw [dR]; exact ji)).2.2.2.2 hk
theorem ROK.put {ds : List S70} {R : List (List Int)} (h : ROK ds R) (d k : Nat) {v : Int} (hv : U64 v) : ROK ds (oW R d k v) := by
 have hrow : ∀ i, (rowOf (oW R d k v) i).length = (rowOf R i).length /\ ∀ j, U64 ((rowOf (oW R d k v) i).getD j 0) := by
  intro i
  have hw := fun j => h.word i j
  unfold dE at hw
  unfold rowOf oW at *
  rw [au, kn]
  by_cases hi : d = i
  ·subst hi
   rw [if_pos rfl]
   by_cases hd : d < R.length
   ·rw [if_pos hd]
    refine ⟨by simp [rowOf], fun j => ?_⟩
    show U64 (((rowOf R d).set k v).getD j 0)
    rw [au, kn]
    split
    ·split
     ·exact hv
     ·exact ⟨by decide, by decide⟩
    ·have := hw j
     rw [au] at this
     exact this
   ·rw [if_neg hd]
    have e : R.getD d [] = [] := by rw [au, ed (by omega)]; rfl
    rw [e]
    exact ⟨rfl, fun j => ⟨by simp, by simp⟩⟩
  ·rw [if_neg hi]
   exact ⟨by rw [au], fun j => by have := hw j; rw [au (l := R)] at this; exact this⟩
 exact ⟨by simp [oW, h.len], fun i hi => by rw [(hrow i).1]; exact h.row i hi, fun i k => (hrow i).2 k⟩
end Go.Proofs.YtfigjpehecibeaaGreat.L
namespace Go.Proofs.YtfigjpehecibeaaGreat.L
open Go.RowKit Go.Proofs.YtfigjpehecibeaaGreatW.PrintWords Go.Proofs.YtfigjpehecibeaaGreatW.PrintLast Go.Proofs.YtfigjpehecibeaaGreatW.PrintMore
section
attribute [local go_sem] iX gY kS j9 gQ gO iV iZ
def bits_Mul64.f (a0 : Int) (a1 : Int) : Option (Int × Int) := ac (IntKind.u64.wrap ((IntKind.u64.wrap ((IntKind.u64.wrap ((a0 / 4294967296) * (a1 / 4294967296))) + ((IntKind.u64.wrap ((IntKind.u64.wrap ((a0 / 4294967296) * (Go.bits .and .u64 a1 4294967295))) + ((IntKind.u64.wrap ((Go.bits .and .u64 a0 4294967295) * (Go.bits .and .u64 a1 4294967295))) / 4294967296))) / 4294967296))) + ((IntKind.u64.wrap ((Go.bits .and .u64 (IntKind.u64.wrap ((IntKind.u64.wrap ((a0 / 4294967296) * (Go.bits .and .u64 a1 4294967295))) + ((IntKind.u64.wrap ((Go.bits .and .u64 a0 4294967295) * (Go.bits .and .u64 a1 4294967295))) / 4294967296))) 4294967295) + (IntKind.u64.wrap ((Go.bits .and .u64 a0 4294967295) * (a1 / 4294967296))))) / 4294967296)), IntKind.u64.wrap (a0 * a1))
set_option maxRecDepth 100000 in
theorem bits_Mul64.calls (a0 : Int) (a1 : Int) (r1 : Int) (r2 : Int) (w : World) (h : bits_Mul64.f a0 a1 = ac (r1, r2)) :
 Calls ak 154 #[.int .u64 a0, .int .u64 a1] w fun e w' => e = .returned (.tuple #[.int .u64 r1, .int .u64 r2]) /\ Drawn0 w w' := by
 have H : (ac (IntKind.u64.wrap ((IntKind.u64.wrap ((IntKind.u64.wrap ((a0 / 4294967296) * (a1 / 4294967296))) + ((IntKind.u64.wrap ((IntKind.u64.wrap ((a0 / 4294967296) * (Go.bits .and .u64 a1 4294967295))) + ((IntKind.u64.wrap ((Go.bits .and .u64 a0 4294967295) * (Go.bits .and .u64 a1 4294967295))) / 4294967296))) / 4294967296))) + ((IntKind.u64.wrap ((Go.bits .and .u64 (IntKind.u64.wrap ((IntKind.u64.wrap ((a0 / 4294967296) * (Go.bits .and .u64 a1 4294967295))) + ((IntKind.u64.wrap ((Go.bits .and .u64 a0 4294967295) * (Go.bits .and .u64 a1 4294967295))) / 4294967296))) 4294967295) + (IntKind.u64.wrap ((Go.bits .and .u64 a0 4294967295) * (a1 / 4294967296))))) / 4294967296)), IntKind.u64.wrap (a0 * a1))) = ac (r1, r2) := h
 clear h
 simp only [Option.some.injEq, Prod.mk.injEq] at H
 obtain ⟨rfl, rfl⟩ := H
 go_enter Tryz.func154, Tryz.ntmps154
 go_wp2
 go_ret2
 exact ⟨by first | rfl | (simp; done) | (simp [*]; done), by repeat (first | exact cz _ | apply da)⟩
def bits_Mul.f (a0 : Int) (a1 : Int) : Option (Int × Int) := (bits_Mul64.f a0 a1).bind fun bt131 => (ac (bt131.1, bt131.2))
set_option maxRecDepth 100000 in
theorem bits_Mul.calls (a0 : Int) (a1 : Int) (r1 : Int) (r2 : Int) (w : World) (h : bits_Mul.f a0 a1 = ac (r1, r2)) :
 Calls ak 113 #[.int .u64 a0, .int .u64 a1] w fun e w' => e = .returned (.tuple #[.int .u64 r1, .int .u64 r2]) /\ Drawn0 w w' := by
 have H : ((bits_Mul64.f a0 a1).bind fun bt131 => (ac (bt131.1, bt131.2))) = ac (r1, r2) := h
 clear h
 replace H := Option.bind_eq_some_iff.mp H
 obtain ⟨⟨t131, t132⟩, A30, H⟩ := H
 replace H : (ac (t131, t132)) = ac (r1, r2) := H
 have A3 := I A30
 clear A30
 simp only [Option.some.injEq, Prod.mk.injEq] at H
 obtain ⟨rfl, rfl⟩ := H
 go_enter Tryz.func113, Tryz.ntmps113
 go_wp2_with (first | ((with_reducible refine eF (f := 154) rfl ?_); refine mD (ac 25) rfl rfl Tryz.func154 (by kernel_rfl) rfl #[.int .u64 a0, .int .u64 a1] rfl (by (try simp only [cb, cm, cw]); first | done | rfl | (simp only [dx, cn]; rfl)) ?_; (with_reducible refine (bits_Mul64.calls a0 a1 t131 t132 _ A3.out).mono ?_); rintro e w' ⟨rfl, ⟨nd, rfl⟩⟩; refine ⟨_, rfl, ?_⟩))
 go_ret2
 exact ⟨by first | rfl | (simp; done) | (simp [*]; done), by repeat (first | exact cz _ | apply da)⟩
end
theorem mul_one (n : Nat) (h : n <= 256) : bits_Mul.f 1 (n : Int) = ac (0, (n : Int)) := by
 have key : ∀ i : Fin 257, bits_Mul.f 1 ((i.val : Nat) : Int) = ac (0, ((i.val : Nat) : Int)) := by decide +kernel
 exact key ⟨n, by omega⟩
theorem splice_take {α : Type} {L cs : List α} {k n : Nat} (h : k + cs.length <= n) (hn : n <= L.length) : (splice L k cs).take n = splice (L.take n) k cs := by
 apply List.ext_getElem?
 intro i
 unfold splice
 simp only [jt, List.getElem?_append, cn, List.getElem?_drop]
 repeat' split
 all_goals first | rfl | omega | (congr 1; omega) | (exfalso; omega) | (rw [ed (by omega)])
theorem rep_copy (b : Bool) {n k : Nat} (h1 : 1 <= k) (h2 : k < n) : splice (bu k (ia b) ++ bu (n - k) (ia J)) k (bu (min k (n - k)) (ia b)) = bu (k + min k (n - k)) (ia b) ++ bu (n - (k + min k (n - k))) (ia J) := by
 unfold splice
 rw [ke (by simp), ku (by simp), iz, List.drop_append, jp (by simp), List.nil_append, <- dr, List.replicate_append_replicate]
 congr 1
 rw [List.drop_replicate, iz]
 congr 1
 omega
set_option maxRecDepth 100000 in
theorem nV (b : Bool) (n : Nat) (h1 : 1 <= n) (h2 : n <= 256) (A : Option Addr) (c : Nat) (w : World) (hr : Kd.C Kd.bool w A 1 [b]) (hc : 1 <= c) :
 Calls ak 62 #[.slice A 1 c, .int .i64 (n : Int)] w fun e w' => ∃ v, e = .returned v /\ Kd.R Kd.bool 4 w' w.heap.size (fun _ => True) v (bu n b) /\ Below w.heap.size w w' := by
 have HR := I (ae hr hc)
 clear hr hc
 have n0 : ¬ (n : Int) < 0 := by omega
 have e1 : IntKind.u64.wrap (n : Int) = (n : Int) := by unfold IntKind.wrap; simp [jg, ik]; omega
 have HM := I (mul_one n h2)
 have HN := I (ae h1 h2)
 go_enter Tryz.func62, Tryz.ntmps62
 go_upto_region 7 with (first
  | (go_at_call 113; refine (bits_Mul.calls 1 (n : Int) 0 (n : Int) _ HM.out).mono ?_; rintro e w1 ⟨rfl, hd⟩; have HD := I hd; clear hd)
  | (refine Kd.R_make Kd.bool (w0 := w) w.heap.size 4 rfl rfl 30 (.tmp 29) (.tmp 29) rfl (n : Int) rfl rfl Tryz.underlying30 (.bool J) 1 rfl rfl (by decide) (by decide) J (ok := fun _ => True) (okp := fun _ => True) rfl (fun _ h => h) trivial (by omega) (by omega) HD.out.below HD.out.below.size ?_; intro v1 w2 hr2 hb2 hg2 hat2; have R2 := I (ae hr2 hb2); clear hr2 hb2 hg2 hat2))
 have R3 := R2.out
 rw [av] at R3
 obtain ⟨Av, cv, ev⟩ := Kd.cD R3.1
 rw [iz] at ev
 subst ev
 go_wp2_with ((with_reducible refine eV (b := .copy) (xs := #[.tmp 31, .tmp 32]) rfl ?_); refine Kd.R_copy (enc := ia) (h1 := fun _ => rfl) J (w0 := w) w.heap.size (by rfl) (.tmp 31) (.tmp 32) 30 30 4 (by rfl) Tryz.underlying30 (by rfl) (.slice Av n cv) (bu n J) [b] A 1 c (fun _ => True) (by rfl) (by rfl) R3.1 (Kd.aF HR.out.1 R3.2) R3.2 R3.2.size ?_; intro w4 hr4 hb4 hg4)
 rw [iz] at hr4
 have q1 : min 1 n = 1 := by omega
 rw [q1] at hr4
 have R4 := I (ae hr4 hb4)
 clear hr4 hb4 hg4 R3
 go_loopw [8] (fun i W => ∃ k : Nat, i = .int .i64 k /\ 1 <= k /\ k <= n /\ Aside0 (Kd.R Kd.bool 4 W w.heap.size (fun _ => True) (.slice Av n cv) (bu k b ++ bu (n - k) J) /\ Below w.heap.size w W)) (fun i _ => n - (intOf i).toNat)
 case atStart => exact ⟨1, rfl, ar _, HN.out.1, ⟨by have h := R4.out.1; simp at h ⊢; exact h, R4.out.2⟩⟩
 case round =>
  obtain ⟨k, rfl, hk1, hk2, HK⟩ := hrel
  by_cases hlt : k < n
  ·obtain ⟨g, cur, e1, hbg, hcur, hnc, hcm, hcs, htk⟩ : ∃ (g : Nat) (cur : Array Value), Av = ac ⟨g, 0, ag⟩ /\ w.heap.size <= g /\ wr.heap[g]? = ac (.cells cur 4 (0, 0)) /\ n <= cv /\ cv <= maxLen /\ cur.size = cv * 1 /\ cur.toList.take n = gW ia (bu k b ++ bu (n - k) J) := by
    have ho := Kd.oR (enc := ia) (h1 := fun _ => rfl) HK.out.1
    have hlen : (bu k b ++ bu (n - k) J).length = n := by simp; omega
    rw [hlen] at ho
    rcases ho.2 with ⟨h, _⟩ | ⟨g, cap, cur, h, h3, h4, h5, h6, h7, h8⟩
    ·injection h with _ h _; omega
    ·injection h with ha hb hc
     subst ha hc
     exact ⟨g, cur, rfl, h3, h4, h5, h6, h7, by rw [gu] at h8; exact h8⟩
   subst e1
   have hl1 : (k : Int) < (n : Int) := by omega
   have hl2 : (0 : Int) <= (k : Int) := by omega
   have hl3 : (k : Int) <= (n : Int) := by omega
   have hl4 : (k : Int) <= (cv : Int) := by omega
   have HC := I (ae hcur (ae hnc (ae hcm (ae hcs htk))))
   clear hcur hcm hcs htk
   have hne : ¬ cv = k := by omega
   have F1 := I (show wr.drew.heap[g]? = ac (.cells cur.toList.toArray 4 (0, 0)) from by rw [Array.toArray_toList]; exact HC.out.1)
   have F2 := I (show ∀ (j : Nat) (v : Value), (bu (min k (n - k)) (ia b))[j]? = ac v -> wr.drew.cell? ((⟨g, 0, ag⟩ : Addr).add j) = ac v from by
    intro j v hj
    have hjl : j < min k (n - k) := by
     rcases gj j (min k (n - k)) with h | h
     ·exact h
     ·rw [ed (by simpa using h)] at hj; cases hj
    rw [List.getElem?_replicate, if_pos hjl] at hj
    have hcell : wr.drew.cell? ⟨g, 0 + j, ag⟩ = cur[j]? := by
     rw [cell_of_row wr.drew g _ cur 4 (0, 0) HC.out.1, Nat.zero_add]
    have hj2 : (cur.toList.take n)[j]? = ac (ia b) := by
     rw [HC.out.2.2.2.2]
     unfold gW
     rw [kg, je (by simp; omega), List.getElem?_replicate, if_pos (by omega)]
     rfl
    rw [jt, if_pos (by omega)] at hj2
    rw [Addr.add_lit, hcell, <- hj, <- Array.getElem?_toList]
    exact hj2)
   have F3 := I (show (bu (min k (n - k)) (ia b)).length = Nat.min k (n - k) from by simp)
   have F4 := I (show k + (bu (min k (n - k)) (ia b)).length <= cur.toList.length from by simp [HC.out.2.2.2.1]; omega)
   have F5 := I (show ∀ v ∈ bu (min k (n - k)) (ia b), v.oneCell' = af from fun v hv => by rw [(List.mem_replicate.1 hv).2]; rfl)
   have F6 := I (show Below w.heap.size w wr.drew from HK.out.2.drew)
   go_wp2_with fail
   go_region_law (refine step_copy_splice (by rfl) (.tmp 41) (.tmp 44) 30 30 (by rfl) 4 Tryz.underlying30 (by rfl) (ac ⟨g, k, ag⟩) (ac ⟨g, 0, ag⟩) (n - k) (cv - k) k cv (by simp [Act.eval, ax, hne]) (by simp [Act.eval, ax]) g k cur.toList 4 F1.out (bu (min k (n - k)) (ia b)) F3.out (fun _ => ⟨rfl, _, rfl, F2.out⟩) F4.out F5.out w.heap.size w F6.out hbg ?_; intro w5 h5 hb5)
   simp only [ax, aa, ah, ai, List.getElem_toArray, List.getElem_cons_succ, List.getElem_cons_zero]
   go_wp2_with fail
   have hw : IntKind.i64.wrap ((k : Int) + ((min k (n - k) : Nat) : Int)) = ((k + min k (n - k) : Nat) : Int) := by rw [IntKind.wrap_i64]; have := HN.out.2; omega
   have hln : (bu (k + min k (n - k)) b ++ bu (n - (k + min k (n - k))) J).length = n := by simp; omega
   refine ⟨⟨k + min k (n - k), by rw [hw], by omega, by omega, ⟨Kd.R_of_own (enc := ia) (h1 := fun _ => rfl) ?_ (fun _ _ => trivial), hb5⟩⟩, by rw [hw]; simp [intOf]; omega⟩
   rw [hln]
   refine ⟨by unfold gW; rw [List.length_map, hln, gu], .inr ⟨g, cv, _, rfl, hbg, h5, HC.out.2.1, HC.out.2.2.1, ?_, ?_⟩⟩
   ·rw [List.size_toArray, length_splice _ _ _ F4.out, Array.length_toList]; exact HC.out.2.2.2.1
   ·have hs : (splice cur.toList k (bu (min k (n - k)) (ia b))).take n = splice (cur.toList.take n) k (bu (min k (n - k)) (ia b)) := by
     exact splice_take (by simp; omega) (by rw [Array.length_toList, HC.out.2.2.2.1, gu]; exact HC.out.2.1)
    rw [gu, List.toList_toArray, hs, HC.out.2.2.2.2]
    have he : gW ia (bu k b ++ bu (n - k) J) = bu k (ia b) ++ bu (n - k) (ia J) := by unfold gW; rw [fg, List.map_replicate, List.map_replicate]
    rw [he, rep_copy b hk1 hlt]
    unfold gW
    rw [fg, List.map_replicate, List.map_replicate]
  ·have hkn : k = n := by omega
   have hl1 : ¬ (k : Int) < (n : Int) := by omega
   have HE := I (show Kd.R Kd.bool 4 wr w.heap.size (fun _ => True) (.slice Av n cv) (bu n b) from by have h := HK.out.1; rw [hkn, Nat.sub_self] at h; simpa using h)
   go_wp2_with fail
   go_ret
   exact ⟨_, rfl, HE.out, HK.out.2⟩
end Go.Proofs.YtfigjpehecibeaaGreat.L
namespace Go.Proofs.YtfigjpehecibeaaGreat.L
open Go.RowKit Go.Proofs.YtfigjpehecibeaaGreatW.PrintWords Go.Proofs.YtfigjpehecibeaaGreatW.PrintLast Go.Proofs.YtfigjpehecibeaaGreatW.PrintMore Go.Proofs.YtfigjpehecibeaaGreat.Gr
theorem info4 : (Tryz.prog.info? 4).map (fun i => (i.zero, i.size, i.bytes)) = ac (ac (.bool J), 1, 1) := by kernel_rfl
end Go.Proofs.YtfigjpehecibeaaGreat.L
namespace Go.Proofs.YtfigjpehecibeaaGreat.L
open Go.RowKit Go.Proofs.YtfigjpehecibeaaGreatW.PrintWords Go.Proofs.YtfigjpehecibeaaGreatW.PrintLast Go.Proofs.YtfigjpehecibeaaGreatW.PrintMore
section
attribute [local go_sem] iX gY kS j9 gQ gO iV iZ
def run_input.f (a0_0 : Int) (a0_1 : ByteArray) (a0_2 : Int) (l0_3 : List Int) : Option (Bool) := if a0_0 = 1 then (ac af) else (ac (a0_0 == 2))
set_option maxRecDepth 100000 in
theorem run_input.calls (a0_0 : Int) (a0_1 : ByteArray) (a0_2 : Int) (A0_3 : Option Addr) (c0_3 : Nat) (l0_3 : List Int) (r : Bool) (w : World) (hr0_3 : Kd.C (Kd.int .u64) w A0_3 l0_3.length l0_3) (hc0_3 : l0_3.length <= c0_3) (h : run_input.f a0_0 a0_1 a0_2 l0_3 = ac r) :
 Calls ak 61 #[.agg #[.int .i64 a0_0, .string a0_1, .int .i64 a0_2, .slice A0_3 l0_3.length c0_3]] w fun e w' => e = .returned (.bool r) /\ Below w.heap.size w w' := by
 have H := I h
 clear h hr0_3 hc0_3
 go_enter Tryz.func61, Tryz.ntmps61
 go_wp2
 all_goals (
  go_ret
  have h := H.out
  unfold run_input.f at h
  refine ⟨?_, by first | exact (aq _ _).alloc (ar _) _ | exact aq _ _ | (repeat (first | exact cz _ | apply da))⟩
  simp_all)
def run_words.f (a0_0 : Int) (a0_1 : ByteArray) (a0_2 : Int) (l0_3 : List Int) : Option (Int) := ac (mx a0_2 1)
set_option maxRecDepth 100000 in
theorem run_words.calls (a0_0 : Int) (a0_1 : ByteArray) (a0_2 : Int) (A0_3 : Option Addr) (c0_3 : Nat) (l0_3 : List Int) (r : Int) (w : World) (hr0_3 : Kd.C (Kd.int .u64) w A0_3 l0_3.length l0_3) (hc0_3 : l0_3.length <= c0_3) (h : run_words.f a0_0 a0_1 a0_2 l0_3 = ac r) :
 Calls ak 63 #[.agg #[.int .i64 a0_0, .string a0_1, .int .i64 a0_2, .slice A0_3 l0_3.length c0_3]] w fun e w' => e = .returned (.int .i64 r) /\ Below w.heap.size w w' := by
 have hu70 := Tryz.underlying70
 have HR0_3 := I hr0_3
 have HC0_3 := I hc0_3
 clear hr0_3 hc0_3
 have HB := I (aq w.heap.size w)
 have H : (ac (mx a0_2 1)) = ac r := h
 clear h
 obtain ⟨ji2, hji2⟩ : ∃ j_ : Int, (mx a0_2 1) = j_ := ⟨_, rfl⟩
 replace H : (ac ji2) = ac r := by first | (rw [hji2] at H; exact H) | (simp only [hji2] at H ⊢; exact H)
 (try (have hji2l : 1 <= ji2 := by (rw [<- hji2]; unfold mx; (repeat' split) <;> omega)))
 (try (have hji2m : 0 <= ji2 := by omega))
 have hji2_ : (if a0_2 < 1 then 1 else a0_2) = ji2 := hji2
 obtain rfl := ck H
 go_enter Tryz.func63, Tryz.ntmps63
 go_wp2_with (first | ((with_reducible refine o6 (N := 1) rfl ?_); refine pG ?hg (N := 1) ?hd (cs := #[.int .i64 a0_0, .string a0_1, .int .i64 a0_2, .slice A0_3 l0_3.length c0_3]) (t := 70) ?hr ?_; (case hd => rfl); (case hg => rfl); (case hr => first | (go_simp; done) | (go_simp; rfl)); intro gb133 hg w3 hbox hb; have n0_ := I (gI (by repeat (first | (with_reducible first | exact HB.out | apply aR | apply aO | apply aU) | exact HB.out)) hb); have n1_ := I (hbox); have n2_ := I ((by rw [hg]; exact (gD (by repeat (first | (with_reducible first | exact HB.out | apply aR | apply aO | apply aU) | exact HB.out))) : w.heap.size <= gb133)); have n3_ := I ((by rw [hg]; exact (gD (by repeat (first | (with_reducible first | exact HB.out | apply aR | apply aO | apply aU) | exact HB.out))) : w.heap.size <= gb133)); clear HB; have HB := n0_; have BK133 := n1_; have GW133 := n2_; have GE133 := n3_; clear n0_ n1_ n2_ n3_; clear hb hbox hg; have hcz4_0 : w3.cell? ⟨gb133, 0, ag⟩ = ac (.int .i64 a0_0) := (aA BK133.out 0).trans rfl; have hcz4_1 : w3.cell? ⟨gb133, 1, ag⟩ = ac (.string a0_1) := (aA BK133.out 1).trans rfl; have hcz4_2 : w3.cell? ⟨gb133, 2, ag⟩ = ac (.int .i64 a0_2) := (aA BK133.out 2).trans rfl; have hcz4_3 : w3.cell? ⟨gb133, 3, ag⟩ = ac (.slice A0_3 l0_3.length c0_3) := (aA BK133.out 3).trans rfl; have hfz4_0 := aI BK133.out 0; have hfz4_1 := aI BK133.out 1; have hfz4_2 := aI BK133.out 2; have hfz4_3 := aI BK133.out 3))
 go_ret
 exact ⟨by first | rfl | (simp [bV, bU] <;> rfl) | (simp only [<- hji2]; first | rfl | (simp [bV, bU] <;> rfl)) | (simp [*, bV, bU] <;> rfl), by repeat (first | (with_reducible first | exact HB.out | apply aR | apply aO | apply aU | refine jQ ?_ GE133.out) | exact HB.out)⟩
end
section
attribute [local go_sem] iX gY kS j9 gQ gO iV iZ
def cadenceref17_words.f (a0_0 : Int) (a0_1 : ByteArray) (a0_2 : Int) (l0_3 : List Int) : Option (Int) := ac (mx a0_2 1)
set_option maxRecDepth 100000 in
theorem cadenceref17_words.calls (a0_0 : Int) (a0_1 : ByteArray) (a0_2 : Int) (A0_3 : Option Addr) (c0_3 : Nat) (l0_3 : List Int) (r : Int) (w : World) (hr0_3 : Kd.C (Kd.int .u64) w A0_3 l0_3.length l0_3) (hc0_3 : l0_3.length <= c0_3) (h : cadenceref17_words.f a0_0 a0_1 a0_2 l0_3 = ac r) :
 Calls ak 64 #[.agg #[.int .i64 a0_0, .string a0_1, .int .i64 a0_2, .slice A0_3 l0_3.length c0_3]] w fun e w' => e = .returned (.int .i64 r) /\ Below w.heap.size w w' := by
 have hu70 := Tryz.underlying70
 have HR0_3 := I hr0_3
 have HC0_3 := I hc0_3
 clear hr0_3 hc0_3
 have HB := I (aq w.heap.size w)
 have H : (ac (mx a0_2 1)) = ac r := h
 clear h
 obtain ⟨ji2, hji2⟩ : ∃ j_ : Int, (mx a0_2 1) = j_ := ⟨_, rfl⟩
 replace H : (ac ji2) = ac r := by first | (rw [hji2] at H; exact H) | (simp only [hji2] at H ⊢; exact H)
 (try (have hji2l : 1 <= ji2 := by (rw [<- hji2]; unfold mx; (repeat' split) <;> omega)))
 (try (have hji2m : 0 <= ji2 := by omega))
 have hji2_ : (if a0_2 < 1 then 1 else a0_2) = ji2 := hji2
 obtain rfl := ck H
 go_enter Tryz.func64, Tryz.ntmps64
 go_wp2_with (first | ((with_reducible refine o6 (N := 1) rfl ?_); refine pG ?hg (N := 1) ?hd (cs := #[.int .i64 a0_0, .string a0_1, .int .i64 a0_2, .slice A0_3 l0_3.length c0_3]) (t := 70) ?hr ?_; (case hd => rfl); (case hg => rfl); (case hr => first | (go_simp; done) | (go_simp; rfl)); intro gb297 hg w3 hbox hb; have n0_ := I (gI (by repeat (first | (with_reducible first | exact HB.out | apply aR | apply aO | apply aU) | exact HB.out)) hb); have n1_ := I (hbox); have n2_ := I ((by rw [hg]; exact (gD (by repeat (first | (with_reducible first | exact HB.out | apply aR | apply aO | apply aU) | exact HB.out))) : w.heap.size <= gb297)); have n3_ := I ((by rw [hg]; exact (gD (by repeat (first | (with_reducible first | exact HB.out | apply aR | apply aO | apply aU) | exact HB.out))) : w.heap.size <= gb297)); clear HB; have HB := n0_; have BK297 := n1_; have GW297 := n2_; have GE297 := n3_; clear n0_ n1_ n2_ n3_; clear hb hbox hg; have hcz4_0 : w3.cell? ⟨gb297, 0, ag⟩ = ac (.int .i64 a0_0) := (aA BK297.out 0).trans rfl; have hcz4_1 : w3.cell? ⟨gb297, 1, ag⟩ = ac (.string a0_1) := (aA BK297.out 1).trans rfl; have hcz4_2 : w3.cell? ⟨gb297, 2, ag⟩ = ac (.int .i64 a0_2) := (aA BK297.out 2).trans rfl; have hcz4_3 : w3.cell? ⟨gb297, 3, ag⟩ = ac (.slice A0_3 l0_3.length c0_3) := (aA BK297.out 3).trans rfl; have hfz4_0 := aI BK297.out 0; have hfz4_1 := aI BK297.out 1; have hfz4_2 := aI BK297.out 2; have hfz4_3 := aI BK297.out 3))
 go_ret
 exact ⟨by first | rfl | (simp [bV, bU] <;> rfl) | (simp only [<- hji2]; first | rfl | (simp [bV, bU] <;> rfl)) | (simp [*, bV, bU] <;> rfl), by repeat (first | (with_reducible first | exact HB.out | apply aR | apply aO | apply aU | refine jQ ?_ GE297.out) | exact HB.out)⟩
end
end Go.Proofs.YtfigjpehecibeaaGreat.L
namespace Go.Proofs.YtfigjpehecibeaaGreat.L
open Go.RowKit Go.Proofs.YtfigjpehecibeaaGreatW.PrintWords
theorem hU {d : S70} (h : d.f2 = 0 \/ cZ d.f2 = af) : mx d.f2 1 = cK d /\ 1 <= cK d /\ cK d <= 256 := by
 have h1 := words_le h
 refine ⟨?_, h1⟩
 unfold mx cK
 rcases h with h | h
 ·rw [h]; rfl
 ·have := qW h
  split <;> split <;> omega
def pubD (d : S70) : List Bool := if d.f0 = 1 \/ d.f0 = 2 then bu (cK d).toNat (d.f0 == 1) else []
def hO (ds : List S70) : Nat -> List Bool
 | 0 => []
 | i + 1 => hO ds i ++ pubD (aG ds (i : Int))
def RightDs (ds : List S70) : Prop := ∀ i : Nat, i < ds.length -> 1 <= (aG ds (i : Int)).f0 /\ ((aG ds (i : Int)).f2 = 0 \/ cZ (aG ds (i : Int)).f2 = af)
theorem pubD_len {d : S70} (h : d.f2 = 0 \/ cZ d.f2 = af) : (pubD d).length <= 256 := by
 have := (hU h).2
 unfold pubD
 split
 ·rw [iz]; omega
 ·simp
theorem oM {ds : List S70} (hr : RightDs ds) : ∀ i, i <= ds.length -> (hO ds i).length <= 256 * i
 | 0, _ => by simp [hO]
 | i + 1, h => by
   have := oM hr i (by omega)
   have := pubD_len (hr i (by omega)).2
   rw [hO, ay]
   omega
noncomputable def fS (nm : ByteArray) (wd ln : Int) (ds : List S70) (bd : List S119) : List Bool × Int := if (bJ nm wd ln ds bd).e = 0 then (hO ds ds.length, 0) else ([], (bJ nm wd ln ds bd).e)
end Go.Proofs.YtfigjpehecibeaaGreat.L
namespace Go.Proofs.YtfigjpehecibeaaGreat.L
open Go.RowKit Bm C Go.Maps Go.Proofs.YtfigjpehecibeaaGreatW.PrintWords Go.Proofs.YtfigjpehecibeaaGreatW.PrintLast Go.Proofs.YtfigjpehecibeaaGreatW.PrintMore Go.Proofs.YtfigjpehecibeaaGreat.Gr
section
set_option maxRecDepth 100000
theorem eqA101 (d : Nat) (w : World) (x0 y0 x1 y1 x2 y2 : Int) :
 (Op.equalIn (d + 2) 101 (.agg #[.int .i64 x0, .int .u64 x1, .int .u64 x2]) (.agg #[.int .i64 y0, .int .u64 y1, .int .u64 y2])).run ak w = .ok (x0 == y0 && (x1 == y1 && x2 == y2)) w := by
 refine eqA_of Tryz.underlying101 (by kernel_rfl) ?_
 refine eqf_cons (by rfl) (by go_simp; rfl) (by go_simp; rfl) (by go_simp) ?_
 refine eqf_cons (by rfl) (by go_simp; rfl) (by go_simp; rfl) (by go_simp) ?_
 exact eqf_last (by rfl) (by go_simp; rfl) (by go_simp; rfl) (by go_simp)
def dJ (W : World) (A : Option Addr) (l : List Int) : Prop := ∀ k, k < l.length -> ∃ ad, A = ac ad /\ W.cell? (ad.add k) = ac (.int .u64 (l.getD k 0))
theorem dJ.below {W W' : World} {A : Option Addr} {l : List Int} (h : dJ W A l) (hb : Below W.heap.size W W') : dJ W' A l := fun k hk => by
 obtain ⟨ad, e, q⟩ := h k hk
 exact ⟨ad, e, aE hb q⟩
theorem jP {W : World} {A : Option Addr} {l : List Int} (h : (Kd.int .u64).C W A l.length l) : dJ W A l := fun k hk => by
 obtain ⟨ad, cc, e, _, hK, hc⟩ := Kd.oI h (0 : Int) (k : Int) (by omega) (by omega)
 refine ⟨ad, e, ?_⟩
 have h := hc 0 _ (by rw [hK]; rfl)
 rw [show (Kd.int .u64).sz = 1 from rfl, gu, fq, av] at h
 exact h
theorem wordsAt_row {W : World} {b : Nat} {l : List Int} (h : iS W b l) : dJ W (ac ⟨b, 0, ag⟩) l := fun k hk => by
 obtain ⟨cs, hb, hc⟩ := h
 refine ⟨_, rfl, ?_⟩
 rw [show (⟨b, 0, ag⟩ : Addr).add k = ⟨b, k, ag⟩ by cases k <;> simp [Addr.add], aA hb]
 exact hc k hk
theorem pE (l : List Int) (A B : Option Addr) (c d : Nat) (W : World) (ha : dJ W A l) (hb : dJ W B l) (hm : l.length <= 1073741824) :
 Calls ak 28 #[.slice A l.length c, .slice B l.length d] W fun e W' => e = .returned (.bool af) /\ Below W.heap.size W W' := by
 have H := I (ae ha hb)
 clear ha hb
 go_enter Tryz.func28, Tryz.ntmps28
 go_wp2_with fail
 go_loopw [5] (fun i W' => ∃ k : Nat, i = .int .i64 k /\ k <= l.length /\ Aside0 (Below W.heap.size W W')) (fun i _ => l.length - (intOf i).toNat)
 case atStart => exact ⟨0, rfl, bi _, ⟨aq _ _⟩⟩
 case round =>
  obtain ⟨k, rfl, hk, HB⟩ := hrel
  by_cases hlt : k < l.length
  ·have hi1 : (k : Int) < (l.length : Int) := by omega
   obtain ⟨ad1, e1, q1⟩ := H.out.1 k hlt
   cases e1
   obtain ⟨ad2, e2, q2⟩ := H.out.2 k hlt
   cases e2
   replace q1 := aE HB.out q1
   replace q2 := aE HB.out q2
   generalize l.getD k 0 = b at q1 q2
   go_wp2_with fail
   go_region
   go_wp2_with fail
   refine ⟨⟨k + 1, by go_num, by omega, ⟨HB.out.drew⟩⟩, by simp [intOf]; omega⟩
  ·have hge : ¬ (k : Int) < (l.length : Int) := by omega
   go_wp2_with fail
   go_ret
   exact ⟨rfl, HB.out⟩
section
attribute [local go_sem high] eqA101
theorem traces_calls (l : List S101) (A B : Option Addr) (c d : Nat) (W : World) (ha : oD.C W A l.length l) (hb : oD.C W B l.length l) (hm : l.length <= 1073741824) :
 Calls ak 26 #[.slice A l.length c, .slice B l.length d] W fun e W' => e = .returned (.bool af) /\ Below W.heap.size W W' := by
 have H := I (ae ha hb)
 clear ha hb
 go_enter Tryz.func26, Tryz.ntmps26
 go_wp2_with fail
 go_loopw [5] (fun i W' => ∃ k : Nat, i = .int .i64 k /\ k <= l.length /\ Aside0 (Below W.heap.size W W')) (fun i _ => l.length - (intOf i).toNat)
 case atStart => exact ⟨0, rfl, bi _, ⟨aq _ _⟩⟩
 case round =>
  obtain ⟨k, rfl, hk, HB⟩ := hrel
  by_cases hlt : k < l.length
  ·have hi1 : (k : Int) < (l.length : Int) := by omega
   obtain ⟨ad1, e1, q0, q1, q2⟩ := at_T101 H.out.1 (k : Int) (by omega) (by omega)
   cases e1
   obtain ⟨ad2, e2, p0, p1, p2⟩ := at_T101 H.out.2 (k : Int) (by omega) (by omega)
   cases e2
   rw [av] at q0 q1 q2 p0 p1 p2
   replace q0 := aE HB.out q0
   replace q1 := aE HB.out q1
   replace q2 := aE HB.out q2
   replace p0 := aE HB.out p0
   replace p1 := aE HB.out p1
   replace p2 := aE HB.out p2
   generalize rd_T101 l (k : Int) = b at q0 q1 q2 p0 p1 p2
   go_wp2_with fail
   go_region
   go_wp2_with fail
   refine ⟨⟨k + 1, by go_num, by omega, ⟨HB.out.drew⟩⟩, by simp [intOf]; omega⟩
  ·have hge : ¬ (k : Int) < (l.length : Int) := by omega
   go_wp2_with fail
   go_ret
   exact ⟨rfl, HB.out⟩
end
def lK (W : World) (A : Option Addr) (S : List (List Int)) : Prop := ∀ i, i < S.length -> ∃ ad b c, A = ac ad /\ W.cell? (ad.add i) = ac (.slice (ac ⟨b, 0, ag⟩) (S.getD i []).length c) /\ dJ W (ac ⟨b, 0, ag⟩) (S.getD i [])
theorem lK.below {W W' : World} {A : Option Addr} {S : List (List Int)} (h : lK W A S) (hb : Below W.heap.size W W') : lK W' A S := fun i hi => by
 obtain ⟨ad, b, c, e, q, r⟩ := h i hi
 exact ⟨ad, b, c, e, aE hb q, r.below hb⟩
theorem states_calls (S : List (List Int)) (A B : Option Addr) (c d : Nat) (W : World) (ha : lK W A S) (hb : lK W B S) (hm : S.length <= 1073741824) (hw : ∀ r ∈ S, r.length <= 1073741824) :
 Calls ak 25 #[.slice A S.length c, .slice B S.length d] W fun e W' => e = .returned (.bool af) /\ Below W.heap.size W W' := by
 have H := I (ae ha (ae hb hw))
 clear ha hb hw
 go_enter Tryz.func25, Tryz.ntmps25
 go_wp2_with fail
 go_loopw [5] (fun i W' => ∃ k : Nat, i = .int .i64 k /\ k <= S.length /\ Aside0 (Below W.heap.size W W')) (fun i _ => S.length - (intOf i).toNat)
 case atStart => exact ⟨0, rfl, bi _, ⟨aq _ _⟩⟩
 case round =>
  obtain ⟨k, rfl, hk, HB⟩ := hrel
  by_cases hlt : k < S.length
  ·have hi1 : (k : Int) < (S.length : Int) := by omega
   obtain ⟨ad1, b1, c1, e1, q1, r1⟩ := H.out.1 k hlt
   cases e1
   obtain ⟨ad2, b2, c2, e2, q2, r2⟩ := H.out.2.1 k hlt
   cases e2
   have p1 : ∀ g : G wr, g.W.cell? (ad1.add k) = _ := fun g => aE g.below (aE HB.out q1)
   have p2 : ∀ g : G wr, g.W.cell? (ad2.add k) = _ := fun g => aE g.below (aE HB.out q2)
   have hbl := I (show (S.getD k []).length <= 1073741824 from by rw [au, az hlt]; exact H.out.2.2 _ (ef hlt))
   generalize S.getD k [] = b at p1 p2 r1 r2 q1 q2 hbl
   have HW := I (ae (r1.below HB.out) (r2.below HB.out))
   clear q1 q2 r1 r2
   go_wp2_with fail
   refine aH ?_
   intro gg
   refine bX (by kernel_rfl) (by kernel_rfl) ?_
   repeat (go_big_quiet_step (first | (go_at_call 28; exact aD (pE b _ _ c1 c2 _ (HW.out.1.below (G.below _)) (HW.out.2.below (G.below _)) hbl.out))))
   refine wpQuiet_nil ?_
   rintro _ ⟨gg, rfl⟩
   go_wp2_with fail
   refine ⟨⟨k + 1, by go_num, by omega, ⟨HB.out.trans (gg.below.mono HB.out.size)⟩⟩, by simp [intOf]; omega⟩
  ·have hge : ¬ (k : Int) < (S.length : Int) := by omega
   go_wp2_with fail
   go_ret
   exact ⟨rfl, HB.out⟩
end
section
variable {nm : ByteArray} {wd ln : Int} {ds : List S70} {bd : List S119}
theorem jM (h : (bJ nm wd ln ds bd).e = 0) : SOK wd ln ds := by
 have hr := kX h
 refine ⟨?_, ?_, ?_, fun i hi => (hU (eQ h i hi).2).2⟩
 ·have h1 : cV wd = af := gS (hr 1 (by decide))
  unfold cV at h1
  simp only [Bool.or_eq_true, beq_iff_eq] at h1
  refine ⟨wd.toNat, by omega, ?_⟩
  unfold eN; omega
 ·exact qW (gS (hr 2 (by decide)))
 ·exact oZ (hr 3 (by decide))
theorem tok_right (hg : PGood nm wd ln ds bd) (h : (bJ nm wd ln ds bd).e = 0) : ∀ x ∈ bd, TOK ds [] x := by
 intro x hx
 have hr := kX h
 have hform : dG nm wd ln ds bd = af := gS (hr 0 (by decide))
 unfold dG at hform
 simp only [bo] at hform
 refine ⟨bdB_mem hform.2.2 hx, hg.good.bd x hx, 1, by simp, fun t ht => ?_⟩
 have hm : t ∈ things ds bd := List.mem_append_right _ (mB hx 1 [] ht)
 refine ⟨iA (hr 9 (by decide)) t hm, iA (hr 10 (by decide)) t hm, iA (hr 11 (by decide)) t hm, iA (hr 14 (by decide)) t hm, ?_⟩
 have h14 : oG wd t = J := iA (hr 13 (by decide)) t hm
 cases t with
 | stmt s d l =>
   intro hk
   unfold oG at h14
   simp only [hk, beq_self_eq_true, jy, Bool.or_eq_false_iff, decide_eq_false_iff_not] at h14
   omega
 | decl i => trivial
 | expr e l => trivial
theorem vals_right (h : (bJ nm wd ln ds bd).e = 0) {i : Nat} (hi : i < ds.length) (hk : (aG ds (i : Int)).f0 = 3) : ((aG ds (i : Int)).f3.length : Int) = cK (aG ds (i : Int)) := by
 have hr := kX h
 have h6 := jK (aT (hr 6 (by decide))) i hi
 unfold bD at h6
 simp only [hk, beq_self_eq_true, jy, bne_eq_false_iff_eq] at h6
 have hform : dG nm wd ln ds bd = af := gS (hr 0 (by decide))
 unfold dG at hform
 simp only [bo] at hform
 have h2 := dz.1 hform.2.1 _ (dO hi)
 unfold dcB at h2
 rw [if_pos hk] at h2
 simp only [bo, decide_eq_true_eq] at h2
 unfold cK
 rw [if_neg (by omega)]
 exact h6
def trnI (wd v : Int) : Int := (trn wd v.toNat : Int)
def kI (wd : Int) (d : S70) (inp : List Int) (o k : Nat) : Int := if d.f0 = 3 then d.f3.getD k 0 else if d.f0 = 1 \/ d.f0 = 2 then trnI wd (inp.getD (o + k) 0) else 0
def row0 (wd : Int) (d : S70) (inp : List Int) (o : Nat) : List Int := (br (cK d).toNat).map (kI wd d inp o)
def fT (wd : Int) (ds : List S70) (inp : List Int) (i : Nat) : List (List Int) := (br i).map fun j : Nat => row0 wd (aG ds (j : Int)) inp (hO ds j).length
theorem rows0_succ (wd : Int) (ds : List S70) (inp : List Int) (i : Nat) : fT wd ds inp (i + 1) = fT wd ds inp i ++ [row0 wd (aG ds (i : Int)) inp (hO ds i).length] := by
 unfold fT; rw [js, fg]; rfl
theorem oQ {l : List Int} (h : ∀ v ∈ l, U64 v) (k : Nat) : U64 (l.getD k 0) := by
 by_cases hk : k < l.length
 ·rw [au, az hk]
  exact h _ (ef hk)
 ·rw [au, ed (by omega)]
  exact ⟨by decide, by decide⟩
theorem word0_u64 {d : S70} {inp : List Int} (hd : ∀ v ∈ d.f3, U64 v) (hi : ∀ v ∈ inp, U64 v) (o k : Nat) : U64 (kI wd d inp o k) := by
 unfold kI
 split
 ·exact oQ hd k
 ·split
  ·obtain ⟨x, e, hx⟩ := (oQ hi (o + k)).nat
   unfold trnI
   rw [e, av]
   exact n9 (trn_le hx)
  ·exact ⟨by decide, by decide⟩
theorem rows0_at {inp : List Int} {n i : Nat} (hi : i < n) : rowOf (fT wd ds inp n) i = row0 wd (aG ds (i : Int)) inp (hO ds i).length := by
 unfold rowOf fT
 rw [au, kg, List.getElem?_range hi]; rfl
theorem row0_len {d : S70} {inp : List Int} {o : Nat} : (row0 wd d inp o).length = (cK d).toNat := by unfold row0; simp
theorem row0_at {d : S70} {inp : List Int} {o k : Nat} (hk : k < (cK d).toNat) : (row0 wd d inp o).getD k 0 = kI wd d inp o k := by
 unfold row0
 rw [au, kg, List.getElem?_range hk]; rfl
theorem good_vals (hg : PGood nm wd ln ds bd) {d : S70} (hd : d ∈ ds) : ∀ v ∈ d.f3, U64 v := fun v hv => by
 obtain ⟨n, e, l⟩ := wf_u64 ((hg.good.ds d hd).2.2.2.2 v hv)
 rw [e]; exact n9 l
theorem rok_right (hg : PGood nm wd ln ds bd) (h : (bJ nm wd ln ds bd).e = 0) {inp : List Int} (hi : ∀ v ∈ inp, U64 v) : ROK ds (fT wd ds inp ds.length) := by
 refine ⟨by simp [fT], fun i hi => ?_, fun i k => ?_⟩
 ·rw [rows0_at hi, row0_len]
  have := (jM h).row i hi
  omega
 ·unfold dE
  by_cases h1 : i < ds.length
  ·rw [rows0_at h1]
   by_cases h2 : k < (cK (aG ds (i : Int))).toNat
   ·rw [row0_at h2]
    exact word0_u64 (good_vals hg (dO h1)) hi _ _
   ·rw [au, ed (by rw [row0_len]; omega)]
    exact ⟨by decide, by decide⟩
  ·unfold rowOf
   rw [au (l := fT wd ds inp ds.length), ed (by simp [fT]; omega)]
   exact ⟨by simp, by simp⟩
def jC (ds : List S70) (n : Nat) : List Nat := (br n).filter fun i : Nat => decide (¬ (aG ds (i : Int)).f0 = 3)
def told (ds : List S70) (R : List (List Int)) : List (List Int) := (jC ds ds.length).map (rowOf R)
theorem toldIx_succ (ds : List S70) (i : Nat) : jC ds (i + 1) = if (aG ds (i : Int)).f0 = 3 then jC ds i else jC ds i ++ [i] := by
 unfold jC
 rw [js, List.filter_append]
 by_cases h : (aG ds (i : Int)).f0 = 3 <;> simp [h]
theorem mX (ds : List S70) (i : Nat) : (jC ds i).length <= i := by
 unfold jC
 have := List.length_filter_le (fun i : Nat => decide (¬ (aG ds (i : Int)).f0 = 3)) (br i)
 rwa [List.length_range] at this
theorem qD (ds : List S70) (k : Nat) : (hO ds (k + 1)).length = (hO ds k).length + (if (aG ds (k : Int)).f0 = 1 \/ (aG ds (k : Int)).f0 = 2 then (cK (aG ds (k : Int))).toNat else 0) := by
 rw [hO, ay]
 unfold pubD
 split <;> simp
theorem pubs_mono (ds : List S70) {i j : Nat} (h : i <= j) : (hO ds i).length <= (hO ds j).length := by
 induction h with
 | refl => exact ar _
 | step _ ih => rw [qD]; omega
theorem RowsT.lt {w : World} {base : Nat} {v : Value} {ts : List (Nat × Nat × Nat)} {R : List (List Int)} (h : RowsT w base v ts R) {i : Nat} (hi : i < R.length) : (ts.getD i zSl).1 < w.heap.size := by
 obtain ⟨-, -, cs, hb, -⟩ := h.row i hi
 exact aW hb
theorem RowsT.nil (w : World) (base : Nat) : RowsT w base (.slice ag 0 0) [] [] :=
 ⟨Kd.jN _ _ _ _ _, rfl, fun i hi => absurd hi (cq _), fun i j hi => absurd hi (cq _)⟩
theorem RowsT.below {w w' : World} {base : Nat} {v : Value} {ts : List (Nat × Nat × Nat)} {R : List (List Int)} (h : RowsT w base v ts R) (hb : Below w.heap.size w w') : RowsT w' base v ts R := h.kt (Kt.of_below hb [] ag) (by simp) (by simp)
theorem RowsT.lower {w : World} {base base' : Nat} {v : Value} {ts : List (Nat × Nat × Nat)} {R : List (List Int)} (h : RowsT w base v ts R) (hb : base' <= base) : RowsT w base' v ts R :=
 ⟨Kd.fX h.out hb, h.len, fun i hi => ⟨bh hb (h.row i hi).1, (h.row i hi).2⟩, h.ne⟩
theorem RowsT.push {w w1 : World} {base b cap : Nat} {v v1 : Value} {ts : List (Nat × Nat × Nat)} {R : List (List Int)} {l : List Int} (h : RowsT w base v ts R) (hg : w.grownBy w1 v.ownBlock) (h1 : kSl.R 36 w1 base (fun _ => True) v1 (ts ++ [(b, l.length, cap)])) (hl : iS w b l) (hbase : base <= b) (hne : ∀ i, i < R.length -> (ts.getD i zSl).1 < b) : RowsT w1 base v1 (ts ++ [(b, l.length, cap)]) (R ++ [l]) := by
 have hk : Kt [36] ag w w1 := (Kt.refl _ _ _).grown hg fun k hk => by
  obtain ⟨inner, ho⟩ := Kd.mJ h.out
  obtain ⟨cells, hc⟩ := dY ho k hk
  exact ⟨cells, 36, _, by simp, hc⟩
 have e1 : ∀ i, i < R.length -> (ts ++ [(b, l.length, cap)]).getD i zSl = ts.getD i zSl := fun i hi => by
  rw [au, je (by rw [h.len]; exact hi), au]
 have e2 : (ts ++ [(b, l.length, cap)]).getD R.length zSl = (b, l.length, cap) := by
  rw [au, <- h.len, List.getElem?_append_right (ar _), Nat.sub_self]; rfl
 have e3 : ∀ i, i < R.length -> rowOf (R ++ [l]) i = rowOf R i := fun i hi => by
  unfold rowOf
  rw [au, je hi, au]
 have e4 : rowOf (R ++ [l]) R.length = l := by
  unfold rowOf
  rw [au, List.getElem?_append_right (ar _), Nat.sub_self]; rfl
 have hcs : ∀ i, i < (R ++ [l]).length -> i < R.length \/ i = R.length := fun i hi => by rw [ay, bk] at hi; omega
 refine ⟨h1, by simp [h.len], fun i hi => ?_, fun i j hi hj hij => ?_⟩
 ·rcases hcs i hi with hi | rfl
  ·rw [e1 i hi, e3 i hi]
   exact ⟨(h.row i hi).1, (h.row i hi).2.1, (h.row i hi).2.2.kt hk (by simp)⟩
  ·rw [e2, e4]
   exact ⟨hbase, rfl, hl.kt hk (by simp)⟩
 ·rcases hcs i hi with hi | rfl <;> rcases hcs j hj with hj | rfl
  ·rw [e1 i hi, e1 j hj]; exact h.ne i j hi hj hij
  ·rw [e1 i hi, e2]; exact jh (hne i hi)
  ·rw [e1 j hj, e2]; exact (jh (hne j hj)).symm
  ·exact absurd rfl hij
theorem RowsT.slot {w : World} {base : Nat} {v : Value} {ts : List (Nat × Nat × Nat)} {R : List (List Int)} (h : RowsT w base v ts R) : ∃ A cap, v = .slice A R.length cap /\ ∀ d, d < R.length -> ∃ ad, A = ac ad /\ w.cell? (ad.add d) = ac (.slice (ac ⟨(ts.getD d zSl).1, 0, ag⟩) (ts.getD d zSl).2.1 (ts.getD d zSl).2.2) := by
 obtain ⟨A0, cap, rfl, hl, hC⟩ := Kd.d7 h.out
 refine ⟨A0, cap, by rw [h.len], fun d hd => ?_⟩
 have hdl : d < ts.length := by rw [h.len]; exact hd
 obtain ⟨A, c0, rfl, _, hK, hc⟩ := Kd.oI hC zSl (d : Int) (by omega) (by omega)
 rw [av] at hK hc
 have h0 := hc 0 _ (by rw [hK]; rfl)
 rw [show kSl.sz = 1 from rfl, gu, fq] at h0
 exact ⟨A, rfl, h0⟩
def cX (ds : List S70) (ts : List (Nat × Nat × Nat)) (n : Nat) : List (Nat × Nat × Nat) := (jC ds n).map fun i => ts.getD i zSl
theorem told_rows {w w1 : World} {base base1 : Nat} {vr v : Value} {ts : List (Nat × Nat × Nat)} {R : List (List Int)} (h : RowsT w base vr ts R) (hlen : R.length = ds.length) (hk : Below w.heap.size w w1) (h1 : kSl.R 36 w1 base1 (fun _ => True) v (cX ds ts ds.length)) : ∃ A cap, v = .slice A (told ds R).length cap /\ lK w1 A (told ds R) := by
 obtain ⟨A0, cap, rfl, hl, hC⟩ := Kd.d7 h1
 refine ⟨A0, cap, by simp [told, cX], fun k hk2 => ?_⟩
 have e0 : (told ds R).length = (jC ds ds.length).length := by simp [told]
 rw [e0] at hk2
 obtain ⟨A, c0, rfl, _, hK, hc⟩ := Kd.oI hC zSl (k : Int) (by omega) (by simp [cX]; omega)
 rw [av] at hK hc
 have h0 := hc 0 _ (by rw [hK]; rfl)
 rw [show kSl.sz = 1 from rfl, gu, fq] at h0
 have hm : (jC ds ds.length)[k] ∈ jC ds ds.length := ef hk2
 obtain ⟨i, hi⟩ : ∃ i, i = (jC ds ds.length)[k] := ⟨_, rfl⟩
 have hin : i < R.length := by
  rw [hlen, hi]
  unfold jC at hm ⊢
  exact ja.1 (List.mem_filter.1 hm).1
 have e1 : (cX ds ts ds.length).getD k zSl = ts.getD i zSl := by
  unfold cX
  rw [au, kg, az hk2, <- hi]; rfl
 have e2 : (told ds R).getD k [] = rowOf R i := by
  unfold told
  rw [au, kg, az hk2, <- hi]; rfl
 rw [e1] at h0
 replace h0 : w1.cell? (A.add k) = ac (.slice (ac ⟨(ts.getD i zSl).1, 0, ag⟩) (ts.getD i zSl).2.1 (ts.getD i zSl).2.2) := h0
 obtain ⟨-, g2, g3⟩ := h.row i hin
 rw [g2] at h0
 exact ⟨A, _, _, rfl, by rw [e2]; exact h0, by rw [e2]; exact (wordsAt_row g3).below hk⟩
end
theorem lkL_add (L : List (ByteArray × Int)) (nm : ByteArray) (v : Int) (s : ByteArray) : lkL (L ++ [(nm, v)]) s = match lkL L s with | some x => ac x | none => if eqS nm s = af then ac v else ag := by
 unfold lkL
 rw [List.find?_append]
 cases h : L.find? (fun p => eqS p.1 s) with
 | some p => rfl
 | none =>
   rw [List.find?_cons]
   cases h2 : eqS nm s <;> simp [h2]
theorem eqS_key {a b : ByteArray} (h : eqS a b = af) : pR a = pR b := by
 unfold eqS at h
 have := of_decide_eq_true h
 rw [Lib.toList_data, Lib.toList_data] at this
 unfold pR; rw [this]
theorem key_ne {a b : ByteArray} (h : eqS a b = J) : pR a ≠ pR b := by
 unfold eqS at h
 have := of_decide_eq_false h
 rw [Lib.toList_data, Lib.toList_data] at this
 intro e
 injection e with e
 exact this e
theorem eqS_symm (a b : ByteArray) : eqS a b = eqS b a := by
 unfold eqS
 rw [decide_eq_decide]
 exact ⟨Eq.symm, Eq.symm⟩
theorem lkL_eq {L : List (ByteArray × Int)} {a b : ByteArray} (h : eqS a b = af) : lkL L a = lkL L b := by
 have h2 := of_decide_eq_true h
 unfold lkL eqS
 rw [h2]
structure LoX (L : List (ByteArray × Int)) (nm : ByteArray) (D : DU) : Prop where
 size : Maps.size D <= L.length + (if Maps.has D (pR nm) = af then 1 else 0)
 at' : ∀ s, eqS s nm = J -> Maps.has D (pR s) = (lkL L s).isSome /\ ∀ v, lkL L s = ac v -> ∀ z, D.atKey (pR s) z = .lit (.int .u64 v)
theorem LoOK.toX {L : List (ByteArray × Int)} {nm : ByteArray} {D : DU} (h : LoOK L D) : LoX L nm D := ⟨by have := h.size; omega, fun s _ => h.at' s⟩
theorem LoOK.toX' {L : List (ByteArray × Int)} {nm : ByteArray} {v : Int} {D : DU} (h : LoOK (L ++ [(nm, v)]) D) : LoX L nm D := by
 have e : ∀ s, eqS s nm = J -> lkL (L ++ [(nm, v)]) s = lkL L s := by
  intro s hs
  rw [lkL_add, eqS_symm, hs]
  cases lkL L s <;> rfl
 refine ⟨?_, fun s hs => ?_⟩
 ·have h1 := (h.at' nm).1
  have h2 := h.size
  rw [ay, bk] at h2
  rw [lkL_add] at h1
  have e2 : eqS nm nm = af := by unfold eqS; exact decide_eq_true rfl
  rw [e2] at h1
  have h3 : Maps.has D (pR nm) = af := by rw [h1]; cases lkL L nm <;> rfl
  rw [if_pos h3]; exact h2
 ·have := h.at' s
  rw [e s hs] at this
  exact this
theorem LoX.put {L : List (ByteArray × Int)} {nm : ByteArray} {D : DU} (h : LoX L nm D) (hn : iC (L.map (·.1)) nm = J) (ht : Tidy D) (v : Int) : LoOK (L ++ [(nm, v)]) (D.put (pR nm) (.lit (.int .u64 v))) := by
 have hk : WideAt.IsKeyLit (pR nm) := by unfold pR; trivial
 have hl : lkL L nm = ag := by
  have := o5 (L := L) (nm := nm)
  rw [hn] at this
  cases hh : lkL L nm with
  | none => rfl
  | some x => rw [hh] at this; cases this
 refine ⟨?_, fun s => ?_⟩
 ·rw [size_put ht, ay, bk]
  have := h.size
  split
  ·rename_i hh; rw [if_pos hh] at this; exact this
  ·rename_i hh; rw [if_neg hh] at this; omega
 ·rw [lkL_add]
  cases hs : eqS s nm with
  | true =>
    have e1 : pR s = pR nm := eqS_key hs
    rw [lkL_eq hs, hl, eqS_symm, hs, e1]
    refine ⟨has_put_same ht.isMap hk _, fun x hx z => ?_⟩
    have hx : v = x := by simpa using hx
    rw [atKey_put_same ht.isMap hk, hx]
  | false =>
    have hne := key_ne hs
    obtain ⟨h1, h2⟩ := h.at' s hs
    rw [eqS_symm, hs, has_put_other hne, h1]
    refine ⟨by cases lkL L s <;> rfl, fun x hx z => ?_⟩
    rw [atKey_put_other hne]
    cases hq : lkL L s with
    | none => rw [hq] at hx; simp at hx
    | some y =>
      rw [hq] at hx
      injection hx with hx
      subst hx
      exact h2 y hq z
theorem LoX.del {L : List (ByteArray × Int)} {nm : ByteArray} {D : DU} (h : LoX L nm D) (hn : iC (L.map (·.1)) nm = J) (ht : Tidy D) : LoOK L (D.del (pR nm)) := by
 refine ⟨?_, fun s => ?_⟩
 ·have h1 := h.size
  have h2 := size_del ht (k := pR nm)
  omega
 ·cases hs : eqS s nm with
  | true =>
    have hl : lkL L s = ag := by
     have := o5 (L := L) (nm := nm)
     rw [hn] at this
     rw [lkL_eq hs]
     cases hh : lkL L nm with
     | none => rfl
     | some x => rw [hh] at this; cases this
    rw [hl, eqS_key hs]
    exact ⟨has_del_same, fun v hv => by cases hv⟩
  | false =>
    have hne := key_ne hs
    obtain ⟨h1, h2⟩ := h.at' s hs
    rw [has_del_other hne]
    exact ⟨h1, fun v hv z => by rw [atKey_del_other hne]; exact h2 v hv z⟩
theorem own_tight {H : Type} {P : Program} {w : World} {k : TypeId} {R : Value -> Option (DataW H × List MemPlace)} {b n : Nat} {D : DataW H} (h : w.ownsMap P k R b n D) : w.ownsMap P k R b (Maps.size D) D := by
 obtain ⟨es, clock, hb, F, hs, rfl⟩ := h
 exact ⟨es, clock, hb, F, by rw [Maps.size_eq, length_read]; exact ar _, rfl⟩
theorem Kt.of_map {W W' : World} {b : Nat} {es : Array MapEntry} {clock : Nat} (hb : W.heap[b]? = ac (.map es clock)) (hg : W.grownBy W' (ac b)) : Kt [] (ac b) W W' := by
 refine ⟨hg.size, fun g cs t fr h _ => ?_, fun g es' x hne h => ?_⟩
 ·rw [hg.block g (aW h) (fun e => by injection e with e; subst e; rw [hb] at h; cases h)]; exact h
 ·rw [hg.block g (aW h) hne]; exact h
theorem MAt.turn {c : Cfg} {R : List (List Int)} {L L' : List (ByteArray × Int)} {T : List S101} {W W' : World} (h : MAt c R L T W) (hk : Kt [] (ac c.lb) W W') (hg : W.grownBy W' (ac c.lb)) (hl : ∃ D : DU, W'.ownsMap ak 9 (plainElem ak 74) c.lb (Maps.size D) D /\ LoOK L' D) : MAt c R L' T W' := by
 obtain ⟨vr, g1, g2⟩ := h.hm
 obtain ⟨D, a1, a2⟩ := h.ha
 obtain ⟨vt, t1, t2⟩ := h.he
 exact ⟨h.low.grown hg h.low.size (fun k e => by injection e with e; subst e; exact h.base.2.2.2.1), h.base, ⟨vr, hk.blk _ _ _ _ g1 (by simp), g2.kt hk (by simp) (by simp)⟩, ⟨vt, hk.blk _ _ _ _ t1 (by simp), hk.row t2 (fun q _ => by simp)⟩, ⟨D, hk.own a1 (fun e => h.base.2.2.2.2 (by injection e)), a2⟩, hl⟩
theorem MAt.setLoop {c : Cfg} {R : List (List Int)} {L L' : List (ByteArray × Int)} {T : List S101} {W : World} (h : MAt c R L' T W) {nm : ByteArray} (hX : L' = L \/ ∃ u, L' = L ++ [(nm, u)]) (hn : iC (L.map (·.1)) nm = J) (hnm : nm.size <= maxLen) (hL : L.length < 64) {v : Int} (hv : U64 v) :
 ∃ W', (Instr.mapUpdate 89 (.map (ac c.lb)) (.string nm) (.int .u64 v)).run ak W = .ok () W' /\ MAt c R (L ++ [(nm, v)]) T W' /\ Kt [] (ac c.lb) W W' := by
 obtain ⟨D, h1, h2⟩ := h.hl
 have hx : LoX L nm D := by
  rcases hX with rfl | ⟨u, rfl⟩
  ·exact h2.toX
  ·exact h2.toX'
 have hsz : Maps.size D < maxLen := by
  have := hx.size
  unfold maxLen
  split at this <;> omega
 have hwf : (Lit.int .u64 v).wf = af := by
  have hmin : IntKind.u64.min = 0 := rfl
  have hmax : IntKind.u64.max = 18446744073709551615 := rfl
  simp only [Lit.wf, bo, decide_eq_true_eq]
  have := hv
  omega
 obtain ⟨W', hr, ho, hg⟩ := h1.update kL Tryz.underlying89 hsz (jz jc hnm) (plainElem_int jr hwf)
 obtain ⟨es, clock, hb, _⟩ := id h1
 have hk := Kt.of_map hb hg
 exact ⟨W', hr, h.turn hk hg ⟨_, own_tight ho, hx.put hn (h1.tidy kL) v⟩, hk⟩
theorem MAt.endLoop {c : Cfg} {R : List (List Int)} {L L' : List (ByteArray × Int)} {T : List S101} {W : World} (h : MAt c R L' T W) {nm : ByteArray} (hX : L' = L \/ ∃ u, L' = L ++ [(nm, u)]) (hn : iC (L.map (·.1)) nm = J) (hnm : nm.size <= maxLen) (ty : TypeId) :
 ∃ W', (Builtin.delete_ #[89, 9] ty #[.map (ac c.lb), .string nm]).run ak W = .ok (.tuple #[]) W' /\ MAt c R L T W' /\ Kt [] (ac c.lb) W W' := by
 obtain ⟨D, h1, h2⟩ := h.hl
 have hx : LoX L nm D := by
  rcases hX with rfl | ⟨u, rfl⟩
  ·exact h2.toX
  ·exact h2.toX'
 obtain ⟨W', hr, ho, hg⟩ := h1.drop kL Tryz.underlying89 (jz jc hnm) ty
 obtain ⟨es, clock, hb, _⟩ := id h1
 have hk := Kt.of_map hb hg.grown
 exact ⟨W', hr, h.turn hk hg.grown ⟨_, own_tight ho, hx.del hn (h1.tidy kL)⟩, hk⟩
theorem RowsT.blk36 {w : World} {base n cap : Nat} {A : Addr} {l : List (Nat × Nat × Nat)} {R : List (List Int)} (h : RowsT w base (.slice (ac A) n cap) l R) : ∃ cur, w.heap[A.block]? = ac (.cells cur 36 (0, 0)) := by
 obtain ⟨inner, ho⟩ := Kd.mJ h.out
 exact dY ho A.block (by simp [dh])
structure RowSt (c : Cfg) (nm : ByteArray) (R : List (List Int)) (W : World) (d bb n : Nat) (A : Addr) (RN cp c0 : Nat) : Prop where
 no : d = dNo c.ds nm
 lt : d < R.length
 len : n = (rowOf R d).length
 n1 : 1 <= n /\ n <= 65536
 rn : RN = R.length /\ RN <= 65536
 m : ∃ ts, W.heap[c.mb]? = ac (.cells (c.cells (.slice (ac A) RN cp)) 93 (0, 0)) /\ RowsT W c.w0.heap.size (.slice (ac A) RN cp) ts R /\ bb = (ts.getD d zSl).1
 look : ∀ R' L' T' w1, MAt c R' L' T' w1 -> (ib 88 (.map (ac c.ab)) (.string nm) J).run ak w1 = .ok (.int .i64 (d : Int)) w1
 cell : W.cell? (A.add d) = ac (.slice (ac ⟨bb, 0, ag⟩) n c0)
theorem row_at {c : Cfg} (hs : SOK c.wd c.ln c.ds) {R : List (List Int)} (hR : ROK c.ds R) {L : List (ByteArray × Int)} {T : List S101} {W : World} (hM : MAt c R L T W) {nm : ByteArray} (hn : nm.size <= maxLen) (hf : (bZ c.ds nm).isSome = af) : ∃ d bb n A RN cp c0, RowSt c nm R W d bb n A RN cp c0 := by
 have hd := find_lt hf
 have hdR : dNo c.ds nm < R.length := by rw [hR.len]; exact hd
 obtain ⟨vr, hmb, ts, hrt⟩ := hM.hm
 obtain ⟨A, cap, c0, rfl, hcd, _, _, _⟩ := hrt.at' hdR
 have h1 := hs.row _ hd
 have h2 := hR.row _ hd
 exact ⟨_, _, _, A, _, cap, c0, rfl, hdR, rfl, by omega, ⟨rfl, by have := hR.len; have := hs.few; omega⟩, ⟨ts, hmb, hrt, rfl⟩, fun R' L' T' w1 h => h.look hn hf, hcd⟩
theorem RowSt.cells {c : Cfg} {nm : ByteArray} {R : List (List Int)} {W : World} {d bb n : Nat} {A : Addr} {RN cp c0 : Nat} (h : RowSt c nm R W d bb n A RN cp c0) {w1 : World} (hk : Kt [84, 101, 74] ag W w1) {R' : List (List Int)} {L' : List (ByteArray × Int)} {T' : List S101} (hM : MAt c R' L' T' w1) :
 w1.cell? ⟨c.mb, 5, ag⟩ = ac (.map (ac c.ab)) /\ w1.cell? ⟨c.mb, 6, ag⟩ = ac (.slice (ac A) RN cp) /\ w1.cell? ⟨c.mb, 8, ag⟩ = ac (.iface 80 (.pointer (ac ⟨c.eb, 0, ag⟩))) /\ (ib 88 (.map (ac c.ab)) (.string nm) J).run ak w1 = .ok (.int .i64 (d : Int)) w1 /\ w1.cell? (A.add d) = ac (.slice (ac ⟨bb, 0, ag⟩) n c0) := by
 obtain ⟨ts, h1, h2, h3⟩ := h.m
 obtain ⟨cur, h4⟩ := h2.blk36
 refine ⟨(hk.cell h1 (by simp) 5).trans rfl, (hk.cell h1 (by simp) 6).trans rfl, (hk.cell h1 (by simp) 8).trans rfl, h.look _ _ _ _ hM, ?_⟩
 rw [World.cell?_of_block (w := W) (by
  have e : (A.add d).block = A.block := by unfold Addr.add; split <;> rfl
  rw [e, h4]; exact hk.blk _ _ _ _ h4 (by simp))]
 exact h.cell
theorem RowSt.word {c : Cfg} {nm : ByteArray} {R : List (List Int)} {W : World} {d bb n : Nat} {A : Addr} {RN cp c0 : Nat} (h : RowSt c nm R W d bb n A RN cp c0) {w1 : World} (hk : Kt [84, 101] ag W w1) {L' : List (ByteArray × Int)} {T' : List S101} (hM : MAt c R L' T' w1) {j : Nat} (hj : j < n) :
 w1.cell? ⟨bb, j, ag⟩ = ac (.int .u64 (dE R d j)) /\ (∃ cs, w1.heap[bb]? = ac (.cells cs 74 (0, 0))) /\ ∀ v, MAt c (oW R d j v) L' T' (w1.setCell ⟨bb, j, ag⟩ (.int .u64 v)) := by
 obtain ⟨ts, h1, h2, rfl⟩ := h.m
 obtain ⟨A1, cap1, c1, _, _, hb, hbb, hcell⟩ := (h2.kt hk (by simp) (by simp)).at' h.lt
 obtain ⟨g1, g2⟩ := hcell j (by rw [<- h.len]; exact hj)
 exact ⟨g1, hbb, fun v => hM.put hbb hb (hk.blk _ _ _ _ h1 (by simp)) ⟨_, g2 v⟩⟩
end Go.Proofs.YtfigjpehecibeaaGreat.L
namespace Go.Proofs.YtfigjpehecibeaaGreat.L
open Go.RowKit Bm C Go.Proofs.YtfigjpehecibeaaGreatW.PrintWords Go.Proofs.YtfigjpehecibeaaGreatW.PrintLast Go.Proofs.YtfigjpehecibeaaGreatW.PrintMore Go.Proofs.YtfigjpehecibeaaGreat.Gr
section
attribute [local go_sem] G.cell
theorem bit_calls (x m : Nat) (hm : m <= 64) (W : World) : Calls ak 292 #[.int .u64 (x : Int), .int .i64 (m : Int)] W fun e W' => e = .returned (.int .u64 ((x / 2 ^ m % 2 : Nat) : Int)) /\ Below W.heap.size W W' := by
 have e : IntKind.u64.wrap (m : Int) = (m : Int) := jT (by omega) (by omega)
 go_enter Tryz.func292, Tryz.ntmps292
 go_wp2_with fail
 go_ret
 refine ⟨ret_u64 ?_, aq _ _⟩
 rw [castdiv, jd]; rfl
theorem bit_v (x : Nat) {v : Int} {m : Nat} (hv : v = (m : Int)) (hm : m <= 64) (W : World) : Calls ak 292 #[.int .u64 (x : Int), .int .i64 v] W fun e W' => e = .returned (.int .u64 ((x / 2 ^ m % 2 : Nat) : Int)) /\ Below W.heap.size W W' := hv ▸ bit_calls x m hm W
theorem refUn_calls (k op wd : Int) (hk : (k = 4 /\ op = 15) \/ (k = 5 /\ op = 16)) (h1 : 1 <= wd) (h2 : wd <= 64) (x : Nat) (hx : x < 2 ^ 64) (W : World) :
 Calls ak 236 #[.int .i64 op, .int .i64 wd, .int .u64 (x : Int)] W fun e W' => e = .returned (.tuple #[.int .u64 (unW k wd x), .int .i64 0]) /\ Below W.heap.size W W' := by
 rcases hk with ⟨rfl, rfl⟩ | ⟨rfl, rfl⟩
 ·go_enter Tryz.func236, Tryz.ntmps236
  refine bE ?_
  intro gg
  go_wp2_with fail
  refine (aD (g := gg) (dU wd h1 h2 gg.W)).mono ?_
  rintro _ _ ⟨rfl, gg, rfl⟩
  go_wp2_with fail
  refine (aD (g := gg) (d6 wd h1 (not_val hx) (by rw [p64]; omega) gg.W)).mono ?_
  rintro _ _ ⟨rfl, gg, rfl⟩
  go_wp2_with fail
  go_ret2
  refine ⟨?_, gg.below⟩
  rw [show unW 4 wd (x : Int) = ((trn wd (18446744073709551615 - x) : Nat) : Int) from by unfold unW; rw [if_pos rfl]; congr 3; omega]
  rfl
 ·go_enter Tryz.func236, Tryz.ntmps236
  refine bE ?_
  intro gg
  go_wp2_with fail
  refine (aD (g := gg) (dU wd h1 h2 gg.W)).mono ?_
  rintro _ _ ⟨rfl, gg, rfl⟩
  go_wp2_with fail
  refine (aD (g := gg) (d6 wd h1 (neg_val hx) (by rw [p64]; omega) gg.W)).mono ?_
  rintro _ _ ⟨rfl, gg, rfl⟩
  go_wp2_with fail
  go_ret2
  exact ⟨rfl, gg.below⟩
theorem qX (m : Nat) (hm : eN m) (W : World) : Calls ak 279 #[.int .i64 (m : Int)] W fun e W' => e = .returned (.bool af) /\ Below W.heap.size W W' := by
 have he : ∃ e : Nat, e <= 6 /\ m = 2 ^ e := by
  unfold eN at hm
  rcases hm with rfl | rfl | rfl | rfl | rfl
  ·exact ⟨2, by decide, rfl⟩
  ·exact ⟨3, by decide, rfl⟩
  ·exact ⟨4, by decide, rfl⟩
  ·exact ⟨5, by decide, rfl⟩
  ·exact ⟨6, by decide, rfl⟩
 obtain ⟨e, he, hme⟩ := he
 have HE := I (ae he hme)
 clear he hme
 have hm1 : m <= 64 := by have := hm.le; omega
 clear hm
 go_enter Tryz.func279, Tryz.ntmps279
 go_wp2_with fail
 go_loopw [3] (fun i W' => ∃ (j P : Nat), i = .int .i64 (P : Int) /\ P = 2 ^ j /\ j <= e /\ W' = W) (fun i _ => 65 - (intOf i).toNat)
 case atStart => exact ⟨0, 1, rfl, rfl, bi _, rfl⟩
 case round =>
  obtain ⟨j, P, rfl, hP, hj, rfl⟩ := hrel
  have hP1 : 1 <= P := hP ▸ du j
  have hPm : P <= m := by rw [hP, HE.out.2]; exact jm (by decide) hj
  have hle : (P : Int) <= 64 := by omega
  by_cases hje : j = e
  ·have hPe : P = m := by rw [hP, HE.out.2, hje]
   subst hPe
   clear hP hP1 hPm hje
   go_wp2_with fail
   go_ret
   exact ⟨rfl, aq _ _⟩
  ·have h2 : 2 * P <= m := by
    rw [hP, HE.out.2, <- Nat.pow_succ']
    exact jm (by decide) (by omega)
   have hne : ((m : Int) == (P : Int)) = J := beq_eq_false_iff_ne.2 (by omega)
   have hw : wrap64 (2 * (P : Int)) = ((2 * P : Nat) : Int) := by rw [w64]; omega
   have HP := I (ae hP (ae hw (ae h2 hm1)))
   clear hP hw h2 hPm
   go_wp2_with fail
   exact ⟨⟨j + 1, 2 * P, by rw [il]; rfl, by rw [HP.out.1, Nat.pow_succ'], by omega, trivial⟩, by simp [intOf]; omega⟩
theorem bit_b (x : Nat) {v : Int} {m b : Nat} (hb : x / 2 ^ m % 2 = b) (hv : v = (m : Int)) (hm : m <= 64) (W : World) : Calls ak 292 #[.int .u64 (x : Int), .int .i64 v] W fun e W' => e = .returned (.int .u64 ((b : Nat) : Int)) /\ Below W.heap.size W W' := hb ▸ bit_v x hv hm W
theorem ret_i64 {a b : Int} (h : a = b) : fw (.int .i64 a) = .returned (.int .i64 b) := by rw [h]
set_option maxRecDepth 100000 in
theorem qC (m x : Nat) (hm : eN m) (hx : x < 2 ^ 64) (W : World) : Calls ak 278 #[.int .i64 (m : Int), .int .u64 (x : Int)] W fun e W' => e = .returned (.int .i64 (sgn (m : Int) x)) /\ Below W.heap.size W W' := by
 obtain ⟨t, ht⟩ : ∃ t, t = trn (m : Int) x := ⟨_, rfl⟩
 have lt : t < 2 ^ m := ht ▸ pN rfl hm.le.1 hm.le.2 hx
 obtain ⟨q, hq⟩ : ∃ q, m = q + 1 := ⟨m - 1, by have := hm.le; omega⟩
 have hs : sgn (m : Int) x = if 2 ^ q <= t then (t : Int) - ((2 ^ m : Nat) : Int) else (t : Int) := by
  unfold sgn
  rw [if_pos (by have := hm.le; omega), <- ht, show ((m : Int) - 1).toNat = q from by omega, av]
 have hh := high_bit (m := q) (t := t) (by rw [<- hq]; exact lt)
 have hp2 := pow_lt64 (m := q) (by have := hm.le; omega)
 have hP : 2 ^ m = 2 * 2 ^ q := by rw [hq, Nat.pow_succ]; omega
 have H := I (ae ht (ae lt (ae hq (ae hm (ae hx (ae hp2 hP))))))
 rw [hs]
 have hq1 : (m : Int) - 1 = (q : Int) := by have := hm.le; omega
 have HQ := I hq1
 clear ht lt hq hs hx hp2 hP hq1
 by_cases g : 2 ^ q <= t
 ·rw [if_pos g] at hh ⊢
  have HG := I (ae g hh)
  clear g hh
  rcases cu (m : Int) 64 with hw | hw
  ·have hs1 : shl .i64 1 (m : Int) = wrap64 ((2 ^ m : Nat) : Int) := by
    unfold shl
    rw [show min (((m : Nat) : Int).toNat) IntKind.i64.bits = m from by simp [ik]; omega, i64w, Int.one_mul, Int.natCast_pow]; rfl
   have HS := I hs1
   have hwm : IntKind.u64.wrap (m : Int) = (m : Int) := jT (by omega) (by omega)
   clear hm hs1
   go_enter Tryz.func278, Tryz.ntmps278
   refine bE ?_
   intro gg
   go_wp2_with fail
   refine (aD (g := gg) (dU m (by have := H.out.2.2.2.1.le; omega) (by omega) gg.W)).mono ?_
   rintro _ _ ⟨rfl, gg, rfl⟩
   go_wp2_with fail
   refine (aD (g := gg) (d6 m (by have := H.out.2.2.2.1.le; omega) rfl H.out.2.2.2.2.1 gg.W)).mono ?_
   rintro _ _ ⟨rfl, gg, rfl⟩
   rw [<- H.out.1]
   go_wp2_with fail
   refine (aD (g := gg) (bit_b t HG.out.2 HQ.out (by have := H.out.2.2.1; omega) gg.W)).mono ?_
   rintro _ _ ⟨rfl, gg, rfl⟩
   go_wp2_with fail
   go_ret
   refine ⟨ret_i64 ?_, gg.below⟩
   have e2 : (2 : Int) ^ m = ((2 ^ m : Nat) : Int) := by rw [Int.natCast_pow]; rfl
   have h1 := pow_lt64 (m := m) (by omega)
   have h2 := H.out.2.1
   have h3 := H.out.2.2.2.2.2.2
   have h4 := HG.out.1
   show wrap64 (wrap64 (t : Int) - wrap64 (2 ^ m)) = _
   rw [e2]
   rw [h3] at h1 h2 ⊢
   generalize 2 ^ q = Q at h1 h2 h4 ⊢
   rw [w64, w64, w64]
   omega
  ·have hm64 : m = 64 := by have := hm.le; omega
   have HM := I hm64
   have hw2 : ¬ (m : Int) < 64 := by omega
   have hm65 : (m : Int) < 65 := by omega
   clear hm hm64
   go_enter Tryz.func278, Tryz.ntmps278
   refine bE ?_
   intro gg
   go_wp2_with fail
   refine (aD (g := gg) (dU m (by have := H.out.2.2.2.1.le; omega) (by have := H.out.2.2.2.1.le; omega) gg.W)).mono ?_
   rintro _ _ ⟨rfl, gg, rfl⟩
   go_wp2_with fail
   refine (aD (g := gg) (d6 m (by have := H.out.2.2.2.1.le; omega) rfl H.out.2.2.2.2.1 gg.W)).mono ?_
   rintro _ _ ⟨rfl, gg, rfl⟩
   rw [<- H.out.1]
   go_wp2_with fail
   refine (aD (g := gg) (bit_b t HG.out.2 HQ.out (by have := H.out.2.2.1; have := H.out.2.2.2.1.le; omega) gg.W)).mono ?_
   rintro _ _ ⟨rfl, gg, rfl⟩
   go_wp2_with fail
   go_ret
   refine ⟨ret_i64 ?_, gg.below⟩
   have h2 := H.out.2.1
   have h4 := HG.out.1
   have h5 : q = 63 := by have := H.out.2.2.1; have := HM.out; omega
   rw [HM.out] at h2
   rw [h5, p63] at h4
   rw [p64] at h2
   show wrap64 (t : Int) = _
   rw [HM.out, p64, w64]
   omega
 ·have g' := g
  rw [if_neg g] at hh ⊢
  have HG := I (ae g hh)
  have hm65 : (m : Int) < 65 := by have := hm.le; omega
  clear g hh hm g'
  go_enter Tryz.func278, Tryz.ntmps278
  refine bE ?_
  intro gg
  go_wp2_with fail
  refine (aD (g := gg) (dU m (by have := H.out.2.2.2.1.le; omega) (by have := H.out.2.2.2.1.le; omega) gg.W)).mono ?_
  rintro _ _ ⟨rfl, gg, rfl⟩
  go_wp2_with fail
  refine (aD (g := gg) (d6 m (by have := H.out.2.2.2.1.le; omega) rfl H.out.2.2.2.2.1 gg.W)).mono ?_
  rintro _ _ ⟨rfl, gg, rfl⟩
  rw [<- H.out.1]
  go_wp2_with fail
  refine (aD (g := gg) (bit_b t HG.out.2 HQ.out (by have := H.out.2.2.1; have := H.out.2.2.2.1.le; omega) gg.W)).mono ?_
  rintro _ _ ⟨rfl, gg, rfl⟩
  go_wp2_with fail
  go_ret
  refine ⟨ret_i64 ?_, gg.below⟩
  have h2 := HG.out.1
  have h3 := H.out.2.2.2.2.2.1
  show wrap64 (t : Int) = _
  rw [w64]
  generalize 2 ^ q = Q at h2 h3
  omega
end
end Go.Proofs.YtfigjpehecibeaaGreat.L
namespace Go.Proofs.YtfigjpehecibeaaGreat.C
open Go.RowKit Bm
def src (op : Int) (m n i : Nat) : Option Nat := if op = 25 then (if n <= i then ac (i - n) else ag) else if op = 26 then (if i + n < m then ac (i + n) else ag) else if op = 27 then ac (min (i + n) (m - 1)) else if op = 28 then ac ((i + (m - n)) % m) else ac ((i + n) % m)
def fL (x : Nat) : Option Nat -> Nat
 | some a => x / 2 ^ a % 2
 | none => 0
theorem mW {N i : Nat} {b : Bool} (h : N.testBit i = b) : N / 2 ^ i % 2 = b.toNat := by rw [<- Bn.l6, h]
theorem movn_src {op : Int} {m x n i : Nat} (h1 : 1 <= m) (hx : x < 2 ^ m) (hn : n < m) (hi : i < m) (ho : op = 25 \/ op = 26 \/ op = 27 \/ op = 28 \/ op = 29) : movn op m x n / 2 ^ i % 2 = fL x (src op m n i) := by
 rcases ho with rfl | rfl | rfl | rfl | rfl
 ·show (x * 2 ^ n % 2 ^ m) / 2 ^ i % 2 = fL x (if n <= i then ac (i - n) else ag)
  rw [mW (Bn.shlbit m x n i hi)]
  by_cases g : n <= i
  ·rw [if_pos g]; simp [g, fL, Bn.l6]
  ·rw [if_neg g]; simp [g, fL]
 ·show (x / 2 ^ n) / 2 ^ i % 2 = fL x (if i + n < m then ac (i + n) else ag)
  rw [mW (Bn.shrbit m x n i hx)]
  by_cases g : i + n < m
  ·rw [if_pos g]; simp [g, fL, Bn.l6]
  ·rw [if_neg g]; simp [g, fL]
 ·show (if 2 ^ (m - 1) <= x then (x + 2 ^ m * (2 ^ n - 1)) / 2 ^ n else x / 2 ^ n) / 2 ^ i % 2 = x / 2 ^ (min (i + n) (m - 1)) % 2
  have hb : (if 2 ^ (m - 1) <= x then (x + 2 ^ m * (2 ^ n - 1)) / 2 ^ n else x / 2 ^ n).testBit i = x.testBit (min (i + n) (m - 1)) := by
   obtain ⟨q, rfl⟩ : ∃ q, m = q + 1 := ⟨m - 1, by omega⟩
   have hh := high_bit hx
   rw [<- Bn.l6] at hh
   rw [show q + 1 - 1 = q from rfl] at *
   by_cases g : 2 ^ q <= x
   ·rw [if_pos g] at hh ⊢
    exact Bn.sarbit (q + 1) x n i hx (by revert hh; show (x.testBit q).toNat = 1 -> x.testBit q = af; cases x.testBit q <;> simp) (by omega) hi
   ·rw [if_neg g] at hh ⊢
    rw [Bn.shrbit (q + 1) x n i hx]
    have hz : x.testBit q = J := by revert hh; cases x.testBit q <;> simp
    by_cases g2 : i + n < q + 1
    ·rw [cy (by omega)]; simp [g2]
    ·rw [iw (by omega), hz]; simp [g2]
  rw [mW hb, Bn.l6]
 ·show ((x * 2 ^ n ||| x / 2 ^ (m - n)) % 2 ^ m) / 2 ^ i % 2 = x / 2 ^ ((i + (m - n)) % m) % 2
  rw [mW (Bn.rolbit m x n i hx hn hi), Bn.l6]
 ·show ((x * 2 ^ ((m - n) % m) ||| x / 2 ^ (m - (m - n) % m)) % 2 ^ m) / 2 ^ i % 2 = x / 2 ^ ((i + n) % m) % 2
  have hk : (m - n) % m < m := gm _ (by omega)
  have er : (i + (m - (m - n) % m)) % m = (i + n) % m := by
   by_cases h0 : n = 0
   ·subst h0; simp
   ·rw [fp (show m - n < m by omega), show m - (m - n) = n from by omega]
  rw [mW (Bn.rolbit m x _ i hx hk hi), er, Bn.l6]
end Go.Proofs.YtfigjpehecibeaaGreat.C
