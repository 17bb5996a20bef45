/- Texts joined by a program of mine: Na Rh Xb Sb Sc Sd Se Sf Sg Xc Sh Si Sj. -/
import Derived.Test.YtfigjpehecibeaaGreatZg8
import Derived.Test.YtfigjpehecibeaaGreatZg9
import Derived.Test.YtfigjpehecibeaaGreatZg10
open And renaming intro -> ae
open Bool renaming true -> ac, false -> J
open Go.Act renaming put -> au
open Go.IntKind renaming bits -> ij
open Go.Proofs.Tryz renaming prog -> aq
open Go.Proofs.YtfigjpehecibeaaGreatW.PrintWords.Aside0 renaming mk -> I
open Go.RowKit.Below renaming refl -> aj, alloc -> iw, drew -> gj, heap_setCell -> ed
open Go.Value renaming bool -> ic, int -> bc, ownBlock -> dr
open Go.World renaming setCell -> iu
open Int renaming toNat_natCast -> aw, eq_ofNat_of_zero_le -> dx
open List renaming length_replicate -> je, replicate -> cg, append_nil -> dn, setIfInBounds_toArray -> aa, set_cons_zero -> ag, set_cons_succ -> ah, range -> bu, getElem?_eq_getElem -> ax, mem_range -> jg, getD_eq_getElem?_getD -> av, getElem?_map -> iv, getElem?_set -> jw, getElem?_eq_none -> cz, range_succ -> jx, map_append -> ez, map_cons -> cd, map_nil -> cn, getElem_mem -> fg, map_toArray -> bq, eq_nil_of_length_eq_zero -> cf
open Nat renaming le_refl -> ak, zero_le -> bh, min_eq_right -> il, min_eq_left -> db, le_trans -> bi, le_succ -> jd, not_lt_zero -> cw, mul_one -> gm, add_zero -> fp, lt_of_lt_of_le -> bk, lt_or_ge -> gh, mod_eq_of_lt -> dw, pow_le_pow_right -> ji, ne_of_lt -> jf, eq_zero_or_pos -> cm
open Option renaming some -> af, none -> ai, map_eq_some_iff -> iz
open Or renaming inl -> az
set_option linter.unusedVariables false
set_option linter.unusedSimpArgs false
set_option maxHeartbeats 8000000
namespace Go.Proofs.YtfigjpehecibeaaGreat.L
open Go.RowKit Bm C Go.Maps Go.Proofs.YtfigjpehecibeaaGreatW.PrintWords Go.Proofs.YtfigjpehecibeaaGreatW.PrintLast Go.Proofs.YtfigjpehecibeaaGreatW.PrintMore Go.Proofs.YtfigjpehecibeaaGreat.Gr
section
set_option maxRecDepth 100000
theorem bool_lit (W:World)(b:Bool):Kd.bool.C (W.alloc (.cells #[.bool b] 4)) (af ⟨W.heap.size,0,ai⟩) 1 [b]:=
 (Kd.qF (n:=1) (c:=1) (show Kd.bool.R 4 (W.alloc (.cells #[.bool b] 4)) W.heap.size (fun _=>True) (.slice (af ⟨W.heap.size,0,ai⟩) 1 1) [b] from⟨fun _ _=>trivial,[.bool b],own_lit_of (enc:=ic) W W.heap.size 4 [b] (ak _) (by simp),gR.one rfl (gR.none _ _)⟩)).2.2
theorem mC {a b c:World}(h:Below a.heap.size a b)(k:Below b.heap.size b c):Below a.heap.size a c:=h.trans (k.mono h.size)
theorem lit_at {W V U:World}{b:Bool}(h:Below (W.alloc (.cells #[.bool b] 4)).heap.size (W.alloc (.cells #[.bool b] 4)) V)(k:Below V.heap.size V U):Kd.bool.C U (af ⟨W.heap.size,0,ai⟩) 1 [b]:=Kd.aF (bool_lit W b) (mC h k)
theorem l7 (nm:ByteArray)(wd ln:Int)(ds:List S70)(bd:List S119)(A3:Option Addr)(c3:Nat)(A4:Option Addr)(c4:Nat)(W:World)(hp:ProgAt W ds bd A3 c3 A4 c4)(hg:PGood nm wd ln ds bd):
 Calls aq 17 #[.agg #[.string nm,.int .i64 wd,.int .i64 ln,.slice A3 ds.length c3,.slice A4 bd.length c4]] W fun e W'=>∃v,e=.returned (.tuple #[v,.int .i64 (dU nm wd ln ds bd).2])/\Kd.bool.R 4 W' W.heap.size (fun _=>True) v (dU nm wd ln ds bd).1/\Below W.heap.size W W':=by
 obtain⟨xb,hxb⟩:∃b,b=W.heap.size:=⟨_,rfl⟩
 obtain⟨n,hn⟩:∃n,n=ds.length:=⟨_,rfl⟩
 obtain⟨X,hX⟩:∃X,X=W.alloc (.cells #[.string nm,.int .i64 wd,.int .i64 ln,.slice A3 ds.length c3,.slice A4 bd.length c4] 25):=⟨_,rfl⟩
 have hXB:Below W.heap.size W X:=by rw[hX];exact(aj _ _).alloc (ak _) _
 have hbx:X.heap[xb]? =af (.cells #[.string nm,.int .i64 wd,.int .i64 ln,.slice A3 ds.length c3,.slice A4 bd.length c4] 25 (0,0)):=by rw[hX,hxb];exact aW _ _
 obtain⟨r,hr⟩:∃r,r=bE nm wd ln ds bd:=⟨_,rfl⟩
 have HCK:=I (r8 nm wd ln ds bd A3 c3 A4 c4 X (hp.below hXB) hg r hr)
 have hn1:n<=1048576:=by rw[hn];exact hg.sizes.1
 have hd:=hp.hd
 rw[←hn]at HCK hbx hX hd ⊢
 have HX:=I (ae hXB (ae hbx (ae hd (ae hn (ae hr hxb)))))
 have HXE:=I (ae hX hxb)
 have x0:X.cell? ⟨xb,0,ai⟩=af (.string nm):=(aA hbx 0).trans rfl
 have x1:X.cell? ⟨xb,1,ai⟩=af (.int .i64 wd):=(aA hbx 1).trans rfl
 have x2:X.cell? ⟨xb,2,ai⟩=af (.int .i64 ln):=(aA hbx 2).trans rfl
 have x3:X.cell? ⟨xb,3,ai⟩=af (.slice A3 n c3):=(aA hbx 3).trans rfl
 have x4:X.cell? ⟨xb,4,ai⟩=af (.slice A4 bd.length c4):=(aA hbx 4).trans rfl
 clear hp hg hX hxb hXB hbx hr hd hn
 go_enter Tryz.func17,Tryz.ntmps17
 go_upto_region 1 with (fail)
 rw[←HXE.out.1,←HXE.out.2]
 go_wp2_with fail
 refine HCK.out.mono ?_
 rintro _ w1 ⟨rfl,hb1⟩
 have H1:=I hb1
 clear x0 x1 x2 x3 x4 hb1
 by_cases he:r.e=0
 ·have HF:=I (show(bE nm wd ln ds bd).e=0 from by rw[←HX.out.2.2.2.2.1];exact he)
  have he0:(r.e==0)=ac:=beq_iff_eq.2 he
  have x3:w1.cell? ⟨xb,3,ai⟩=af (.slice A3 n c3):=(aA (aB HX.out.2.1 H1.out) 3).trans rfl
  go_wp2_with fail
  clear x3
  go_loopw [5,16] (fun o i W'=>∃(k:Nat) (vo:Value),vo=o/\i=.int .i64 k/\k<=n/\Aside0 (Below X.heap.size X W'/\Kd.bool.R 4 W' X.heap.size (fun _=>True) vo (gO ds k))) (fun _ i _=>n - (intOf i).toNat)
  case atStart=>exact⟨0,_,rfl,rfl,bh _,⟨H1.out,Kd.jZ _ _ _ _ _⟩⟩
  case round=>
   obtain⟨k,vo,rfl,rfl,hk,HB⟩:=hrel
   by_cases hlt:k<n
   ·have hlt2:(k:Int)<(n:Int):=by omega
    have hw0:=HX.out.1.trans (HB.out.1.mono HX.out.1.size)
    obtain⟨ad,A9,c9,e1,q0,q1,q2,q3,l9,g9⟩:=eD HX.out.2.2.1 (k:Int) (by omega) (by omega)
    cases e1
    rw[aw]at q0 q1 q2 q3
    have hkd:k<ds.length:=by rw[←HX.out.2.2.2.1];exact hlt
    have RD:=dB HF.out k hkd
    have PL:=jN (fun i hi=>dB HF.out i hi) k (Nat.le_of_lt hkd)
    obtain⟨d,hd⟩:∃d,d=aI ds (k:Int):=⟨_,rfl⟩
    have PS:gO ds (k+1)=gO ds k++pubD d:=by rw[hd];rfl
    rw[←hd]at q0 q1 q2 q3 l9 g9 RD
    have p0:=aE hw0 q0
    have p1:=aE hw0 q1
    have p2:=aE hw0 q2
    have p3:=aE hw0 q3
    obtain⟨wn,w2,w3⟩:=iO RD.2
    obtain⟨nw,hnw⟩:=dx (show 0<=cU d by omega)
    obtain⟨Wi,hWi⟩:∃Wi,Wi=wr.alloc (.cells #[.int .i64 d.f0,.string d.f1,.int .i64 d.f2,.slice A9 d.f3.length c9] 70):=⟨_,rfl⟩
    obtain⟨gb,hgb⟩:∃b,b=wr.heap.size:=⟨_,rfl⟩
    have hWB:Below wr.heap.size wr Wi:=by rw[hWi];exact(aj _ _).alloc (ak _) _
    have hbw:Wi.heap[gb]? =af (.cells #[.int .i64 d.f0,.string d.f1,.int .i64 d.f2,.slice A9 d.f3.length c9] 70 (0,0)):=by rw[hWi,hgb];exact aW _ _
    have hXW:=HB.out.1.trans (hWB.mono HB.out.1.size)
    have HW:=I (ae hXW (ae hbw (ae (Kd.bJ HB.out.2 hWB) (ae g9 (ae l9 (ae hnw.symm (ae RD.2 (ae PS PL))))))))
    have hk0:=RD.1
    have hnw1:nw<=256:=by omega
    have PLK:=I (show(gO ds k).length<=268435456 by omega)
    clear q0 q1 q2 q3 l9 g9 hd hkd RD PS PL wn w2 w3 hnw hWB hbw hXW hw0
    go_upto_region 8 with (fail)
    rw[←hgb]
    rw[←hWi]
    clear hWi hgb p0 p1 p2 p3
    have HBW:=I (show ∀g:G Wi,g.W.heap[gb]? =af (.cells #[.int .i64 d.f0,.string d.f1,.int .i64 d.f2,.slice A9 d.f3.length c9] 70 (0,0)) from fun g=>aB HW.out.2.1 g.below)
    have b0:∀g:G Wi,g.W.cell? ⟨gb,0,ai⟩=af (.int .i64 d.f0):=fun g=>(aA (HBW.out g) 0).trans rfl
    have b1:∀g:G Wi,g.W.cell? ⟨gb,1,ai⟩=af (.string d.f1):=fun g=>(aA (HBW.out g) 1).trans rfl
    have b2:∀g:G Wi,g.W.cell? ⟨gb,2,ai⟩=af (.int .i64 d.f2):=fun g=>(aA (HBW.out g) 2).trans rfl
    have b3:∀g:G Wi,g.W.cell? ⟨gb,3,ai⟩=af (.slice A9 d.f3.length c9):=fun g=>(aA (HBW.out g) 3).trans rfl
    have HC9:=I (show ∀W',Below Wi.heap.size Wi W'->(Kd.int .u64).C W' A9 d.f3.length d.f3 from fun W' h=>Kd.aF HW.out.2.2.2.1 (HX.out.1.trans ((HW.out.1.trans (h.mono HW.out.1.size)).mono HX.out.1.size)))
    refine aG ?_
    intro gg
    obtain⟨inb,hin⟩:∃b,b=decide (d.f0=1\/d.f0=2):=⟨_,rfl⟩
    go_wp2_with fail
    refine(aD (g:=gg) (input_v hin A9 c9 gg.W (HC9.out _ gg.below) HW.out.2.2.2.2.1)).mono ?_
    rintro _ _ ⟨rfl,gg,rfl⟩
    by_cases hi1:d.f0=1\/d.f0=2
    ·have HI1:=I hi1
     rw[decide_eq_true hi1]at hin
     subst hin
     obtain⟨b,hbb⟩:∃b,(d.f0==1)=b:=⟨_,rfl⟩
     have HBB:=I hbb
     clear hi1
     have HNW:=I (show 1<=nw/\nw<=256 from⟨by have:=(iO HW.out.2.2.2.2.2.2.1).2;have:=HW.out.2.2.2.2.2.1;omega,hnw1⟩)
     have HVO:=I (show Kd.bool.R 4 gg.W X.heap.size (fun _=>True) vo (gO ds k)/\Below X.heap.size X gg.W from⟨Kd.bJ HW.out.2.2.1 gg.below,HW.out.1.trans (gg.below.mono HW.out.1.size)⟩)
     have LEN:=I (show((gO ds k).length+nw)*1<=140737488355328 by have:=PLK.out;omega)
     have HBX:=I (HBW.out gg)
     have HC0:=I (HC9.out _ gg.below)
     have CF:=I (show ∀w':World,w'.heap[gb]? =af (.cells #[.int .i64 d.f0,.string d.f1,.int .i64 d.f2,.slice A9 d.f3.length c9] 70 (0,0))->w'.cell? ⟨gb,0,ai⟩=af (.int .i64 d.f0)/\w'.cell? ⟨gb,1,ai⟩=af (.string d.f1)/\w'.cell? ⟨gb,2,ai⟩=af (.int .i64 d.f2)/\w'.cell? ⟨gb,3,ai⟩=af (.slice A9 d.f3.length c9) from fun w' h=>⟨(aA h 0).trans rfl,(aA h 1).trans rfl,(aA h 2).trans rfl,(aA h 3).trans rfl⟩)
     obtain⟨c0,c1,c2,c3⟩:=CF.out gg.W.drew HBX.out
     go_upto_region 9 with (fail)
     clear b0 b1 b2 b3
     go_region_held3 (fun w'=>w'.cell? ⟨gb,0,ai⟩=af (.int .i64 d.f0)/\w'.cell? ⟨gb,1,ai⟩=af (.string d.f1)/\w'.cell? ⟨gb,2,ai⟩=af (.int .i64 d.f2)/\w'.cell? ⟨gb,3,ai⟩=af (.slice A9 d.f3.length c9))
      (first | exact CF.out _ hx5 | exact CF.out _ hx4 | exact CF.out _ hx3 | exact CF.out _ HBX.out | exact CF.out _ (aB hx3 (by first | exact aj _ _ | exact iw (aj _ _) (ak _) _ | exact gj (aj _ _) | exact gj (iw (aj _ _) (ak _) _) | exact gj (iw (gj (aj _ _)) (ak _) _))) | exact CF.out _ (aB HBX.out (by first | exact aj _ _ | exact iw (aj _ _) (ak _) _ | exact gj (aj _ _) | exact gj (iw (aj _ _) (ak _) _) | exact gj (iw (gj (aj _ _)) (ak _) _))))
      (first | (go_at_call 63;refine(words_v HW.out.2.2.2.2.2.2.1 HW.out.2.2.2.2.2.1 A9 c9 _ (Kd.aF HC0.out (by first | exact aj _ _ | exact iw (aj _ _) (ak _) _ | exact gj (aj _ _) | exact gj (iw (aj _ _) (ak _) _) | exact gj (iw (gj (aj _ _)) (ak _) _))) HW.out.2.2.2.2.1).mono ?_;rintro _ w3 ⟨rfl,hb3⟩;have hB3:Below gg.W.heap.size gg.W w3:=mC (by first | exact aj _ _ | exact iw (aj _ _) (ak _) _ | exact gj (aj _ _) | exact gj (iw (aj _ _) (ak _) _) | exact gj (iw (gj (aj _ _)) (ak _) _)) hb3;have hx3:=aB HBX.out hB3;first | (have hl3:=lit_at (W:=gg.W) (b:=b) (gj (aj _ _)) hb3) | (have hl3:=lit_at (W:=gg.W) (b:=b) (aj _ _) hb3) | skip) | (go_at_call 62;(first | (refine(pI b nw HNW.out.1 HNW.out.2 (af ⟨gg.W.heap.size,0,ai⟩) 1 w3 hl3 (by simp)).mono ?_) | (refine(pI b nw HNW.out.1 HNW.out.2 (af ⟨w3.heap.size,0,ai⟩) 1 _ (lit_at (W:=w3) (b:=b) (by first | exact aj _ _ | exact iw (aj _ _) (ak _) _ | exact gj (aj _ _) | exact gj (iw (aj _ _) (ak _) _) | exact gj (iw (gj (aj _ _)) (ak _) _)) (aj _ _)) (by simp)).mono ?_));rintro _ w4 ⟨vr,rfl,hvr,hb4⟩;obtain⟨Ar,cr,hv,lr,hcr⟩:=Kd.dC hvr;subst hv;rw[je]at lr hcr ⊢;have hB4:Below gg.W.heap.size gg.W w4:=mC hB3 (mC (by first | exact aj _ _ | exact iw (aj _ _) (ak _) _ | exact gj (aj _ _) | exact gj (iw (aj _ _) (ak _) _) | exact gj (iw (gj (aj _ _)) (ak _) _)) hb4);have hx4:=aB HBX.out hB4;clear hvr) | (refine Kd.dY Kd.bool (Rr:=Kd.bool.K w4) (w0:=X) X.heap.size (by rfl) (.tmp 22) (.tmp 29) 30 4 (.bool J) 1 rfl under30 info4 rfl (show 0<1 by decide) (by decide) vo (gO ds k) (cg nw b) Ar nw cr (fun _=>True) (fun _=>False) (by rfl) (by rfl) (Kd.bJ HVO.out.1 hB4) hcr (fun _ _ h=>h) (fun _ h=>h.elim) (fun _ _=>trivial) (mC HVO.out.2 hB4) (mC HVO.out.2 hB4).size LEN.out ?_;intro v1 u1 hr1 hb1 hg1 hat1;have hx5:=gK hx4 hg1 (Kd.R_ne (Kd.bJ HVO.out.1 hB4) hx4 (by decide))))
     all_goals(
      have HN:=I (show Below X.heap.size X u1/\Kd.bool.R 4 u1 X.heap.size (fun _=>True) v1 (gO ds (k+1)) from⟨hb1,by rw[HW.out.2.2.2.2.2.2.2.1,pubD,if_pos HI1.out,←HW.out.2.2.2.2.2.1,aw,HBB.out];exact hr1⟩)
      clear hr1 hb1 hg1 hat1 hbb
      go_wp2_with fail
      go_roundw
      case measure=>simp[intOf];omega
      case rel=>exact⟨k+1,_,rfl,show _ =bc .i64 ((k+1:Nat):Int) from by go_num,by omega,HN⟩)
    ·have HN:=I (show Below X.heap.size X gg.W/\Kd.bool.R 4 gg.W X.heap.size (fun _=>True) vo (gO ds (k+1)) from⟨HW.out.1.trans (gg.below.mono HW.out.1.size),by rw[HW.out.2.2.2.2.2.2.2.1,pubD,if_neg hi1,dn];exact Kd.bJ HW.out.2.2.1 gg.below⟩)
     rw[decide_eq_false hi1]at hin
     subst hin
     clear hi1 b0 b1 b2 b3
     go_wp2_with fail
     go_roundw
     case measure=>simp[intOf];omega
     case rel=>exact⟨k+1,_,rfl,show _ =bc .i64 ((k+1:Nat):Int) from by go_num,by omega,HN⟩
   ·have hkn:k=n:=by omega
    have HKN:=I hkn
    have hge:¬(k:Int)<(n:Int):=by omega
    clear hkn
    go_wp2_with fail
    go_ret2
    have ha:=(eR nm wd ln ds bd).1 HF.out
    refine⟨vo,?_,?_,HX.out.1.trans (HB.out.1.mono HX.out.1.size)⟩
    ·rw[ha];rfl
    ·rw[ha,←HX.out.2.2.2.1,←HKN.out];exact Kd.fQ HB.out.2 HX.out.1.size
 ·have HF:=I (show ¬(bE nm wd ln ds bd).e=0 from by rw[←HX.out.2.2.2.2.1];exact he)
  go_wp2_with fail
  go_ret2
  have ha:=(eR nm wd ln ds bd).2 HF.out
  refine⟨.slice ai 0 0,?_,?_,HX.out.1.trans (H1.out.mono HX.out.1.size)⟩
  ·rw[ha,←HX.out.2.2.2.2.1];rfl
  ·rw[ha];exact Kd.jZ _ _ _ _ _
section
attribute [local go_sem] G.cell
theorem length_calls (nm:ByteArray)(wd ln:Int)(ds:List S70)(bd:List S119)(A3:Option Addr)(c3:Nat)(A4:Option Addr)(c4:Nat)(W:World)(hp:ProgAt W ds bd A3 c3 A4 c4)(hg:PGood nm wd ln ds bd):
 Calls aq 15 #[.agg #[.string nm,.int .i64 wd,.int .i64 ln,.slice A3 ds.length c3,.slice A4 bd.length c4]] W fun e W'=>e=.returned (.tuple #[.int .i64 ((dU nm wd ln ds bd).1.length:Int),.int .i64 (dU nm wd ln ds bd).2])/\Below W.heap.size W W':=by
 have gout:∀{o:Obj} (g:G (W.alloc o)),Below W.heap.size W g.W:=fun g=>((aj _ _).alloc (ak _) _).trans (g.below.mono (by simp))
 have HP:=I (fun W' (h:Below W.heap.size W W')=>l7 nm wd ln ds bd A3 c3 A4 c4 W' (hp.below h) hg)
 clear hp hg
 go_enter Tryz.func15,Tryz.ntmps15
 go_upto_region 1 with (fail)
 refine aG ?_
 intro gg
 go_wp2_with fail
 refine(HP.out gg.W (gout gg)).mono ?_
 rintro _ w1 ⟨v,rfl,hR,hB⟩
 obtain⟨Av,cv,hv⟩:=Kd.cD hR
 subst hv
 have HB:=I ((gout gg).trans (hB.mono (gout gg).size))
 clear hR hB
 go_wp2_with fail
 go_ret2
 exact⟨rfl,HB.out⟩
end
end
section
set_option maxRecDepth 100000
theorem min64 (ats:Array TypeId)(ty:TypeId)(m:Nat):Builtin.min_ ats ty #[.int .i64 (m:Int),.int .i64 64]=pure (.int .i64 ((min m 64:Nat):Int)):=by
 rw[j7,iA]
 by_cases h:(64:Int)<(m:Int)
 ·rw[if_pos h,il (by omega)];rfl
 ·rw[if_neg h,db (by omega)];rfl
attribute [local go_sem high] min64
theorem k101_new {w:World}{base:Nat}{v:Value}(h:w.ownsRow base 101 3 v 0 []):mG.R 101 w base (fun _=>True) v []:=⟨fun _ _=>trivial,[],h,gR.none _ _⟩
theorem info101':∃i,Tryz.prog.info? 101=af i/\i.zero=af (.agg #[.int .i64 0,.int .u64 0,.int .u64 0])/\i.size=3/\i.bytes=24:=by
 obtain⟨i,hi,hz⟩:=iz.1 info101
 simp only[Prod.mk.injEq]at hz
 exact⟨i,hi,hz⟩
theorem sizeTop_calls (nm:ByteArray)(wd ln:Int)(ds:List S70)(bd:List S119)(A3:Option Addr)(c3:Nat)(A4:Option Addr)(c4:Nat)(w:World)(hp:ProgAt w ds bd A3 c3 A4 c4)(hg:PGood nm wd ln ds bd)(r:Int × Int)(hr:r=sizeS 1099511627776 nm wd ln ds bd):
 Calls aq 65 #[.agg #[.string nm,.int .i64 wd,.int .i64 ln,.slice A3 ds.length c3,.slice A4 bd.length c4]] w fun e w'=>e=.returned (.tuple #[.int .i64 r.1,.int .i64 r.2])/\Below w.heap.size w w':=size_calls nm wd ln ds bd A3 c3 A4 c4 w hp hg r hr
theorem run_calls (nm:ByteArray)(wd ln:Int)(ds:List S70)(bd:List S119)(A3:Option Addr)(c3:Nat)(A4:Option Addr)(c4:Nat)(W:World)(hp:ProgAt W ds bd A3 c3 A4 c4)(hg:PGood nm wd ln ds bd)(inp:List Int)(A:Option Addr)(cI:Nat)(hI:bT W A inp)(hu:∀v∈inp,U64 v)(hcI:inp.length<=cI):
 Calls aq 23 #[.agg #[.string nm,.int .i64 wd,.int .i64 ln,.slice A3 ds.length c3,.slice A4 bd.length c4],.slice A inp.length cI] W fun e W'=>∃vS vT,e=.returned (.tuple #[.agg #[vS,vT],.int .i64 (dW nm wd ln ds bd inp).1])/\EndAt W' vS vT (dW nm wd ln ds bd inp).2.1 (dW nm wd ln ds bd inp).2.2/\Below W.heap.size W W':=by
 obtain⟨X,hX⟩:∃X,X=(W.alloc (.cells #[.string nm,.int .i64 wd,.int .i64 ln,.slice A3 ds.length c3,.slice A4 bd.length c4] 25)).alloc (.cells #[.slice ai 0 0,.slice ai 0 0] 40):=⟨_,rfl⟩
 have hX1:Below W.heap.size W (W.alloc (.cells #[.string nm,.int .i64 wd,.int .i64 ln,.slice A3 ds.length c3,.slice A4 bd.length c4] 25)):=(aj _ _).alloc (ak _) _
 have hXB:Below W.heap.size W X:=by rw[hX];exact hX1.alloc (by simp) _
 have hbx:X.heap[W.heap.size]? =af (.cells #[.string nm,.int .i64 wd,.int .i64 ln,.slice A3 ds.length c3,.slice A4 bd.length c4] 25 (0,0)):=by
  rw[hX];exact aB (aW _ _) ((aj _ _).alloc (ak _) _)
 have hbr:X.heap[W.heap.size+1]? =af (.cells #[.slice ai 0 0,.slice ai 0 0] 40 (0,0)):=by
  rw[hX]
  have:=aW (W.alloc (.cells #[.string nm,.int .i64 wd,.int .i64 ln,.slice A3 ds.length c3,.slice A4 bd.length c4] 25)) (.cells #[.slice ai 0 0,.slice ai 0 0] 40)
  simpa using this
 obtain⟨⟨l,er⟩,hle⟩:∃r,r=dU nm wd ln ds bd:=⟨_,rfl⟩
 have HL2:=I (show Calls aq 15 #[.agg #[.string nm,.int .i64 wd,.int .i64 ln,.slice A3 ds.length c3,.slice A4 bd.length c4]] X fun e W'=>e=.returned (.tuple #[.int .i64 (l.length:Int),.int .i64 er])/\Below X.heap.size X W' from by
  have h:=length_calls nm wd ln ds bd A3 c3 A4 c4 X (hp.below hXB) hg
  rw[←hle]at h;exact h)
 have HX:=I (ae hXB (ae hbx (ae hbr (hp.below hXB))))
 have HI:=I (ae hI (ae hu (ae hcI hp)))
 have HG:=I hg
 have HLE:=I hle
 have x0:X.cell? ⟨W.heap.size,0,ai⟩=af (.string nm):=(aA hbx 0).trans rfl
 have x1:X.cell? ⟨W.heap.size,1,ai⟩=af (.int .i64 wd):=(aA hbx 1).trans rfl
 have x2:X.cell? ⟨W.heap.size,2,ai⟩=af (.int .i64 ln):=(aA hbx 2).trans rfl
 have x3:X.cell? ⟨W.heap.size,3,ai⟩=af (.slice A3 ds.length c3):=(aA hbx 3).trans rfl
 have x4:X.cell? ⟨W.heap.size,4,ai⟩=af (.slice A4 bd.length c4):=(aA hbx 4).trans rfl
 clear hp hg hI hu hcI hXB hX1 hbx hbr hle
 go_enter Tryz.func23,Tryz.ntmps23
 go_upto_region 1 with (fail)
 rw[←hX]
 clear hX
 go_wp2_with fail
 refine HL2.out.mono ?_
 rintro _ w1 ⟨rfl,hb1⟩
 have H1:=I hb1
 by_cases he:er=0
 ·by_cases hn:inp.length=l.length
  ·have HE:=I (show(bE nm wd ln ds bd).e=0/\l=gO ds ds.length from by
    have h:=HLE.out
    unfold dU at h
    by_cases h0:(bE nm wd ln ds bd).e=0
    ·rw[if_pos h0]at h
     injection h with h _
     exact⟨h0,h⟩
    ·rw[if_neg h0]at h
     injection h with _ h
     exact absurd (h.symm.trans he) h0)
   subst he
   rw[hn]
   have HN:=I hn
   clear x0 x1 x2 x3 x4 hb1 hn
   have hx1:=aB HX.out.2.1 H1.out
   have x0:w1.cell? ⟨W.heap.size,0,ai⟩=af (.string nm):=(aA hx1 0).trans rfl
   have x1:w1.cell? ⟨W.heap.size,1,ai⟩=af (.int .i64 wd):=(aA hx1 1).trans rfl
   have x2:w1.cell? ⟨W.heap.size,2,ai⟩=af (.int .i64 ln):=(aA hx1 2).trans rfl
   have x3:w1.cell? ⟨W.heap.size,3,ai⟩=af (.slice A3 ds.length c3):=(aA hx1 3).trans rfl
   have x4:w1.cell? ⟨W.heap.size,4,ai⟩=af (.slice A4 bd.length c4):=(aA hx1 4).trans rfl
   go_wp2_with fail
   have SZ:=I (size_right HE.out.1)
   refine(sizeTop_calls nm wd ln ds bd A3 c3 A4 c4 w1 (HX.out.2.2.2.below H1.out) HG.out _ SZ.out).mono ?_
   rintro _ w2 ⟨rfl,hb2⟩
   have H2:=I (H1.out.trans (hb2.mono H1.out.size))
   have HSZ:=I (size_le HE.out.1)
   obtain⟨most,hmost⟩:∃m:Nat,m=bV bd:=⟨_,rfl⟩
   rw[←hmost]
   have HMO:=I hmost
   have hm1:(most:Int)<=65536:=by have:=HSZ.out;omega
   clear hmost
   obtain⟨eb,heb⟩:∃b,b=w2.heap.size:=⟨_,rfl⟩
   obtain⟨w3,hw3⟩:∃w,w=w2.alloc (.cells #[.slice ai 0 0,.int .i64 (most:Int)] 84):=⟨_,rfl⟩
   have H3:=I (show Below w2.heap.size w2 w3/\w3.heap[eb]? =af (.cells #[.slice ai 0 0,.int .i64 (most:Int)] 84 (0,0))/\eb=w2.heap.size/\eb<w3.heap.size from⟨by rw[hw3];exact(aj _ _).alloc (ak _) _,by rw[hw3,heb];exact aW _ _,heb,by rw[hw3,heb];simp⟩)
   clear x0 x1 x2 x3 x4 hx1 hb2
   go_upto_region 8 with (fail)
   rw[←heb]
   rw[←hw3]
   clear heb hw3
   have hm0:(0:Int)<=(most:Int):=by omega
   have e1:w3.cell? ⟨eb,1,ai⟩=af (.int .i64 (most:Int)):=(aA H3.out.2.1 1).trans rfl
   obtain⟨ii,hi1,hi2,hi3,hi4⟩:=info101'
   have HII:=I (ae hi1 (ae hi2 (ae hi3 hi4)))
   clear hi1 hi2 hi3 hi4
   have HBA:=I (show W.heap.size<=w3.heap.size from bi (bi HX.out.1.size H2.out.size) H3.out.1.size)
   go_wp2_with (at_make;refine wpList_make_own w3 rfl (.const (.int .i64 0)) (.tmp 42) 38 rfl W.heap.size 101 ii (.agg #[.int .i64 0,.int .u64 0,.int .u64 0]) 3 under38 HII.out.1 HII.out.2.1 HII.out.2.2.1 .i64 .i64 _ (min most 64) rfl rfl rfl (by rw[HII.out.2.2.2];omega) (by unfold maxLen;omega) HBA.out ?_)
   intro w4 ho4 hg4
   have H4:=I (ae (k101_new ho4) hg4)
   clear ho4 hg4
   have he0:w4.cell? ⟨eb,0,ai⟩=af (.slice ai 0 0):=(aA (gK H3.out.2.1 H4.out.2 (by simp)) 0).trans rfl
   have he1:w4.frozen? ⟨eb,0,ai⟩=J:=aH (gK H3.out.2.1 H4.out.2 (by simp)) 0
   go_upto_region 9 with (fail)
   obtain⟨w5,hw5⟩:∃w,w=w4.setCell ⟨eb,0,ai⟩ (.slice (af ⟨w3.heap.size,0,ai⟩) 0 (min most 64)):=⟨_,rfl⟩
   have hb4:=gK H3.out.2.1 H4.out.2 (by simp)
   have hk5:Kt [84] ai X w5:=by
    rw[hw5]
    exact(((Kt.of_below H2.out [84] ai).trans (Kt.of_below H3.out.1 [84] ai)).grown H4.out.2 (fun k e=>by cases e)).set hb4 (by simp) 0 _
   have hB5:Below W.heap.size W w5:=by
    rw[hw5]
    have h1:=HX.out.1.trans (H2.out.mono HX.out.1.size)
    have h2:=h1.trans (H3.out.1.mono h1.size)
    exact(h2.grown H4.out.2 h2.size (fun k e=>by cases e)).setCell (p:=⟨eb,0,ai⟩) (by show W.heap.size<=eb;rw[H3.out.2.2.1];exact h1.size) _
   have hE5:∃vt,w5.heap[eb]? =af (.cells #[vt,.int .i64 (most:Int)] 84 (0,0))/\mG.R 101 w5 W.heap.size (fun _=>True) vt []:=by
    rw[hw5]
    exact⟨_,by simpa using bR hb4 0 (.slice (af ⟨w3.heap.size,0,ai⟩) 0 (min most 64)),Kd.R_set H4.out.1 hb4 (fun q hq=>by rw[E101 hq];decide) 0 _⟩
   have hx5:=hk5.blk _ _ _ _ HX.out.2.1 (by simp)
   have HST:=I (start_calls nm wd ln ds bd A3 c3 A4 c4 W w5 eb most HI.out.2.2.2 HG.out HE.out.1 inp A cI HI.out.1 HI.out.2.2.1 HI.out.2.1 (by rw[HN.out,HE.out.2]) hB5 (by rw[H3.out.2.2.1];exact bi HX.out.1.size H2.out.size) hE5)
   rw[HN.out]at HST
   have H5:=I (ae hk5 hB5)
   rw[←hw5]
   clear he0 he1 hw5 hb4 hk5 hB5 hE5 e1
   have x0:w5.cell? ⟨W.heap.size,0,ai⟩=af (.string nm):=(aA hx5 0).trans rfl
   have x1:w5.cell? ⟨W.heap.size,1,ai⟩=af (.int .i64 wd):=(aA hx5 1).trans rfl
   have x2:w5.cell? ⟨W.heap.size,2,ai⟩=af (.int .i64 ln):=(aA hx5 2).trans rfl
   have x3:w5.cell? ⟨W.heap.size,3,ai⟩=af (.slice A3 ds.length c3):=(aA hx5 3).trans rfl
   have x4:w5.cell? ⟨W.heap.size,4,ai⟩=af (.slice A4 bd.length c4):=(aA hx5 4).trans rfl
   clear hx5
   go_wp2_with fail
   refine HST.out.mono ?_
   rintro _ w6 ⟨mb,ab,lb,rfl,hM6,hk6⟩
   obtain⟨c,hc⟩:∃c:Cfg,c=⟨W,nm,wd,ln,ds,bd,A3,c3,A4,c4,mb,eb,ab,lb,most⟩:=⟨_,rfl⟩
   rw[←hc]at hM6
   have HC:=I hc
   have hX6:=hk6.blk _ _ _ _ (H5.out.1.blk _ _ _ _ HX.out.2.1 (by simp)) (by simp)
   have hR6:=hk6.blk _ _ _ _ (H5.out.1.blk _ _ _ _ HX.out.2.2.1 (by simp)) (by simp)
   have hmb2:c.mb=mb:=by rw[hc]
   have hS:=eE HE.out.1
   have HBD:=I (show BodyM c bd from body_calls c (by rw[hc];exact hS) _ bd (ak _))
   have hRK:=rok_right (wd:=wd) HG.out HE.out.1 HI.out.2.1
   have hTK:=tok_right HG.out HE.out.1
   have HCB:=I (show dN.C c.w0 A4 bd.length bd/\bd.length<=c4/\ROK c.ds (fM wd ds inp ds.length)/\(∀x∈bd,TOK c.ds [] x)/\c.eb=eb/\c.w0=W/\ds.length<=256 from by rw[hc];exact⟨HI.out.2.2.2.hb,HI.out.2.2.2.hlb,hRK,hTK,rfl,rfl,hS.few⟩)
   have H6:=I (ae hM6 (ae hX6 hR6))
   have x4':w6.cell? ⟨W.heap.size,4,ai⟩=af (.slice A4 bd.length c4):=(aA hX6 4).trans rfl
   rw[←hmb2]
   clear x0 x1 x2 x3 x4 hk6 hM6 hX6 hR6 hRK hTK hS hmb2 hc
   go_wp2_with fail
   refine(HBD.out w6 _ [] [] A4 c4 H6.out.1 HCB.out.2.2.1 (fun p hp=>absurd hp List.not_mem_nil) HCB.out.2.2.2.1 (by rw[List.length_nil];have:=HSZ.out;omega) HCB.out.1 HCB.out.2.1).mono ?_
   rintro _ w7 ⟨rfl,hM7,hk7,hr7⟩
   have HEN:=I (show eX c.wd c.ln c.ds bd [] (fM wd ds inp ds.length,[])=endOf wd ln ds bd inp from by rw[HC.out];rfl)
   rw[HEN.out]at hM7 hr7
   obtain⟨E,hE⟩:∃E,E=endOf wd ln ds bd inp:=⟨_,rfl⟩
   rw[←hE]at hM7 hr7
   obtain⟨vt,heb7,hT7⟩:=hM7.he
   obtain⟨At,ct,hvt⟩:=Kd.cD hT7
   subst hvt
   obtain⟨vr,hmb7,ts,hrt⟩:=hM7.hm
   obtain⟨Ar,cr,hvr,hsl⟩:=hrt.slot
   subst hvr
   have hlen:E.1.length=ds.length:=by have:=hr7.len;rw[HC.out]at this;exact this
   rw[HCB.out.2.2.2.2.1]at heb7
   have hx7:=hk7.blk _ _ _ _ H6.out.2.1 (by simp)
   have hr70:=hk7.blk _ _ _ _ H6.out.2.2 (by simp)
   have hlow:Below W.heap.size W w7:=by have:=hM7.low;rwa [HCB.out.2.2.2.2.2.1]at this
   have t0:w7.cell? ⟨eb,0,ai⟩=af (.slice At E.2.length ct):=(aA heb7 0).trans rfl
   obtain⟨n,hn⟩:∃n,n=ds.length:=⟨_,rfl⟩
   obtain⟨ob,hob⟩:∃b,b=w7.heap.size:=⟨_,rfl⟩
   obtain⟨w8,hw8⟩:∃w,w=w7.alloc (.cells #[.slice ai 0 0,.slice At E.2.length ct] 40):=⟨_,rfl⟩
   have hb8:Below w7.heap.size w7 w8:=by rw[hw8];exact(aj _ _).alloc (ak _) _
   have ho8:w8.heap[ob]? =af (.cells #[.slice ai 0 0,.slice At E.2.length ct] 40 (0,0)):=by rw[hw8,hob];exact aW _ _
   have HD3:=HI.out.2.2.2.hd
   rw[hlen]at hsl hmb7 hrt
   rw[←hn]at hsl hmb7 hrt hx7 HD3
   have H7:=I (ae hx7 (ae hr70 (ae hmb7 (ae hrt (ae hsl (ae hT7 (ae hlow (ae hlen (ae hn (ae hE HD3))))))))))
   have H8:=I (ae hb8 (ae ho8 hob))
   have hn256:n<=256:=by rw[hn];exact HCB.out.2.2.2.2.2.2
   have hx8:w8.cell? ⟨W.heap.size,3,ai⟩=af (.slice A3 n c3):=(aA (aB hx7 hb8) 3).trans rfl
   clear x4' hM7 hk7 hr7 heb7 hT7 hmb7 hrt hsl hlen hx7 hr70 hlow hn hE HD3 hb8 ho8
   go_upto_region 12 with (fail)
   rw[←hob]
   rw[←hw8]
   clear hob hw8 t0
   go_wp2_with fail
   clear hx8
   go_loopw [65] (fun i W'=>∃(k:Nat) (vo:Value),i=.int .i64 k/\k<=n/\Aside0 (Below w7.heap.size w7 W'/\kSl.R 36 W' w7.heap.size (fun _=>True) vo (dD ds ts k)/\W'.heap[ob]? =af (.cells #[vo,.slice At E.2.length ct] 40 (0,0)))) (fun i _=>n - (intOf i).toNat)
   case atStart=>exact⟨0,_,rfl,bh _,⟨H8.out.1,Kd.jZ _ _ _ _ _,H8.out.2.1⟩⟩
   case round=>
    obtain⟨k,vo,rfl,hk,HK⟩:=hrel
    by_cases hlt:k<n
    ·have hlt2:(k:Int)<(n:Int):=by omega
     have hw0:Below W.heap.size W wr:=H7.out.2.2.2.2.2.2.1.trans (HK.out.1.mono H7.out.2.2.2.2.2.2.1.size)
     obtain⟨ad,A9,c9,e1,q0,q1,q2,q3,l9,g9⟩:=eD H7.out.2.2.2.2.2.2.2.2.2.2 (k:Int) (by omega) (by omega)
     cases e1
     rw[aw]at q0 q1 q2 q3
     obtain⟨d,hd⟩:∃d,d=aI ds (k:Int):=⟨_,rfl⟩
     have TS:=toldT_succ ds ts k
     rw[←hd]at q0 q1 q2 q3 TS
     have p0:=aE hw0 q0
     have p1:=aE hw0 q1
     have p2:=aE hw0 q2
     have p3:=aE hw0 q3
     obtain⟨gb,hgb⟩:∃b,b=wr.heap.size:=⟨_,rfl⟩
     obtain⟨Wi,hWi⟩:∃Wi,Wi=wr.alloc (.cells #[.int .i64 d.f0,.string d.f1,.int .i64 d.f2,.slice A9 d.f3.length c9] 70):=⟨_,rfl⟩
     have hWB:Below wr.heap.size wr Wi:=by rw[hWi];exact(aj _ _).alloc (ak _) _
     have hbw:Wi.heap[gb]? =af (.cells #[.int .i64 d.f0,.string d.f1,.int .i64 d.f2,.slice A9 d.f3.length c9] 70 (0,0)):=by rw[hWi,hgb];exact aW _ _
     have d0:Wi.cell? ⟨gb,0,ai⟩=af (.int .i64 d.f0):=(aA hbw 0).trans rfl
     have HW:=I (ae (HK.out.1.trans (hWB.mono HK.out.1.size)) (ae hWB TS))
     clear q0 q1 q2 q3 l9 g9 hd TS hw0 hbw hWB
     go_upto_region 15 with (fail)
     rw[←hgb]
     rw[←hWi]
     clear hWi hgb p0 p1 p2 p3
     by_cases h3:d.f0=3
     ·have HN2:=I (show Below w7.heap.size w7 Wi/\kSl.R 36 Wi w7.heap.size (fun _=>True) vo (dD ds ts (k+1))/\Wi.heap[ob]? =af (.cells #[vo,.slice At E.2.length ct] 40 (0,0)) from⟨HW.out.1,by rw[HW.out.2.2,if_pos h3];exact Kd.bJ HK.out.2.1 HW.out.2.1,aB HK.out.2.2 HW.out.2.1⟩)
      have k3:(d.f0==3)=ac:=beq_iff_eq.2 h3
      have k4:(d.f0 != 3)=J:=by rw[bne,k3];rfl
      clear h3
      go_wp2_with fail
      go_roundw
      case measure=>simp[intOf];omega
      case rel=>exact⟨k+1,_,show _ =bc .i64 ((k+1:Nat):Int) from by go_num,by omega,HN2⟩
     ·obtain⟨ad2,eA,qs⟩:=H7.out.2.2.2.2.1 k hlt
      subst eA
      obtain⟨⟨t1,t2,t3⟩,ht⟩:∃t,t=ts.getD k zSl:=⟨_,rfl⟩
      rw[←ht]at qs
      replace qs:w7.cell? (ad2.add k)=af (.slice (af ⟨t1,0,ai⟩) t2 t3):=qs
      have HT:=I (show dD ds ts (k+1)=dD ds ts k++[(t1,t2,t3)] from by rw[HW.out.2.2,if_neg h3,ht])
      have TL:=I (show((dD ds ts k).length+1)*24<=140737488355328 by have:=toldIx_len ds k;simp[dD];omega)
      have HD:=I (show ∀g:G Wi,Below w7.heap.size w7 g.W/\kSl.R 36 g.W w7.heap.size (fun _=>True) vo (dD ds ts k)/\g.W.heap[ob]? =af (.cells #[vo,.slice At E.2.length ct] 40 (0,0)) from fun g=>⟨HW.out.1.trans (g.below.mono HW.out.1.size),Kd.bJ (Kd.bJ HK.out.2.1 HW.out.2.1) g.below,aB (aB HK.out.2.2 HW.out.2.1) g.below⟩)
      have m6:∀g:G Wi,g.W.cell? ⟨c.mb,6,ai⟩=af (.slice (af ad2) n cr):=fun g=>(aA (aB H7.out.2.2.1 (HD.out g).1) 6).trans rfl
      have o0:∀g:G Wi,g.W.cell? ⟨ob,0,ai⟩=af vo:=fun g=>(aA (HD.out g).2.2 0).trans rfl
      have rk:∀g:G Wi,g.W.cell? (ad2.add k)=af (.slice (af ⟨t1,0,ai⟩) t2 t3):=fun g=>aE (HD.out g).1 qs
      clear ht qs
      go_upto_region 16 with (fail)
      clear d0
      refine aG ?_
      intro gg
      refine eZ (n:=13) (S:=fun w'=>∃g':G _,w'=g'.W) (ds:=[10,12]) #[J,J,J,J,J,J,J,J,J,J,J,J,J] (by kernel_rfl) rfl rfl ⟨mkG (gg.2.drew),rfl⟩ (fun hHeld=> ?_)
      obtain⟨gd,hgd⟩:=hHeld
      rw[hgd]
      clear hgd
      refine aQ (i:=0) (N:=af 73) (v:= ?_) (a':= ?_) #[ac,J,J,J,J,J,J,J,J,J,J,J,J] rfl rfl (by kernel_rfl) (fun _ _ _ h=>h) (az ⟨by rfl,?_⟩) ?_ ?_
      rotate_left
      ·intro w'
       go_simp
       with_reducible rfl
      rotate_left
      ·simp only[au,aa,ag,ah,aJ,aK]
       rfl
      refine cM (i:=1) (N:=af 74) (v:= ?_) (a':= ?_) #[ac,ac,J,J,J,J,J,J,J,J,J,J,J] rfl rfl (by kernel_rfl) (fun _ _ _ h=>h) (az ⟨by rfl,?_⟩) ⟨gd,rfl⟩ ?_ ?_
      rotate_left
      ·rintro w' ⟨g',rfl⟩
       go_simp
       with_reducible rfl
      rotate_left
      ·simp only[au,aa,ag,ah,aJ,aK]
       rfl
      refine aQ (i:=2) (N:=af 75) (v:= ?_) (a':= ?_) #[ac,ac,ac,J,J,J,J,J,J,J,J,J,J] rfl rfl (by kernel_rfl) (fun _ _ _ h=>h) (az ⟨by rfl,?_⟩) ?_ ?_
      rotate_left
      ·intro w'
       go_simp
       with_reducible rfl
      rotate_left
      ·simp only[au,aa,ag,ah,aJ,aK]
       rfl
      refine aQ (i:=3) (N:=af 76) (v:= ?_) (a':= ?_) #[ac,ac,ac,ac,J,J,J,J,J,J,J,J,J] rfl rfl (by kernel_rfl) (fun _ _ _ h=>h) (az ⟨by rfl,?_⟩) ?_ ?_
      rotate_left
      ·intro w'
       go_simp
       with_reducible rfl
      rotate_left
      ·simp only[au,aa,ag,ah,aJ,aK]
       rfl
      refine aQ (i:=4) (N:=af 77) (v:= ?_) (a':= ?_) #[ac,ac,ac,ac,ac,J,J,J,J,J,J,J,J] rfl rfl (by kernel_rfl) (fun _ _ _ h=>h) (az ⟨by rfl,?_⟩) ?_ ?_
      rotate_left
      ·intro w'
       go_simp
       with_reducible rfl
      rotate_left
      ·simp only[au,aa,ag,ah,aJ,aK]
       rfl
      refine cM (i:=5) (N:=af 78) (v:= ?_) (a':= ?_) #[ac,ac,ac,ac,ac,ac,J,J,J,J,J,J,J] rfl rfl (by kernel_rfl) (fun _ _ _ h=>h) (az ⟨by rfl,?_⟩) ⟨gd,rfl⟩ ?_ ?_
      rotate_left
      ·rintro w' ⟨g',rfl⟩
       go_simp
       with_reducible rfl
      rotate_left
      ·simp only[au,aa,ag,ah,aJ,aK]
       rfl
      refine aQ (i:=6) (N:=af 79) (v:= ?_) (a':= ?_) #[ac,ac,ac,ac,ac,ac,ac,J,J,J,J,J,J] rfl rfl (by kernel_rfl) (fun _ _ _ h=>h) (az ⟨by rfl,?_⟩) ?_ ?_
      rotate_left
      ·intro w'
       go_simp
       with_reducible rfl
      rotate_left
      ·simp only[au,aa,ag,ah,aJ,aK]
       rfl
      refine aQ (i:=7) (N:=af 80) (v:= ?_) (a':= ?_) #[ac,ac,ac,ac,ac,ac,ac,ac,J,J,J,J,J] rfl rfl (by kernel_rfl) (fun _ _ _ h=>h) (az ⟨by rfl,?_⟩) ?_ ?_
      rotate_left
      ·intro w'
       go_simp
       with_reducible rfl
      rotate_left
      ·simp only[au,aa,ag,ah,aJ,aK]
       rfl
      refine cM (i:=8) (N:=af 81) (v:= ?_) (a':= ?_) #[ac,ac,ac,ac,ac,ac,ac,ac,ac,J,J,J,J] rfl rfl (by kernel_rfl) (fun _ _ _ h=>h) (az ⟨by rfl,?_⟩) ⟨gd,rfl⟩ ?_ ?_
      rotate_left
      ·rintro w' ⟨g',rfl⟩
       go_simp
       with_reducible rfl
      rotate_left
      ·simp only[au,aa,ag,ah,aJ,aK]
       rfl
      refine jY (i:=9) (N:=af 82) #[ac,ac,ac,ac,ac,ac,ac,ac,ac,ac,J,J,J] rfl rfl (by kernel_rfl) (by simp) (fun Kr hKr=> ?_)
      refine dR (v:=.slice (af ⟨gd.W.heap.size,0,ai⟩) 1 1) (w1:=gd.W.alloc (.cells #[.slice (af ⟨t1,0,ai⟩) t2 t3] 36)) (by rfl) (by first | (go_simp;done) | (go_simp;rfl)) ?_
      refine hKr.out _ _ ⟨mkG (G.ball gd _),rfl⟩ (fun _=> ?_)
      clear hKr Kr
      refine cN (a':= ?_) ?_ ?_
      rotate_left
      ·show au _ (af 82) _ = _
       simp only[au,aa,ag,ah,aJ,aK]
       rfl
      refine lU (i:=10) (N:=af 83) #[ac,ac,ac,ac,ac,ac,ac,ac,ac,ac,ac,J,J] rfl rfl (by kernel_rfl) (by simp) (fun Kr hKr=> ?_)
      refine Kd.iN kSl (w0:=w7) w7.heap.size (by rfl) (.tmp 74) (.tmp 82) 37 36 (.slice ai 0 0) 24 rfl oJ info36 rfl (show 0<1 by decide) (by decide) vo (dD ds ts k) (t1,t2,t3) [.slice (af ⟨t1,0,ai⟩) t2 t3] (fun _=>True) (fun _=>False) (by rfl) (by rfl) rfl (fun _ h=>h.elim) (fun _ _=>trivial) (HD.out gd).2.1 (HD.out gd).1 (HD.out gd).1.size TL.out ?_
      intro v1 u1 hr1 hb1 hg1 hat1
      have hob1:=gK (HD.out gd).2.2 hg1 (Kd.R_ne (HD.out gd).2.1 (HD.out gd).2.2 (by decide))
      have y0:=aA hob1 0
      have y1:=aH hob1 0
      obtain⟨A1,k1,hv1⟩:=Kd.cD hr1
      subst hv1
      have HE1:=I (ae hr1 (ae hb1 hob1))
      clear hr1 hb1 hg1 hat1 hob1
      refine hKr.out _ _ ?_
      clear hKr Kr
      refine cN (a':= ?_) ?_ ?_
      rotate_left
      ·show au _ (af 83) _ = _
       simp only[au,aa,ag,ah,aJ,aK]
       rfl
      refine aQ (i:=11) (N:=af 84) (v:= ?_) (a':= ?_) #[ac,ac,ac,ac,ac,ac,ac,ac,ac,ac,ac,ac,J] rfl rfl (by kernel_rfl) (fun _ _ _ h=>h) (az ⟨by rfl,?_⟩) ?_ ?_
      rotate_left
      ·intro w'
       go_simp
       with_reducible rfl
      rotate_left
      ·simp only[au,aa,ag,ah,aJ,aK]
       rfl
      refine lU (i:=12) (N:=ai) #[ac,ac,ac,ac,ac,ac,ac,ac,ac,ac,ac,ac,ac] rfl rfl (by kernel_rfl) (by simp) (fun Kr hKr=> ?_)
      refine skip_ (w1:=u1.setCell ⟨ob,0,ai⟩ (.slice A1 (dD ds ts k++[(t1,t2,t3)]).length k1)) (by rfl) rfl (by first | (go_simp;done) | (go_simp;rfl)) ?_
      refine hKr.out _ _ ?_
      clear hKr Kr
      refine iQ (by kernel_rfl) ?_
      have hle:w7.heap.size<=ob:=by rw[H8.out.2.2];exact ak _
      have hrs:=Kd.R_set HE1.out.1 HE1.out.2.2 (fun q hq=>by
       have:q=36:=by simpa[kSl,Kd.scalar]using hq
       rw[this];decide) 0 (.slice A1 (dD ds ts k++[(t1,t2,t3)]).length k1)
      rw[←HT.out]at hrs
      have hbs:=bR HE1.out.2.2 0 (.slice A1 (dD ds ts k++[(t1,t2,t3)]).length k1)
      rw[←HT.out]at hbs
      have hbl:=HE1.out.2.1.setCell (p:=⟨ob,0,ai⟩) hle (.slice A1 (dD ds ts k++[(t1,t2,t3)]).length k1)
      rw[←HT.out]at hbl
      have HN2:=I (show Below w7.heap.size w7 (u1.setCell ⟨ob,0,ai⟩ (.slice A1 (dD ds ts (k+1)).length k1))/\kSl.R 36 (u1.setCell ⟨ob,0,ai⟩ (.slice A1 (dD ds ts (k+1)).length k1)) w7.heap.size (fun _=>True) (.slice A1 (dD ds ts (k+1)).length k1) (dD ds ts (k+1))/\(u1.setCell ⟨ob,0,ai⟩ (.slice A1 (dD ds ts (k+1)).length k1)).heap[ob]? =af (.cells #[.slice A1 (dD ds ts (k+1)).length k1,.slice At E.2.length ct] 40 (0,0)) from⟨hbl,hrs,by simpa using hbs⟩)
      rw[←HT.out]
      clear hle hrs hbs hbl
      clear y0 y1 m6 o0 rk
      go_wp2_with fail
      go_roundw
      case measure=>simp[intOf];omega
      case rel=>exact⟨k+1,_,show _ =bc .i64 ((k+1:Nat):Int) from by go_num,by omega,HN2⟩
    ·have hkn:k=n:=by omega
     have hge:¬(k:Int)<(n:Int):=by omega
     have HKN:=I hkn
     obtain⟨Ao,ko,hvo⟩:=Kd.cD HK.out.2.1
     subst hvo
     have o0:wr.cell? ⟨ob,0,ai⟩=af (.slice Ao (dD ds ts k).length ko):=(aA HK.out.2.2 0).trans rfl
     have o1:wr.cell? ⟨ob,1,ai⟩=af (.slice At E.2.length ct):=(aA HK.out.2.2 1).trans rfl
     have hrE:=aB H7.out.2.1 HK.out.1
     have r0:wr.cell? ⟨W.heap.size+1,0,ai⟩=af (.slice ai 0 0):=(aA hrE 0).trans rfl
     have r1:wr.cell? ⟨W.heap.size+1,1,ai⟩=af (.slice ai 0 0):=(aA hrE 1).trans rfl
     have f0:wr.frozen? ⟨W.heap.size+1,0,ai⟩=J:=aH hrE 0
     have f1:wr.frozen? ⟨W.heap.size+1,1,ai⟩=J:=aH hrE 1
     have hkt:Kt [40] ai wr ((wr.setCell ⟨W.heap.size+1,0,ai⟩ (.slice Ao (dD ds ts k).length ko)).setCell ⟨W.heap.size+1,1,ai⟩ (.slice At E.2.length ct)):=((Kt.refl _ _ _).set hrE (by simp) 0 _).set (bR hrE 0 _) (by simp) 1 _
     have hR1:=(H7.out.2.2.2.1.below HK.out.1).kt hkt (by simp) (by simp)
     have hV1:=hkt.row HK.out.2.1 (fun q hq=>by
      have:q=36:=by simpa[kSl,Kd.scalar]using hq
      rw[this];simp)
     have hke:dD ds ts k=dD ds ts ds.length:=by rw[hkn,H7.out.2.2.2.2.2.2.2.2.1]
     rw[hke]at hV1 hkt hR1
     obtain⟨A1,k1,e1,hra⟩:=told_rows hR1 H7.out.2.2.2.2.2.2.2.1 (aj _ _) hV1
     obtain⟨A2,k2,e2,-,hC2⟩:=Kd.dC (hkt.row (Kd.bJ H7.out.2.2.2.2.2.1 HK.out.1) (fun q hq=>by rw[E101 hq];simp))
     rw[←hke]at e1 hra hC2
     have HEA:=I (ae e1 (ae hra (ae e2 hC2)))
     have HA:=I (show dW nm wd ln ds bd inp=(0,told ds E.1,E.2) from by unfold dW;rw[if_pos HE.out.1,if_pos (by rw[HN.out,HE.out.2]),H7.out.2.2.2.2.2.2.2.2.2.1])
     have hlow:=H7.out.2.2.2.2.2.2.1.trans (HK.out.1.mono H7.out.2.2.2.2.2.2.1.size)
     have HBE:=I ((hlow.setCell (p:=⟨W.heap.size+1,0,ai⟩) (jd _) (.slice Ao (dD ds ts k).length ko)).setCell (p:=⟨W.heap.size+1,1,ai⟩) (jd _) (.slice At E.2.length ct))
     obtain⟨wE,hwE⟩:∃w,w=(wr.setCell ⟨W.heap.size+1,0,ai⟩ (.slice Ao (dD ds ts k).length ko)).setCell ⟨W.heap.size+1,1,ai⟩ (.slice At E.2.length ct):=⟨_,rfl⟩
     have z0:wE.cell? ⟨W.heap.size+1,0,ai⟩=af (.slice Ao (dD ds ts k).length ko):=by rw[hwE];exact(aA (bR (bR hrE 0 _) 1 _) 0).trans rfl
     have z1:wE.cell? ⟨W.heap.size+1,1,ai⟩=af (.slice At E.2.length ct):=by rw[hwE];exact(aA (bR (bR hrE 0 _) 1 _) 1).trans rfl
     rw[←hwE]at HEA HBE
     have HWE:=I hwE
     have HZ:=I (ae z0 z1)
     clear hke e1 hra e2 hC2 hwE hrE hlow hkn z0 z1
     go_wp2_with fail
     rw[←HWE.out]
     refine bodyPost_ret (gS rfl rfl rfl HZ.out.1 HZ.out.2) rfl ?_
     refine⟨.slice Ao (dD ds ts k).length ko,.slice At E.2.length ct,?_,?_,?_⟩
     ·rw[HA.out];rfl
     ·rw[HA.out]
      exact⟨⟨A1,k1,HEA.out.1,HEA.out.2.1⟩,A2,k2,HEA.out.2.2.1,HEA.out.2.2.2⟩
     ·exact HBE.out
  ·have hx:=aB HX.out.2.2.1 H1.out
   have HXX:=I hx
   have r0:w1.cell? ⟨W.heap.size+1,0,ai⟩=af (.slice ai 0 0):=(aA hx 0).trans rfl
   have r1:w1.cell? ⟨W.heap.size+1,1,ai⟩=af (.slice ai 0 0):=(aA hx 1).trans rfl
   have f0:w1.frozen? ⟨W.heap.size+1,0,ai⟩=J:=aH hx 0
   have f1:w1.frozen? ⟨W.heap.size+1,1,ai⟩=J:=aH hx 1
   have hn2:¬(inp.length:Int)=(l.length:Int):=fun h=>hn (by omega)
   have HA:=I (show dW nm wd ln ds bd inp=(170,[],[]) from by
    have h:=HLE.out
    unfold dU at h
    by_cases h0:(bE nm wd ln ds bd).e=0
    ·rw[if_pos h0]at h
     injection h with h _
     unfold dW;rw[if_pos h0,if_neg (by rw[←h];exact hn)]
    ·rw[if_neg h0]at h
     injection h with _ h
     exact absurd (h.symm.trans he) h0)
   subst he
   clear hx x0 x1 x2 x3 x4 hb1
   go_wp2_with fail
   refine bodyPost_ret (gS (b:=W.heap.size+1) (vS:=.slice ai 0 0) (vT:=.slice ai 0 0) rfl rfl rfl ((aA (bR (bR HXX.out 0 (.slice ai 0 0)) 1 (.slice ai 0 0)) 0).trans rfl) ((aA (bR (bR HXX.out 0 (.slice ai 0 0)) 1 (.slice ai 0 0)) 1).trans rfl)) rfl ?_
   refine⟨.slice ai 0 0,.slice ai 0 0,?_,?_,?_⟩
   ·rw[HA.out];rfl
   ·rw[HA.out];exact EndAt.none _
   ·exact((HX.out.1.trans (H1.out.mono HX.out.1.size)).setCell (p:=⟨W.heap.size+1,0,ai⟩) (jd _) _).setCell (p:=⟨W.heap.size+1,1,ai⟩) (jd _) _
 ·have hx:=aB HX.out.2.2.1 H1.out
  have HXX:=I hx
  have r0:w1.cell? ⟨W.heap.size+1,0,ai⟩=af (.slice ai 0 0):=(aA hx 0).trans rfl
  have r1:w1.cell? ⟨W.heap.size+1,1,ai⟩=af (.slice ai 0 0):=(aA hx 1).trans rfl
  have f0:w1.frozen? ⟨W.heap.size+1,0,ai⟩=J:=aH hx 0
  have f1:w1.frozen? ⟨W.heap.size+1,1,ai⟩=J:=aH hx 1
  have HA:=I (show dW nm wd ln ds bd inp=(er,[],[]) from by
   have h:=HLE.out
   unfold dU at h
   by_cases h0:(bE nm wd ln ds bd).e=0
   ·rw[if_pos h0]at h
    injection h with _ h
    exact absurd h he
   ·rw[if_neg h0]at h
    injection h with _ h
    unfold dW;rw[if_neg h0,h])
  clear hx x0 x1 x2 x3 x4 hb1
  go_wp2_with fail
  refine bodyPost_ret (gS (b:=W.heap.size+1) (vS:=.slice ai 0 0) (vT:=.slice ai 0 0) rfl rfl rfl ((aA (bR (bR HXX.out 0 (.slice ai 0 0)) 1 (.slice ai 0 0)) 0).trans rfl) ((aA (bR (bR HXX.out 0 (.slice ai 0 0)) 1 (.slice ai 0 0)) 1).trans rfl)) rfl ?_
  refine⟨.slice ai 0 0,.slice ai 0 0,?_,?_,?_⟩
  ·rw[HA.out];rfl
  ·rw[HA.out];exact EndAt.none _
  ·exact((HX.out.1.trans (H1.out.mono HX.out.1.size)).setCell (p:=⟨W.heap.size+1,0,ai⟩) (jd _) _).setCell (p:=⟨W.heap.size+1,1,ai⟩) (jd _) _
end
def gV (wd:Int)(P:List Bool)(x y:List Int)(k:Nat):Prop:=∀i,i<k->P.getD i J=ac->lL wd (x.getD i 0)=lL wd (y.getD i 0)
theorem gV.zero (wd:Int)(P:List Bool)(x y:List Int):gV wd P x y 0:=fun i h=>absurd h (cw i)
theorem gV.step {wd:Int}{P:List Bool}{x y:List Int}{k:Nat}(h:gV wd P x y k)(e:P.getD k J=ac->lL wd (x.getD k 0)=lL wd (y.getD k 0)):gV wd P x y (k+1):=fun i hi=>by
 rcases Nat.lt_or_eq_of_le (Nat.le_of_lt_succ hi)with h' | rfl
 ·exact h i h'
 ·exact e
def Told2 (T U:List S101)(k:Nat):Prop:=k<T.length/\k<U.length/\(fR T (k:Int)).f0=5/\(fR U (k:Int)).f0=5
open Classical in
noncomputable def kR (T U:List S101):Bool × Int × Int:=if(difS T U).2=J\/Told2 T U (difS T U).1.toNat then(J,0,0)else(ac,(difS T U).1,0)
open Classical in
noncomputable def bO (nm:ByteArray)(wd ln:Int)(ds:List S70)(bd:List S119)(x y:List Int):Bool × Int × Int:=
 if(dU nm wd ln ds bd).2=0 then
  if x.length=(dU nm wd ln ds bd).1.length/\y.length=(dU nm wd ln ds bd).1.length then
   if gV wd (dU nm wd ln ds bd).1 x y (dU nm wd ln ds bd).1.length then kR (dW nm wd ln ds bd x).2.2 (dW nm wd ln ds bd y).2.2
   else(J,0,1)
  else(J,0,170)
 else(J,0,(dU nm wd ln ds bd).2)
theorem lV {T U:List S101}(h:difS T U=(0,J)):kR T U=(J,0,0):=by unfold kR;rw[if_pos (az (by rw[h]))]
theorem o6 {T U:List S101}{k:Nat}(h:difS T U=((k:Int),ac))(ht:Told2 T U k):kR T U=(J,0,0):=by unfold kR;rw[if_pos (Or.inr (by rw[h];simpa using ht))]
theorem eH {T U:List S101}{k:Nat}(h:difS T U=((k:Int),ac))(ht:¬Told2 T U k):kR T U=(ac,(k:Int),0):=by
 unfold kR
 rw[if_neg,h]
 rintro(h' | h')
 ·rw[h]at h';exact absurd h' (by simp)
 ·rw[h]at h';exact ht (by simpa using h')
theorem difS_cases (T U:List S101):difS T U=(0,J)\/∃k:Nat,difS T U=((k:Int),ac):=by
 unfold difS
 split
 ·exact Or.inr ⟨_,rfl⟩
 ·exact az rfl
def BoolsAt (W:World)(A:Option Addr)(l:List Bool):Prop:=∀k,k<l.length->∃ad,A=af ad/\W.cell? (ad.add k)=af (.bool (l.getD k J))
theorem sD {W:World}{A:Option Addr}{l:List Bool}(h:Kd.bool.C W A l.length l):BoolsAt W A l:=fun k hk=>by
 obtain⟨ad,cc,e,_,hK,hc⟩:=Kd.oH h J (k:Int) (by omega) (by omega)
 refine⟨ad,e,?_⟩
 have h:=hc 0 _ (by rw[hK];rfl)
 rw[show Kd.bool.sz=1 from rfl,gm,fp,aw]at h
 exact h
theorem kX (nm:ByteArray)(wd ln:Int)(ds:List S70)(bd:List S119)(inp:List Int):(dW nm wd ln ds bd inp).2.2.length<=1073741824:=by
 unfold dW
 split
 ·rename_i h
  split
  ·have h1:=iJ wd ln ds bd [] (fM wd ds inp ds.length,[])
   have h2:=size_le h
   show(endOf wd ln ds bd inp).2.length<=_
   unfold endOf
   simp only[List.length_nil]at h1
   omega
  ·simp
 ·simp
def Row (W:World)(base b c:Nat)(l:List Int):Prop:=(Kd.int .u64).R 74 W base (fun k=>k=b) (.slice (af ⟨b,0,ai⟩) l.length c) l
section
variable {W W':World}{base b c:Nat}{l:List Int}
theorem Row.cell (h:Row W base b c l){k:Nat}(hk:k<l.length):W.cell? ⟨b,k,ai⟩=af (.int .u64 (l.getD k 0))/\W.frozen? ⟨b,k,ai⟩=J:=by
 have:=Kd.R_cell (enc:=bc .u64) (h1:=fun _=>rfl) (0:Int) h (k:Int) (by omega) (by omega)
 rwa [aw]at this
theorem Row.put (h:Row W base b c l)(k:Nat)(x:Int):Row (W.setCell ⟨b,k,ai⟩ (.int .u64 x)) base b c (l.set k x):=by
 have:=(Kd.R_put (enc:=bc .u64) (h1:=fun _=>rfl) h (k:Int) x).1
 rw[aw]at this
 unfold Row
 rw[List.length_set]
 exact this
theorem Row.far (h:Row W base b c l){p:Addr}(hp:p.block≠b)(u:Value):Row (W.setCell p u) base b c l:=Kd.cQ h (fun k hk e=>hp (by rw[←e,hk])) u
theorem Row.below (h:Row W base b c l)(hb:Below W.heap.size W W'):Row W' base b c l:=Kd.bJ h hb
theorem Row.of_R {ok:Nat->Prop}{v:Value}(h:(Kd.int .u64).R 74 W base ok v l)(hl:0<l.length):∃b c,v=.slice (af ⟨b,0,ai⟩) l.length c/\base<=b/\Row W base b c l:=by
 obtain⟨g,cap,rfl,hb,_,_⟩:=Kd.R_form h hl
 exact⟨g,cap,rfl,hb,Kd.oA (enc:=bc .u64) (h1:=fun _=>rfl) (Kd.mJ (enc:=bc .u64) (h1:=fun _=>rfl) h) (fun k hk=>by simpa[dr]using hk.symm)⟩
theorem Row.lo (h:Row W base b c l):base<=b:=Kd.R_base h b rfl
theorem Row.C (h:Row W base b c l):l.length<=c/\(Kd.int .u64).C W (af ⟨b,0,ai⟩) l.length l:=by
 obtain⟨A,c',e,h1,h2⟩:=Kd.dC h
 injection e with e1 _ e3
 subst e1 e3
 exact⟨h1,h2⟩
theorem Row.words (h:Row W base b c l):bT W (af ⟨b,0,ai⟩) l:=eQ h.C.2
theorem Row.blk (h:Row W base b c l):∃cs,W.heap[b]? =af (.cells cs 74 (0,0)):=by
 obtain⟨inner,ho⟩:=Kd.mV h
 exact dX ho b rfl
theorem Row.low (h:Row W base b c l){base':Nat}(hb:base'<=base):Row W base' b c l:=Kd.fQ h hb
end
structure Kx (ab:Nat)(W W':World):Prop where
 size:W.heap.size<=W'.heap.size
 blk:∀(g:Nat) (cs:Array Value) (t:TypeId) (fr:Nat × Nat),W.heap[g]? =af (.cells cs t fr)->t≠36->t≠74->g≠ab->W'.heap[g]? =af (.cells cs t fr)
theorem Kx.trans {ab:Nat}{a b c:World}(h:Kx ab a b)(k:Kx ab b c):Kx ab a c:=⟨bi h.size k.size,fun g cs t fr hg h1 h2 h3=>k.blk g cs t fr (h.blk g cs t fr hg h1 h2 h3) h1 h2 h3⟩
theorem Kx.of_below {ab:Nat}{W W':World}(h:Below W.heap.size W W'):Kx ab W W':=⟨h.size,fun g _ _ _ hg _ _ _=>aB hg h⟩
theorem Kx.set {ab:Nat}{W W':World}(h:Kx ab W W'){g:Nat}{cs:Array Value}{t:TypeId}(hb:W'.heap[g]? =af (.cells cs t (0,0)))(ht:t=36\/t=74\/g=ab)(j:Nat)(u:Value):Kx ab W (W'.setCell ⟨g,j,ai⟩ u):=
 ⟨by simpa[iu]using h.size,fun k cs' t' fr hk h1 h2 h3=>by
   have hk':=h.blk k cs' t' fr hk h1 h2 h3
   rw[ed _ _ _ k (fun e=>by
    subst e
    rw[hb]at hk'
    injection hk' with hk'
    injection hk' with _ e2
    rcases ht with rfl | rfl | rfl
    ·exact h1 e2.symm
    ·exact h2 e2.symm
    ·exact h3 rfl)]
   exact hk'⟩
structure ShC where
 w0:World
 P0:World
 xb:Nat
 yb:Nat
 ab:Nat
structure ShC.OK (c:ShC):Prop where
 x:c.w0.heap.size<=c.xb
 y:c.w0.heap.size<=c.yb
 a:c.w0.heap.size<=c.ab
 p:c.w0.heap.size<=c.P0.heap.size
 ne:c.xb≠c.yb
structure Sh (c:ShC)(bx cx bY cY:Nat)(U V:List Int)(a:Int)(W:World):Prop where
 low:Below c.w0.heap.size c.w0 W
 kx:Kx c.ab c.P0 W
 x:W.heap[c.xb]? =af (.cells #[.slice (af ⟨bx,0,ai⟩) U.length cx] 36 (0,0))
 y:W.heap[c.yb]? =af (.cells #[.slice (af ⟨bY,0,ai⟩) V.length cY] 36 (0,0))
 a:W.heap[c.ab]? =af (.cells #[.int .i64 a] 3 (0,0))
 rx:Row W c.P0.heap.size bx cx U
 ry:Row W c.P0.heap.size bY cY V
 ne:bx≠bY
def Kz (c:ShC)(bx bY:Nat)(W W':World):Prop:=W.heap.size<=W'.heap.size/\∀g,g<W.heap.size->g≠bx->g≠bY->g≠c.xb->g≠c.yb->g≠c.ab->W'.heap[g]? =W.heap[g]?
theorem Kz.trans {c:ShC}{bx bY:Nat}{a b d:World}(h:Kz c bx bY a b)(k:Kz c bx bY b d):Kz c bx bY a d:=⟨bi h.1 k.1,fun g hg h1 h2 h3 h4 h5=>(k.2 g (bk hg h.1) h1 h2 h3 h4 h5).trans (h.2 g hg h1 h2 h3 h4 h5)⟩
theorem Kz.of_below {c:ShC}{bx bY:Nat}{W W':World}(h:Below W.heap.size W W'):Kz c bx bY W W':=⟨h.size,fun g hg _ _ _ _ _=>h.block g hg⟩
theorem Kz.set {c:ShC}{bx bY g j:Nat}(W:World)(u:Value)(h:g=bx\/g=bY\/g=c.xb\/g=c.yb\/g=c.ab):Kz c bx bY W (W.setCell ⟨g,j,ai⟩ u):=
 ⟨by simp[iu],fun k _ h1 h2 h3 h4 h5=>ed _ _ _ k (fun e=>by
   have e:k=g:=e
   subst e
   rcases h with h | h | h | h | h
   ·exact h1 h
   ·exact h2 h
   ·exact h3 h
   ·exact h4 h
   ·exact h5 h)⟩
section
variable {c:ShC}{bx cx bY cY:Nat}{U V:List Int}{a:Int}{W W':World}
theorem Sh.below (h:Sh c bx cx bY cY U V a W)(hb:Below W.heap.size W W'):Sh c bx cx bY cY U V a W':=
 ⟨h.low.trans (hb.mono h.low.size),h.kx.trans (.of_below hb),aB h.x hb,aB h.y hb,aB h.a hb,h.rx.below hb,h.ry.below hb,h.ne⟩
theorem Sh.setX (hc:c.OK)(h:Sh c bx cx bY cY U V a W)(k:Nat)(v:Int):Sh c bx cx bY cY (U.set k v) V a (W.setCell ⟨bx,k,ai⟩ (.int .u64 v))/\Kz c bx bY W (W.setCell ⟨bx,k,ai⟩ (.int .u64 v)):=by
 obtain⟨cs,hb⟩:=h.rx.blk
 refine⟨⟨h.low.setCell (p:=⟨bx,k,ai⟩) (bi hc.p h.rx.lo) _,h.kx.set hb (Or.inr (az rfl)) k _,?_,dQ h.y (dJ h.y hb (by decide)) _,dQ h.a (dJ h.a hb (by decide)) _,h.rx.put k v,h.ry.far h.ne _,h.ne⟩,Kz.set _ _ (az rfl)⟩
 rw[List.length_set]
 exact dQ h.x (dJ h.x hb (by decide)) _
theorem Sh.setY (hc:c.OK)(h:Sh c bx cx bY cY U V a W)(k:Nat)(v:Int):Sh c bx cx bY cY U (V.set k v) a (W.setCell ⟨bY,k,ai⟩ (.int .u64 v))/\Kz c bx bY W (W.setCell ⟨bY,k,ai⟩ (.int .u64 v)):=by
 obtain⟨cs,hb⟩:=h.ry.blk
 refine⟨⟨h.low.setCell (p:=⟨bY,k,ai⟩) (bi hc.p h.ry.lo) _,h.kx.set hb (Or.inr (az rfl)) k _,dQ h.x (dJ h.x hb (by decide)) _,?_,dQ h.a (dJ h.a hb (by decide)) _,h.rx.far (fun e=>h.ne e.symm) _,h.ry.put k v,h.ne⟩,Kz.set _ _ (Or.inr (az rfl))⟩
 rw[List.length_set]
 exact dQ h.y (dJ h.y hb (by decide)) _
theorem Sh.setA (hc:c.OK)(h:Sh c bx cx bY cY U V a W)(v:Int):Sh c bx cx bY cY U V v (W.setCell ⟨c.ab,0,ai⟩ (.int .i64 v))/\Kz c bx bY W (W.setCell ⟨c.ab,0,ai⟩ (.int .i64 v)):=by
 obtain⟨cs,hb⟩:=h.rx.blk
 obtain⟨ds,hd⟩:=h.ry.blk
 exact⟨⟨h.low.setCell (p:=⟨c.ab,0,ai⟩) hc.a _,h.kx.set h.a (Or.inr (Or.inr rfl)) 0 _,dQ h.x (dJ h.x h.a (by decide)) _,dQ h.y (dJ h.y h.a (by decide)) _,(bR h.a 0 _).trans rfl,h.rx.far (dJ h.a hb (by decide)) _,h.ry.far (dJ h.a hd (by decide)) _,h.ne⟩,Kz.set _ _ (Or.inr (Or.inr (Or.inr (Or.inr rfl))))⟩
theorem Sh.putX (hc:c.OK)(h:Sh c bx cx bY cY U V a W){b2 c2:Nat}{U2:List Int}(hr:Row W c.P0.heap.size b2 c2 U2)(hne:b2≠bY):Sh c b2 c2 bY cY U2 V a (W.setCell ⟨c.xb,0,ai⟩ (.slice (af ⟨b2,0,ai⟩) U2.length c2))/\Kz c bx bY W (W.setCell ⟨c.xb,0,ai⟩ (.slice (af ⟨b2,0,ai⟩) U2.length c2)):=by
 obtain⟨cs,hb⟩:=hr.blk
 obtain⟨ds,hd⟩:=h.ry.blk
 exact⟨⟨h.low.setCell (p:=⟨c.xb,0,ai⟩) hc.x _,h.kx.set h.x (az rfl) 0 _,(bR h.x 0 _).trans rfl,dQ h.y (fun e=>hc.ne e.symm) _,dQ h.a (dJ h.a h.x (by decide)) _,hr.far (dJ h.x hb (by decide)) _,h.ry.far (dJ h.x hd (by decide)) _,hne⟩,Kz.set _ _ (Or.inr (Or.inr (az rfl)))⟩
theorem Sh.putY (hc:c.OK)(h:Sh c bx cx bY cY U V a W){b2 c2:Nat}{V2:List Int}(hr:Row W c.P0.heap.size b2 c2 V2)(hne:bx≠b2):Sh c bx cx b2 c2 U V2 a (W.setCell ⟨c.yb,0,ai⟩ (.slice (af ⟨b2,0,ai⟩) V2.length c2))/\Kz c bx bY W (W.setCell ⟨c.yb,0,ai⟩ (.slice (af ⟨b2,0,ai⟩) V2.length c2)):=by
 obtain⟨cs,hb⟩:=hr.blk
 obtain⟨ds,hd⟩:=h.rx.blk
 exact⟨⟨h.low.setCell (p:=⟨c.yb,0,ai⟩) hc.y _,h.kx.set h.y (az rfl) 0 _,dQ h.x hc.ne _,(bR h.y 0 _).trans rfl,dQ h.a (dJ h.a h.y (by decide)) _,h.rx.far (dJ h.y hd (by decide)) _,hr.far (dJ h.y hb (by decide)) _,hne⟩,Kz.set _ _ (Or.inr (Or.inr (Or.inr (az rfl))))⟩
end
section
set_option maxRecDepth 100000
theorem sN (l:List Int)(a:Addr)(c:Nat)(W:World)(h:(Kd.int .u64).C W (af a) l.length l)(hl:l.length<=1073741824):
 Calls aq 89 #[.slice (af a) l.length c] W fun e W'=>∃v,e=.returned v/\(Kd.int .u64).R 74 W' W.heap.size (fun _=>True) v l/\Below W.heap.size W W':=by
 have HO:=I (show(Kd.int .u64).R 74 (W.alloc (.cells #[] 74)) W.heap.size (fun _=>True) (.slice (af ⟨W.heap.size,0,ai⟩) 0 0) ([]:List Int) from⟨fun _ _=>trivial,[],own_lit W W.heap.size 74 .u64 [] (ak _) (bh _),gR.none _ _⟩)
 have hba:Below W.heap.size W (W.alloc (.cells #[] 74)):=(aj _ _).alloc (ak _) _
 have HBA:=I hba
 have HIC:=I (Kd.aF h hba)
 have HL8:=I (show(([]:List Int).length+l.length)*8<=140737488355328 from by simp;omega)
 clear h hba
 have hnil:=Lib.run_eql_slice_nil (P:=aq) W 36 74 (af a) l.length c 0 0 iM
 go_enter Tryz.func89,Tryz.ntmps89
 go_wp2_with (at_builtin;refine Kd.R_append_row (bc .u64) (0:Int) (w0:=W) W.heap.size rfl (.tmp 5) (.tmp 6) 36 74 (.int .u64 0) 8 rfl iM mS rfl (by decide) (.slice (af ⟨W.heap.size,0,ai⟩) 0 0) [] l (af a) l.length c (ok:=fun _=>True) rfl rfl (fun _ _=>trivial) HO.out HIC.out HBA.out HBA.out.size HL8.out ?_)
 intro v2 u2 hr2 hb2 hg2 hat2
 have H2:=I (ae hr2 hb2)
 clear hr2 hb2 hg2 hat2
 go_wp2_with fail
 go_ret
 exact⟨v2,rfl,H2.out.1,H2.out.2⟩
def fE (wd:Int)(l:List Int):List Int:=(bu l.length).map fun i=>lL wd (l.getD i 0)
def pZ (wd:Int)(l:List Int)(k:Nat):List Int:=(bu l.length).map fun i=>if i<k then lL wd (l.getD i 0)else l.getD i 0
theorem gI (wd:Int)(l:List Int):(fE wd l).length=l.length:=by unfold fE;simp
theorem trimK_len (wd:Int)(l:List Int)(k:Nat):(pZ wd l k).length=l.length:=by unfold pZ;simp
theorem range_self (l:List Int):(bu l.length).map (fun i=>l.getD i 0)=l:=by
 apply List.ext_getElem (by simp)
 intro i h1 h2
 simp at h1 ⊢
 rw[ax h1];rfl
theorem trimK_zero (wd:Int)(l:List Int):pZ wd l 0=l:=by
 unfold pZ
 rw[show(fun i=>if i<0 then lL wd (l.getD i 0)else l.getD i 0)=fun i=>l.getD i 0 from by funext i;simp]
 exact range_self l
theorem trimK_full (wd:Int)(l:List Int):pZ wd l l.length=fE wd l:=by
 unfold pZ fE
 exact List.map_congr_left fun i hi=>by rw[if_pos (jg.1 hi)]
theorem trimK_at (wd:Int)(l:List Int){k:Nat}(hk:k<l.length):(pZ wd l k).getD k 0=l.getD k 0:=by
 unfold pZ
 rw[av,iv,List.getElem?_range hk]
 simp
theorem trimK_step (wd:Int)(l:List Int){k:Nat}(hk:k<l.length):(pZ wd l k).set k (lL wd (l.getD k 0))=pZ wd l (k+1):=by
 apply List.ext_getElem?
 intro i
 rw[jw]
 unfold pZ
 rw[iv,iv,List.length_map,List.length_range]
 by_cases hi:i<l.length
 ·rw[List.getElem?_range hi]
  by_cases e:k=i
  ·subst e;simp[hi]
  ·rw[if_neg e]
   simp only[Option.map_some]
   by_cases h:i<k
   ·rw[if_pos h,if_pos (by omega)]
   ·rw[if_neg h,if_neg (by omega)]
 ·rw[if_neg (by omega),cz (by simpa using hi)];rfl
theorem nF (wd:Int)(h1:1<=wd)(l:List Int)(a:Addr)(c:Nat)(W:World)(h:(Kd.int .u64).C W (af a) l.length l)(hl:l.length<=1073741824)(h0:0<l.length)(hu:∀v∈l,U64 v):
 Calls aq 87 #[.int .i64 wd,.slice (af a) l.length c] W fun e W'=>∃b c',e=.returned (.slice (af ⟨b,0,ai⟩) l.length c')/\W.heap.size<=b/\Row W' W.heap.size b c' (fE wd l)/\Below W.heap.size W W':=by
 have HC:=I (sN l a c W h hl)
 have HU:=I (ae h1 hu)
 clear h hu
 go_enter Tryz.func87,Tryz.ntmps87
 go_wp2_with fail
 refine HC.out.mono ?_
 rintro _ w1 ⟨v,rfl,hr,hb⟩
 obtain⟨b,c',rfl,hbb,hrow⟩:=Row.of_R hr h0
 have H1:=I (ae hbb (ae hrow hb))
 clear hr hb hbb hrow
 go_wp2_with fail
 go_loopw [11] (fun i W'=>∃k:Nat,i=.int .i64 k/\k<=l.length/\Aside0 (Row W' W.heap.size b c' (pZ wd l k)/\Below W.heap.size W W')) (fun i _=>l.length - (intOf i).toNat)
 case atStart=>exact⟨0,rfl,bh _,⟨by rw[trimK_zero];exact H1.out.2.1,H1.out.2.2⟩⟩
 case round=>
  obtain⟨k,rfl,hk,HB⟩:=hrel
  by_cases hlt:k<l.length
  ·have hi1:(k:Int)<(l.length:Int):=by omega
   obtain⟨q,f⟩:=HB.out.1.cell (k:=k) (by rw[trimK_len];exact hlt)
   rw[trimK_at wd l hlt]at q
   have hut:=eL HU.out.2 k
   obtain⟨z,hz⟩:∃z,z=l.getD k 0:=⟨_,rfl⟩
   rw[←hz]at q hut
   have HZ:=I hz
   have HT:=I (trimI HU.out.1 hut wr)
   clear hz hut
   go_wp2_with fail
   refine HT.out.mono ?_
   rintro _ w2 ⟨rfl,hb2⟩
   have HB2:=I hb2
   have f2:=((HB.out.1.below hb2).cell (k:=k) (by rw[trimK_len];exact hlt)).2
   have q2:=aE hb2 q
   clear q f hb2
   go_wp2_with fail
   refine⟨⟨k+1,by go_num,by omega,⟨?_,?_⟩⟩,by simp[intOf];omega⟩
   ·rw[←trimK_step wd l hlt,←HZ.out]
    exact(HB.out.1.below HB2.out).put k _
   ·exact(HB.out.2.trans (HB2.out.mono HB.out.2.size)).setCell (p:=⟨b,k,ai⟩) HB.out.1.lo _
  ·have hkl:k=l.length:=by omega
   subst hkl
   go_wp2_with fail
   go_ret
   exact⟨b,c',rfl,H1.out.1,by rw[←trimK_full];exact HB.out.1,HB.out.2⟩
end
section
set_option maxRecDepth 100000
def trimP (wd:Int)(l:List Int)(k:Nat):List Int:=(bu k).map fun i=>lL wd (l.getD i 0)
theorem trimP_succ (wd:Int)(l:List Int)(k:Nat):trimP wd l (k+1)=trimP wd l k++[lL wd (l.getD k 0)]:=by
 unfold trimP
 rw[jx,ez,cd,cn]
theorem lD (wd:Int)(h1:1<=wd)(l:List Int)(A:Option Addr)(c:Nat)(W:World)(h:bT W A l)(hl:l.length<=1073741824)(h0:0<l.length)(hu:∀v∈l,U64 v):
 Calls aq 96 #[.int .i64 wd,.slice A l.length c] W fun e W'=>∃b c',e=.returned (.slice (af ⟨b,0,ai⟩) l.length c')/\W.heap.size<=b/\Row W' W.heap.size b c' (fE wd l)/\Below W.heap.size W W':=by
 have HU:=I (ae h1 hu)
 have H:=I h
 have TL:=I (show ∀k,k<l.length->((trimP wd l k).length+1)*8<=140737488355328 from fun k hk=>by unfold trimP;simp;omega)
 clear h hu
 go_enter Tryz.func96,Tryz.ntmps96
 go_wp2_with fail
 go_loopw [5,6] (fun v i W'=>∃(k:Nat) (vo:Value),vo=v/\i=.int .i64 k/\k<=l.length/\Aside0 ((Kd.int .u64).R 74 W' W.heap.size (fun _=>True) vo (trimP wd l k)/\Below W.heap.size W W')) (fun _ i _=>l.length - (intOf i).toNat)
 case atStart=>exact⟨0,_,rfl,rfl,bh _,⟨Kd.jZ _ _ _ _ _,aj _ _⟩⟩
 case round=>
  obtain⟨k,vo,rfl,rfl,hk,HB⟩:=hrel
  by_cases hlt:k<l.length
  ·have hi1:(k:Int)<(l.length:Int):=by omega
   obtain⟨ad,e1,q⟩:=H.out k hlt
   cases e1
   replace q:=aE HB.out.2 q
   have hut:=eL HU.out.2 k
   obtain⟨z,hz⟩:∃z,z=l.getD k 0:=⟨_,rfl⟩
   rw[←hz]at q hut
   have HZ:=I hz
   have HT:=I (nK HU.out.1 hut wr)
   clear hz hut
   go_wp2_with fail
   refine HT.out.mono ?_
   rintro _ w2 ⟨rfl,hb2⟩
   have HB2:=I (ae (Kd.bJ HB.out.1 hb2) (HB.out.2.trans (hb2.mono HB.out.2.size)))
   have HT2:=I (TL.out k hlt)
   clear q hb2
   go_wp2_with (at_builtin;refine Kd.cX (Kd.int .u64) (w0:=W) W.heap.size rfl (.tmp 13) (.tmp 20) 36 74 (.int .u64 0) 8 rfl iM mS rfl (by decide) (by decide) vo (trimP wd l k) (lL wd z) [.int .u64 (lL wd z)] (fun _=>True) (fun _=>False) rfl rfl rfl (fun _ h=>h.elim) (fun _ _=>trivial) HB2.out.1 HB2.out.2 HB2.out.2.size HT2.out ?_)
   intro v1 u1 hr1 hb1 hg1 hat1
   have HN:=I (ae hr1 hb1)
   clear hr1 hb1 hg1 hat1
   go_wp2_with fail
   go_roundw
   case measure=>simp[intOf];omega
   case rel=>exact⟨k+1,_,rfl,by go_num,by omega,⟨by rw[trimP_succ,←HZ.out];exact HN.out.1,HN.out.2⟩⟩
  ·have hkl:k=l.length:=by omega
   subst hkl
   have hi1:¬(l.length:Int)<(l.length:Int):=by omega
   obtain⟨b,c',e,hb,hrow⟩:=Row.of_R HB.out.1 (by unfold trimP;simpa using h0)
   rw[show(trimP wd l l.length).length=l.length from by unfold trimP;simp]at e
   subst e
   have HRW:=I (ae hb hrow)
   clear hb hrow
   go_wp2_with fail
   go_ret
   exact⟨b,c',rfl,HRW.out.1,HRW.out.2,HB.out.2⟩
theorem iR (l:List Int)(A B:Option Addr)(c d:Nat)(W:World)(ha:bT W A l)(hb:bT W B l)(hm:l.length<=1073741824):
 Calls aq 38 #[.slice A l.length c,.slice B l.length d] W fun e W'=>e=.returned (.bool ac)/\Below W.heap.size W W':=by
 have H:=I (ae ha hb)
 clear ha hb
 go_enter Tryz.func38,Tryz.ntmps38
 go_wp2_with fail
 go_loopw [5] (fun i W'=>∃k:Nat,i=.int .i64 k/\k<=l.length/\Aside0 (Below W.heap.size W W')) (fun i _=>l.length - (intOf i).toNat)
 case atStart=>exact⟨0,rfl,bh _,⟨aj _ _⟩⟩
 case round=>
  obtain⟨k,rfl,hk,HB⟩:=hrel
  by_cases hlt:k<l.length
  ·have hi1:(k:Int)<(l.length:Int):=by omega
   obtain⟨ad1,e1,q1⟩:=H.out.1 k hlt
   cases e1
   obtain⟨ad2,e2,q2⟩:=H.out.2 k hlt
   cases e2
   replace q1:=aE HB.out q1
   replace q2:=aE HB.out q2
   generalize l.getD k 0=b at q1 q2
   go_wp2_with fail
   go_region
   go_wp2_with fail
   refine⟨⟨k+1,by go_num,by omega,⟨HB.out.drew⟩⟩,by simp[intOf];omega⟩
  ·have hge:¬(k:Int)<(l.length:Int):=by omega
   go_wp2_with fail
   go_ret
   exact⟨rfl,HB.out⟩
end
section
set_option maxRecDepth 100000
theorem iU {f:FuncId}{fn:Func}{c:Code}(hf:Tryz.prog.funcs[f]? =af fn)(hname:(fn.name== "runtime.NumGoroutine")=J)(hb:fn.body=af c)(args:Array Value)(w:World):
 (callFunc f args).run aq w=.ok (.enter f args) w:=by
 have h1:fn.name≠ "runtime.NumGoroutine" :=by simpa using hname
 simp[callFunc,hf,h1,hb]
def Turn (c:ShC)(f:FuncId)(caps:Array Value)(U V U' V':List Int)(W0:World):Prop:=(∀args w,(callFunc f args).run aq w=.ok (.enter f args) w)/\∀(bx cx bY cY:Nat) (a:Int) (W:World),Below W0.heap.size W0 W->Sh c bx cx bY cY U V a W->Calls aq f caps W fun e W'=>e=.returned (.tuple #[])/\Sh c bx cx bY cY U' V' a W'/\Kz c bx bY W W'
section
variable {c:ShC}(hc:c.OK){U V:List Int}{W0:World}{ib k:Nat}(hi:W0.heap[ib]? =af (.cells #[.int .i64 k] 3 (0,0)))
include hc hi
theorem turn92 (hk:k<U.length):Turn c 92 #[.pointer (af ⟨c.xb,0,ai⟩),.pointer (af ⟨ib,0,ai⟩)] U V (U.set k 0) V W0:=by
 refine⟨fun args w=>iU (fn:=Tryz.f92) (by kernel_rfl) (by kernel_rfl) rfl args w,?_⟩
 intro bx cx bY cY a W hB hS
 have x0:W.cell? ⟨c.xb,0,ai⟩=af (.slice (af ⟨bx,0,ai⟩) U.length cx):=(aA hS.x 0).trans rfl
 have i0:W.cell? ⟨ib,0,ai⟩=af (.int .i64 k):=(aA (aB hi hB) 0).trans rfl
 obtain⟨q,f⟩:=hS.rx.cell hk
 have hk':(k:Int)<(U.length:Int):=by omega
 have H:=I (hS.setX hc k 0)
 clear hS hB hi hc
 go_enter Tryz.func92,Tryz.ntmps92
 go_wp2_with fail
 go_end0
 exact⟨rfl,H.out⟩
theorem turn93 (hk:k<V.length):Turn c 93 #[.pointer (af ⟨c.yb,0,ai⟩),.pointer (af ⟨ib,0,ai⟩)] U V U (V.set k 0) W0:=by
 refine⟨fun args w=>iU (fn:=Tryz.f93) (by kernel_rfl) (by kernel_rfl) rfl args w,?_⟩
 intro bx cx bY cY a W hB hS
 have x0:W.cell? ⟨c.yb,0,ai⟩=af (.slice (af ⟨bY,0,ai⟩) V.length cY):=(aA hS.y 0).trans rfl
 have i0:W.cell? ⟨ib,0,ai⟩=af (.int .i64 k):=(aA (aB hi hB) 0).trans rfl
 obtain⟨q,f⟩:=hS.ry.cell hk
 have hk':(k:Int)<(V.length:Int):=by omega
 have H:=I (hS.setY hc k 0)
 clear hS hB hi hc
 go_enter Tryz.func93,Tryz.ntmps93
 go_wp2_with fail
 go_end0
 exact⟨rfl,H.out⟩
theorem turn90 (hk:k<U.length)(hk2:k<V.length):Turn c 90 #[.pointer (af ⟨c.xb,0,ai⟩),.pointer (af ⟨ib,0,ai⟩),.pointer (af ⟨c.yb,0,ai⟩)] U V U (V.set k (U.getD k 0)) W0:=by
 refine⟨fun args w=>iU (fn:=Tryz.f90) (by kernel_rfl) (by kernel_rfl) rfl args w,?_⟩
 intro bx cx bY cY a W hB hS
 have x0:W.cell? ⟨c.xb,0,ai⟩=af (.slice (af ⟨bx,0,ai⟩) U.length cx):=(aA hS.x 0).trans rfl
 have y0:W.cell? ⟨c.yb,0,ai⟩=af (.slice (af ⟨bY,0,ai⟩) V.length cY):=(aA hS.y 0).trans rfl
 have i0:W.cell? ⟨ib,0,ai⟩=af (.int .i64 k):=(aA (aB hi hB) 0).trans rfl
 obtain⟨q,f⟩:=hS.rx.cell hk
 obtain⟨q2,f2⟩:=hS.ry.cell hk2
 have hk':(k:Int)<(U.length:Int):=by omega
 have hk2':(k:Int)<(V.length:Int):=by omega
 obtain⟨u,hu⟩:∃u,u=U.getD k 0:=⟨_,rfl⟩
 have H:=I (hS.setY hc k u)
 rw[←hu]at q ⊢
 clear hS hB hi hc hu
 go_enter Tryz.func90,Tryz.ntmps90
 go_wp2_with fail
 go_region
 go_wp2_with fail
 go_end0
 exact⟨rfl,H.out.1.below ((aj _ _).drew),H.out.2.trans (Kz.of_below ((aj _ _).drew))⟩
theorem turn91 (hk:k<U.length)(hk2:k<V.length):Turn c 91 #[.pointer (af ⟨c.xb,0,ai⟩),.pointer (af ⟨ib,0,ai⟩),.pointer (af ⟨c.yb,0,ai⟩)] U V (U.set k 0) (V.set k 0) W0:=by
 refine⟨fun args w=>iU (fn:=Tryz.f91) (by kernel_rfl) (by kernel_rfl) rfl args w,?_⟩
 intro bx cx bY cY a W hB hS
 have x0:W.cell? ⟨c.xb,0,ai⟩=af (.slice (af ⟨bx,0,ai⟩) U.length cx):=(aA hS.x 0).trans rfl
 have y0:W.cell? ⟨c.yb,0,ai⟩=af (.slice (af ⟨bY,0,ai⟩) V.length cY):=(aA hS.y 0).trans rfl
 have i0:W.cell? ⟨ib,0,ai⟩=af (.int .i64 k):=(aA (aB hi hB) 0).trans rfl
 obtain⟨q,f⟩:=hS.rx.cell hk
 obtain⟨q2,f2⟩:=hS.ry.cell hk2
 have hk':(k:Int)<(U.length:Int):=by omega
 have hk2':(k:Int)<(V.length:Int):=by omega
 have h1:=hS.setX hc k 0
 have h2:=h1.1.setY hc k 0
 have H:=I (ae h2.1 (h1.2.trans h2.2))
 have y1:(W.setCell ⟨bx,k,ai⟩ (.int .u64 0)).cell? ⟨c.yb,0,ai⟩=af (.slice (af ⟨bY,0,ai⟩) V.length cY):=(aA h1.1.y 0).trans rfl
 have i1:(W.setCell ⟨bx,k,ai⟩ (.int .u64 0)).cell? ⟨ib,0,ai⟩=af (.int .i64 k):=by
  obtain⟨cs,hb⟩:=hS.rx.blk
  exact(aA (dQ (aB hi hB) (dJ (aB hi hB) hb (by decide)) _) 0).trans rfl
 obtain⟨r2,g2⟩:=h1.1.ry.cell hk2
 clear hS hB hi hc h1 h2
 go_enter Tryz.func91,Tryz.ntmps91
 go_wp2_with fail
 go_region
 go_wp2_with fail
 go_end0
 exact⟨rfl,H.out.1.below ((aj _ _).drew),H.out.2.trans (Kz.of_below ((aj _ _).drew))⟩
theorem turn94 {bb:Nat}{m:Int}(hm:W0.heap[bb]? =af (.cells #[.int .u64 m] 74 (0,0)))(hk:k<U.length):Turn c 94 #[.pointer (af ⟨c.xb,0,ai⟩),.pointer (af ⟨ib,0,ai⟩),.pointer (af ⟨bb,0,ai⟩)] U V (U.set k (Go.bits .andNot .u64 (U.getD k 0) m)) V W0:=by
 refine⟨fun args w=>iU (fn:=Tryz.f94) (by kernel_rfl) (by kernel_rfl) rfl args w,?_⟩
 intro bx cx bY cY a W hB hS
 have x0:W.cell? ⟨c.xb,0,ai⟩=af (.slice (af ⟨bx,0,ai⟩) U.length cx):=(aA hS.x 0).trans rfl
 have i0:W.cell? ⟨ib,0,ai⟩=af (.int .i64 k):=(aA (aB hi hB) 0).trans rfl
 have m0:W.cell? ⟨bb,0,ai⟩=af (.int .u64 m):=(aA (aB hm hB) 0).trans rfl
 obtain⟨q,f⟩:=hS.rx.cell hk
 have hk':(k:Int)<(U.length:Int):=by omega
 obtain⟨u,hu⟩:∃u,u=U.getD k 0:=⟨_,rfl⟩
 have H:=I (hS.setX hc k (Go.bits .andNot .u64 u m))
 rw[←hu]at q ⊢
 clear hS hB hi hc hu hm
 go_enter Tryz.func94,Tryz.ntmps94
 go_wp2_with fail
 go_region
 go_wp2_with fail
 go_end0
 exact⟨rfl,H.out.1.below ((aj _ _).drew),H.out.2.trans (Kz.of_below ((aj _ _).drew))⟩
theorem turn95 {bb:Nat}{m:Int}(hm:W0.heap[bb]? =af (.cells #[.int .u64 m] 74 (0,0)))(hk:k<V.length):Turn c 95 #[.pointer (af ⟨c.yb,0,ai⟩),.pointer (af ⟨ib,0,ai⟩),.pointer (af ⟨bb,0,ai⟩)] U V U (V.set k (Go.bits .andNot .u64 (V.getD k 0) m)) W0:=by
 refine⟨fun args w=>iU (fn:=Tryz.f95) (by kernel_rfl) (by kernel_rfl) rfl args w,?_⟩
 intro bx cx bY cY a W hB hS
 have x0:W.cell? ⟨c.yb,0,ai⟩=af (.slice (af ⟨bY,0,ai⟩) V.length cY):=(aA hS.y 0).trans rfl
 have i0:W.cell? ⟨ib,0,ai⟩=af (.int .i64 k):=(aA (aB hi hB) 0).trans rfl
 have m0:W.cell? ⟨bb,0,ai⟩=af (.int .u64 m):=(aA (aB hm hB) 0).trans rfl
 obtain⟨q,f⟩:=hS.ry.cell hk
 have hk':(k:Int)<(V.length:Int):=by omega
 obtain⟨u,hu⟩:∃u,u=V.getD k 0:=⟨_,rfl⟩
 have H:=I (hS.setY hc k (Go.bits .andNot .u64 u m))
 rw[←hu]at q ⊢
 clear hS hB hi hc hu hm
 go_enter Tryz.func95,Tryz.ntmps95
 go_wp2_with fail
 go_region
 go_wp2_with fail
 go_end0
 exact⟨rfl,H.out.1.below ((aj _ _).drew),H.out.2.trans (Kz.of_below ((aj _ _).drew))⟩
end
end
end Go.Proofs.YtfigjpehecibeaaGreat.L
namespace Go.Proofs.YtfigjpehecibeaaGreat.L
open Go.RowKit Bm C
section
structure S3 where
 u:List Int
 v:List Int
 a:Int
section
variable (F:List Int->List Int->Bool × Int × Int)
def kV (s:S3)(u v:List Int):S3:=if(F u v).1=ac then⟨u,v,(F u v).2.1⟩else s
def fY (P:List Bool)(k:Nat)(s:S3):S3:=if P.getD k J=J/\¬s.u.getD k 0=s.v.getD k 0 then kV F s s.u (s.v.set k (s.u.getD k 0))else s
def stepV (k:Nat)(s:S3):S3:=kV F s s.u (s.v.set k 0)
def gD (k:Nat)(s:S3):S3:=if s.u.getD k 0=s.v.getD k 0 then kV F s (s.u.set k 0) (s.v.set k 0)else stepV F k (kV F s (s.u.set k 0) s.v)
def bitU (k:Nat)(m:Int)(s:S3):S3:=if Go.bits .and .u64 (s.u.getD k 0) m=0 then s else kV F s (s.u.set k (Go.bits .andNot .u64 (s.u.getD k 0) m)) s.v
def bitV (k:Nat)(m:Int)(s:S3):S3:=if Go.bits .and .u64 (s.v.getD k 0) m=0 then s else kV F s s.u (s.v.set k (Go.bits .andNot .u64 (s.v.getD k 0) m))
def bitS (k:Nat)(m:Int)(s:S3):S3:=bitV F k m (bitU F k m s)
def lK (k:Nat):Nat->S3->S3
 |0,s=>s
 |n+1,s=>lK k n (bitS F k ((2 ^ n:Nat):Int) s)
def fZ (P:List Bool)(wd:Int)(k:Nat)(s:S3):S3:=if P.getD k J=J/\¬s.u.getD k 0=s.v.getD k 0 then lK F k wd.toNat s else s
def upS (f:Nat->S3->S3):Nat->S3->S3
 |0,s=>s
 |n+1,s=>f n (upS f n s)
def lX (P:List Bool)(wd:Int)(s:S3):S3:=upS (fZ F P wd) P.length (upS (gD F) P.length (upS (fY F P) P.length s))
structure GS (n:Nat)(s:S3):Prop where
 u:s.u.length=n
 v:s.v.length=n
 uu:∀x∈s.u,U64 x
 vv:∀x∈s.v,U64 x
 is:(F s.u s.v).1=ac
 a:s.a=(F s.u s.v).2.1
end
theorem eY {l:List Int}(h:∀x∈l,U64 x)(k:Nat){y:Int}(hy:U64 y):∀x∈l.set k y,U64 x:=fun x hx=>by
 rcases List.mem_or_eq_of_mem_set hx with h' | rfl
 ·exact h x h'
 ·exact hy
theorem eO:U64 0:=⟨by decide,by decide⟩
theorem getD_u64' {l:List Int}(h:∀x∈l,U64 x)(k:Nat):U64 (l.getD k 0):=by
 rw[av]
 rcases gh k l.length with hk | hk
 ·rw[ax hk];exact h _ (fg hk)
 ·rw[cz hk];exact eO
theorem fK (a b:Int):U64 (Go.bits .andNot .u64 a b):=by
 unfold Go.bits U64
 simp only[]
 rw[o7]
 constructor <;> omega
variable {F:List Int->List Int->Bool × Int × Int}{n:Nat}{s:S3}
theorem GS.try (h:GS F n s){u v:List Int}(hu:u.length=n)(hv:v.length=n)(h1:∀x∈u,U64 x)(h2:∀x∈v,U64 x):GS F n (kV F s u v):=by
 unfold kV
 split
 ·rename_i hl;exact⟨hu,hv,h1,h2,hl,rfl⟩
 ·exact h
theorem GS.setU (h:GS F n s)(k:Nat){y:Int}(hy:U64 y):GS F n (kV F s (s.u.set k y) s.v):=h.try (by rw[List.length_set,h.u]) h.v (eY h.uu k hy) h.vv
theorem GS.setV (h:GS F n s)(k:Nat){y:Int}(hy:U64 y):GS F n (kV F s s.u (s.v.set k y)):=h.try h.u (by rw[List.length_set,h.v]) h.uu (eY h.vv k hy)
theorem GS.setUV (h:GS F n s)(k:Nat){y z:Int}(hy:U64 y)(hz:U64 z):GS F n (kV F s (s.u.set k y) (s.v.set k z)):=h.try (by rw[List.length_set,h.u]) (by rw[List.length_set,h.v]) (eY h.uu k hy) (eY h.vv k hz)
theorem GS.fY (h:GS F n s)(P:List Bool)(k:Nat):GS F n (fY F P k s):=by
 unfold Go.Proofs.YtfigjpehecibeaaGreat.L.fY
 split
 ·exact h.setV k (getD_u64' h.uu k)
 ·exact h
theorem GS.stepV (h:GS F n s)(k:Nat):GS F n (stepV F k s):=h.setV k eO
theorem GS.gD (h:GS F n s)(k:Nat):GS F n (gD F k s):=by
 unfold Go.Proofs.YtfigjpehecibeaaGreat.L.gD
 split
 ·exact h.setUV k eO eO
 ·exact(h.setU k eO).stepV k
theorem GS.bitU (h:GS F n s)(k:Nat)(m:Int):GS F n (bitU F k m s):=by
 unfold Go.Proofs.YtfigjpehecibeaaGreat.L.bitU
 split
 ·exact h
 ·exact h.setU k (fK _ _)
theorem GS.bitV (h:GS F n s)(k:Nat)(m:Int):GS F n (bitV F k m s):=by
 unfold Go.Proofs.YtfigjpehecibeaaGreat.L.bitV
 split
 ·exact h
 ·exact h.setV k (fK _ _)
theorem GS.bitS (h:GS F n s)(k:Nat)(m:Int):GS F n (bitS F k m s):=(h.bitU k m).bitV k m
theorem GS.lK (k:Nat):∀(b:Nat) (s:S3),GS F n s->GS F n (lK F k b s)
 |0,s,h=>h
 |b+1,s,h=>GS.lK k b _ (h.bitS k _)
theorem GS.fZ (h:GS F n s)(P:List Bool)(wd:Int)(k:Nat):GS F n (fZ F P wd k s):=by
 unfold Go.Proofs.YtfigjpehecibeaaGreat.L.fZ
 split
 ·exact GS.lK k _ _ h
 ·exact h
theorem GS.up {f:Nat->S3->S3}(hf:∀k s,GS F n s->GS F n (f k s))(h:GS F n s):∀k,GS F n (upS f k s)
 |0=>h
 |k+1=>hf k _ (GS.up hf h k)
theorem and_bit (u b:Nat):u &&& 2 ^ b=if u.testBit b then 2 ^ b else 0:=by
 apply Nat.eq_of_testBit_eq
 intro i
 rw[Nat.testBit_and,Nat.testBit_two_pow]
 by_cases e:b=i
 ·subst e
  cases h:u.testBit b <;> simp[Nat.testBit_two_pow]
 ·cases h:u.testBit b <;> simp[e,Nat.testBit_two_pow]
theorem andNot_bit {u:Int}(hu:U64 u){b:Nat}(hb:b<64)(h:¬Go.bits .and .u64 u ((2 ^ b:Nat):Int)=0):Go.bits .andNot .u64 u ((2 ^ b:Nat):Int)=u - ((2 ^ b:Nat):Int)/\((2 ^ b:Nat):Int)<=u:=by
 obtain⟨x,rfl⟩:=dx hu.1
 have hx:x<2 ^ 64:=by have:=hu.2;rw[p64];omega
 have hp:2 ^ b<2 ^ 64:=Nat.pow_lt_pow_right (by decide) hb
 rw[and_nat hx hp,and_bit]at h
 have ht:x.testBit b=ac:=by
  cases e:x.testBit b
  ·rw[e]at h;simp at h
  ·rfl
 have hle:2 ^ b<=x:=Nat.ge_two_pow_of_testBit ht
 refine⟨?_,by exact_mod_cast hle⟩
 have hx':x % 2 ^ IntKind.u64.bits=x:=dw hx
 have hp':2 ^ b % 2 ^ IntKind.u64.bits=2 ^ b:=dw hp
 unfold Go.bits
 simp only[BitVec.ofInt_natCast,BitVec.toNat_and,BitVec.toNat_not,BitVec.toNat_ofNat,hx',hp']
 have e:x &&& (2 ^ IntKind.u64.bits - 1 - 2 ^ b)=x - 2 ^ b:=by
  have h1:(x - 2 ^ b) &&& 2 ^ b=0:=by
   rw[and_bit]
   have:(x - 2 ^ b).testBit b=J:=by
    have h2:=Nat.testBit_two_pow_add_eq (x - 2 ^ b) b
    rw[Nat.add_comm,Nat.sub_add_cancel hle,ht]at h2
    cases e:(x - 2 ^ b).testBit b
    ·rfl
    ·rw[e]at h2;exact absurd h2 (by decide)
   rw[this];rfl
  apply Nat.eq_of_testBit_eq
  intro i
  rw[Nat.testBit_and,show 2 ^ IntKind.u64.bits - 1 - 2 ^ b=2 ^ 64 - (2 ^ b+1) from by simp only[ij];omega,Nat.testBit_two_pow_sub_succ hp,Nat.testBit_two_pow]
  have hs:x=2 ^ b+(x - 2 ^ b):=by omega
  by_cases hi:b=i
  ·subst hi
   have h3:(x - 2 ^ b).testBit b=J:=by
    have:=congrArg (fun z=>z.testBit b) h1
    simpa[Nat.testBit_and,Nat.testBit_two_pow]using this
   rw[h3];simp
  ·have h4:x=(x - 2 ^ b) ||| 2 ^ b:=by
    have hy:(x - 2 ^ b) % 2 ^ 64=x - 2 ^ b:=dw (by omega)
    have hq:2 ^ b % 2 ^ 64=2 ^ b:=dw hp
    have hs:=BitVec.add_eq_or_of_and_eq_zero (BitVec.ofNat 64 (x - 2 ^ b)) (BitVec.ofNat 64 (2 ^ b)) (by
     apply BitVec.eq_of_toNat_eq
     rw[BitVec.toNat_and,BitVec.toNat_ofNat,BitVec.toNat_ofNat,hy,hq,h1];rfl)
    have hs:=congrArg BitVec.toNat hs
    rw[BitVec.toNat_add,BitVec.toNat_or,BitVec.toNat_ofNat,BitVec.toNat_ofNat,hy,hq,Nat.sub_add_cancel hle,dw hx]at hs
    exact hs
   have h5:x.testBit i=(x - 2 ^ b).testBit i:=by
    conv=>lhs;rw[h4]
    rw[Nat.testBit_or,Nat.testBit_two_pow];simp[hi]
   rw[←h5]
   by_cases h64:i<64
   ·simp[h64,hi]
   ·have:x.testBit i=J:=Nat.testBit_lt_two_pow (bk hx (ji (by decide) (by omega)))
    rw[this];simp
 rw[e,kC _ (by omega) (by have:=hu.2;rw[show(2:Int) ^ 64=18446744073709551616 from by decide];omega)]
 omega
end
end Go.Proofs.YtfigjpehecibeaaGreat.L
namespace Go.Proofs.YtfigjpehecibeaaGreat.L
open Go.RowKit Bm C Go.Maps Go.Proofs.YtfigjpehecibeaaGreatW.PrintWords Go.Proofs.YtfigjpehecibeaaGreatW.PrintLast Go.Proofs.YtfigjpehecibeaaGreatW.PrintMore Go.Proofs.YtfigjpehecibeaaGreat.Gr
theorem trnI_idem (wd v:Int):lL wd (lL wd v)=lL wd v:=by
 unfold lL
 rw[aw]
 unfold trn
 repeat' split
 all_goals first | rfl | (rw[Nat.mod_mod])
theorem trnI_zero (wd:Int):lL wd 0=0:=by
 unfold lL trn
 repeat' split
 all_goals simp
theorem trimS_getD (wd:Int)(l:List Int)(k:Nat):(fE wd l).getD k 0=lL wd (l.getD k 0):=by
 unfold fE
 rw[av,iv]
 by_cases hk:k<l.length
 ·rw[List.getElem?_range hk];rfl
 ·rw[cz (by simpa using hk),av,cz (by omega)]
  exact(trnI_zero wd).symm
theorem trnI_u64 {wd x:Int}(h:U64 x):U64 (lL wd x):=by
 obtain⟨n,rfl,hn⟩:=h.nat
 unfold lL
 exact mN (trn_le (by simpa using hn))
theorem trimS_u64 (wd:Int){l:List Int}(h:∀v∈l,U64 v):∀v∈fE wd l,U64 v:=fun v hv=>by
 unfold fE at hv
 obtain⟨i,_,rfl⟩:=List.mem_map.1 hv
 exact trnI_u64 (eL h i)
theorem word0_trim (wd:Int)(d:S70)(inp:List Int)(o:Nat):jX wd d (fE wd inp) o=jX wd d inp o:=by
 funext k
 unfold jX
 rw[trimS_getD,trnI_idem]
theorem rows0_trim (wd:Int)(ds:List S70)(inp:List Int)(i:Nat):fM wd ds (fE wd inp) i=fM wd ds inp i:=by
 unfold fM row0
 simp only[word0_trim]
theorem endAns_trim (nm:ByteArray)(wd ln:Int)(ds:List S70)(bd:List S119)(inp:List Int):dW nm wd ln ds bd (fE wd inp)=dW nm wd ln ds bd inp:=by
 unfold dW endOf
 rw[gI,rows0_trim]
theorem samePub_trim (wd:Int)(P:List Bool)(x y:List Int)(k:Nat):gV wd P (fE wd x) (fE wd y) k ↔ gV wd P x y k:=by
 unfold gV
 simp only[trimS_getD,trnI_idem]
theorem pO (nm:ByteArray)(wd ln:Int)(ds:List S70)(bd:List S119)(x y:List Int):bO nm wd ln ds bd (fE wd x) (fE wd y)=bO nm wd ln ds bd x y:=by
 unfold bO
 have e:=propext (samePub_trim wd (dU nm wd ln ds bd).1 x y (dU nm wd ln ds bd).1.length)
 simp only[gI,endAns_trim]
 rw[e]
theorem rZ {nm:ByteArray}{wd ln:Int}{ds:List S70}{bd:List S119}{x y:List Int}(h:(bO nm wd ln ds bd x y).1=ac):(bE nm wd ln ds bd).e=0/\x.length=(gO ds ds.length).length/\y.length=(gO ds ds.length).length/\(bO nm wd ln ds bd x y).2.2=0:=by
 have hf:(bE nm wd ln ds bd).e=0:=by
  by_cases h0:(bE nm wd ln ds bd).e=0
  ·exact h0
  ·unfold bO at h
   rw[(eR nm wd ln ds bd).2 h0,if_neg h0]at h
   exact absurd h (by simp)
 have hz:∀T U,(kR T U).2.2=0:=fun T U=>by unfold kR;split <;> rfl
 revert h
 unfold bO
 rw[(eR nm wd ln ds bd).1 hf,if_pos rfl]
 by_cases hn:x.length=(gO ds ds.length).length/\y.length=(gO ds ds.length).length
 ·rw[if_pos hn]
  split
  ·intro _;exact⟨hf,hn.1,hn.2,hz _ _⟩
  ·intro h;exact absurd h (by simp)
 ·rw[if_neg hn]
  intro h;exact absurd h (by simp)
section
set_option maxRecDepth 100000
theorem sX (nm:ByteArray)(wd ln:Int)(ds:List S70)(bd:List S119)(A3:Option Addr)(c3:Nat)(A4:Option Addr)(c4:Nat)(W:World)(hp:ProgAt W ds bd A3 c3 A4 c4)(hg:PGood nm wd ln ds bd)(x y:List Int)(A B:Option Addr)(cA cB:Nat)(hx:bT W A x)(hy:bT W B y)(ux:∀v∈x,U64 v)(uy:∀v∈y,U64 v)(hcx:x.length<=cA)(hcy:y.length<=cB)(r:Bool × Int × Int)(hr:r=bO nm wd ln ds bd x y):
 Calls aq 29 #[.agg #[.string nm,.int .i64 wd,.int .i64 ln,.slice A3 ds.length c3,.slice A4 bd.length c4],.slice A x.length cA,.slice B y.length cB] W fun e W'=>e=.returned (.tuple #[.bool r.1,.int .i64 r.2.1,.int .i64 r.2.2])/\Below W.heap.size W W':=by
 obtain⟨xb,hxb⟩:∃b,b=W.heap.size:=⟨_,rfl⟩
 obtain⟨X,hX⟩:∃X,X=W.alloc (.cells #[.string nm,.int .i64 wd,.int .i64 ln,.slice A3 ds.length c3,.slice A4 bd.length c4] 25):=⟨_,rfl⟩
 have hXB:Below W.heap.size W X:=by rw[hX];exact(aj _ _).alloc (ak _) _
 have hbx:X.heap[xb]? =af (.cells #[.string nm,.int .i64 wd,.int .i64 ln,.slice A3 ds.length c3,.slice A4 bd.length c4] 25 (0,0)):=by rw[hX,hxb];exact aW _ _
 unfold bO at hr
 obtain⟨⟨l,er⟩,hle⟩:∃r,r=dU nm wd ln ds bd:=⟨_,rfl⟩
 have hpu:=l7 nm wd ln ds bd A3 c3 A4 c4 X (hp.below hXB) hg
 rw[←hle]at hr hpu
 have HPU:=I hpu
 have HLE:=I hle
 have HR:=I hr
 have HX:=I (ae hXB (ae hbx (hp.below hXB)))
 have HI:=I (ae (hx.below hXB) (ae (hy.below hXB) (ae ux uy)))
 have HRX:=I (fun(W':World) (h:Below X.heap.size X W')=>run_calls nm wd ln ds bd A3 c3 A4 c4 W' ((hp.below hXB).below h) hg x A cA ((hx.below hXB).below h) ux hcx)
 have HRY:=I (fun(W':World) (h:Below X.heap.size X W')=>run_calls nm wd ln ds bd A3 c3 A4 c4 W' ((hp.below hXB).below h) hg y B cB ((hy.below hXB).below h) uy hcy)
 have HSM:=I (ae (kX nm wd ln ds bd x) (kX nm wd ln ds bd y))
 have HXE:=I (ae hX hxb)
 have x0:X.cell? ⟨xb,0,ai⟩=af (.string nm):=(aA hbx 0).trans rfl
 have x1:X.cell? ⟨xb,1,ai⟩=af (.int .i64 wd):=(aA hbx 1).trans rfl
 have x2:X.cell? ⟨xb,2,ai⟩=af (.int .i64 ln):=(aA hbx 2).trans rfl
 have x3:X.cell? ⟨xb,3,ai⟩=af (.slice A3 ds.length c3):=(aA hbx 3).trans rfl
 have x4:X.cell? ⟨xb,4,ai⟩=af (.slice A4 bd.length c4):=(aA hbx 4).trans rfl
 clear hp hg hx hy ux uy hX hxb hXB hbx hr hle hpu hcx hcy
 go_enter Tryz.func29,Tryz.ntmps29
 go_upto_region 1 with (fail)
 rw[←HXE.out.1,←HXE.out.2]
 go_wp2_with fail
 refine HPU.out.mono ?_
 rintro _ w1 ⟨v,rfl,hR,hb1⟩
 obtain⟨Av,cv,hv⟩:=Kd.cD hR
 subst hv
 have hbo:BoolsAt w1 Av l:=by
  obtain⟨A',c',e',-,hC⟩:=Kd.dC hR
  injection e' with e'
  rw[e'];exact sD hC
 have H1:=I (ae hb1 hbo)
 have HW1:=I (HX.out.1.trans (hb1.mono HX.out.1.size))
 clear hR hb1 hbo x0 x1 x2 x3 x4
 by_cases he:er=0
 ·have HF:=I (show(bE nm wd ln ds bd).e=0 from by
   by_cases h0:(bE nm wd ln ds bd).e=0
   ·exact h0
   ·have h:=HLE.out
    rw[(eR nm wd ln ds bd).2 h0]at h
    injection h with _ h
    exact absurd (h.symm.trans he) h0)
  have HWD:=I (show 1<=wd from by
   obtain⟨m,e,h⟩:=(eE HF.out).wd
   rw[e];unfold d9 at h;omega)
  subst he
  by_cases hn:x.length=l.length/\y.length=l.length
  ·obtain⟨hnx,hny⟩:=hn
   have HN:=I (ae hnx hny)
   have hr2:=HR.out
   rw[if_pos rfl,if_pos HN.out]at hr2
   have HR2:=I hr2
   have hl1:l.length<=65536:=by
    have h:=HLE.out
    rw[(eR nm wd ln ds bd).1 HF.out]at h
    injection h with h _
    have h2:=jN (fun i hi=>dB HF.out i hi) ds.length (ak _)
    have h3:=(eE HF.out).few
    rw[h];omega
   rw[hnx]at HRX ⊢
   rw[hny]at HRY ⊢
   clear hnx hny hr2
   go_wp2_with fail
   go_loopw [41] (fun i W'=>∃k:Nat,i=.int .i64 k/\k<=l.length/\Aside0 (Below w1.heap.size w1 W'/\gV wd l x y k)) (fun i _=>l.length - (intOf i).toNat)
   case atStart=>exact⟨0,rfl,bh _,⟨aj _ _,gV.zero _ _ _ _⟩⟩
   case round=>
    obtain⟨k,rfl,hk,HB⟩:=hrel
    have HXR:=I (show Below X.heap.size X wr from H1.out.1.trans (HB.out.1.mono H1.out.1.size))
    by_cases hlt:k<l.length
    ·have hi1:(k:Int)<(l.length:Int):=by omega
     obtain⟨ad0,e0,q0⟩:=H1.out.2 k hlt
     cases e0
     obtain⟨ad1,e1,q1⟩:=HI.out.1 k (by rw[HN.out.1];exact hlt)
     cases e1
     obtain⟨ad2,e2,q2⟩:=HI.out.2.1 k (by rw[HN.out.2];exact hlt)
     cases e2
     replace q0:=aE HB.out.1 q0
     replace q1:=aE HXR.out q1
     replace q2:=aE HXR.out q2
     have pw:∀g:G wr,g.W.cell? ⟨xb,1,ai⟩=af (.int .i64 wd):=fun g=>(aA (aB (aB HX.out.2.1 HXR.out) g.below) 1).trans rfl
     have HU:=I (ae (eL HI.out.2.2.1 k) (eL HI.out.2.2.2 k))
     obtain⟨b,hb⟩:∃b,b=l.getD k J:=⟨_,rfl⟩
     obtain⟨u,hu⟩:∃b,b=x.getD k 0:=⟨_,rfl⟩
     obtain⟨v,hv⟩:∃b,b=y.getD k 0:=⟨_,rfl⟩
     rw[←hb]at q0
     rw[←hu]at q1 HU
     rw[←hv]at q2 HU
     have HEQ:=I (ae hb (ae hu hv))
     have p0:∀g:G wr,g.W.cell? (ad0.add k)=af (.bool b):=fun g=>aE g.below q0
     have p1:∀g:G wr,g.W.cell? (ad1.add k)=af (.int .u64 u):=fun g=>aE g.below q1
     have p2:∀g:G wr,g.W.cell? (ad2.add k)=af (.int .u64 v):=fun g=>aE g.below q2
     clear hb hu hv q1 q2
     cases b with
     |false=>
      go_wp2_with fail
      refine aG ?_
      intro gg
      refine bF (by kernel_rfl) (by kernel_rfl) ?_
      repeat(go_big_quiet_step (first | (go_at_call 72;exact aD (trimI HWD.out (by first | exact HU.out.1 | exact HU.out.2) _))))
      refine wpQuiet_nil ?_
      rintro _ ⟨gg,rfl⟩
      go_wp2_with fail
      refine⟨⟨k+1,by go_num,by omega,⟨HB.out.1.trans (gg.below.mono HB.out.1.size),HB.out.2.step fun h=> ?_⟩⟩,by simp[intOf];omega⟩
      rw[←HEQ.out.1]at h;exact absurd h (by decide)
     |true=>
      rcases aL (lL wd u==lL wd v)with ht | ht
      ·go_wp2_with fail
       refine aG ?_
       intro gg
       refine bF (by kernel_rfl) (by kernel_rfl) ?_
       repeat(go_big_quiet_step (first | (go_at_call 72;exact aD (trimI HWD.out (by first | exact HU.out.1 | exact HU.out.2) _))))
       refine wpQuiet_nil ?_
       rintro _ ⟨gg,rfl⟩
       go_wp2_with fail
       refine⟨⟨k+1,by go_num,by omega,⟨HB.out.1.trans (gg.below.mono HB.out.1.size),HB.out.2.step fun h=> ?_⟩⟩,by simp[intOf];omega⟩
       rw[←HEQ.out.2.1,←HEQ.out.2.2];exact beq_iff_eq.1 ht
      ·have HA:=I (show r=(J,0,1) from by
        rw[HR2.out,if_neg]
        intro h
        have:=h k (by omega) HEQ.out.1.symm
        rw[←HEQ.out.2.1,←HEQ.out.2.2]at this
        rw[beq_iff_eq.2 this]at ht;exact absurd ht (by decide))
       go_wp2_with fail
       refine aG ?_
       intro gg
       refine bF (by kernel_rfl) (by kernel_rfl) ?_
       repeat(go_big_quiet_step (first | (go_at_call 72;exact aD (trimI HWD.out (by first | exact HU.out.1 | exact HU.out.2) _))))
       refine wpQuiet_nil ?_
       rintro _ ⟨gg,rfl⟩
       go_wp2_with fail
       go_ret3
       exact⟨by rw[HA.out];rfl,HW1.out.trans ((HB.out.1.trans (gg.below.mono HB.out.1.size)).mono HW1.out.size)⟩
    ·have hkl:k=l.length:=by omega
     subst hkl
     have hr3:=HR2.out
     rw[if_pos HB.out.2]at hr3
     have HR3:=I hr3
     obtain⟨⟨er1,S,T⟩,hansx⟩:∃r,r=dW nm wd ln ds bd x:=⟨_,rfl⟩
     obtain⟨⟨er2,S2,U⟩,hansy⟩:∃r,r=dW nm wd ln ds bd y:=⟨_,rfl⟩
     rw[←hansx]at HRX HSM HR3
     rw[←hansy]at HRY HSM HR3
     clear hr3 hansx hansy
     have x0:wr.cell? ⟨xb,0,ai⟩=af (.string nm):=(aA (aB HX.out.2.1 HXR.out) 0).trans rfl
     have x1:wr.cell? ⟨xb,1,ai⟩=af (.int .i64 wd):=(aA (aB HX.out.2.1 HXR.out) 1).trans rfl
     have x2:wr.cell? ⟨xb,2,ai⟩=af (.int .i64 ln):=(aA (aB HX.out.2.1 HXR.out) 2).trans rfl
     have x3:wr.cell? ⟨xb,3,ai⟩=af (.slice A3 ds.length c3):=(aA (aB HX.out.2.1 HXR.out) 3).trans rfl
     have x4:wr.cell? ⟨xb,4,ai⟩=af (.slice A4 bd.length c4):=(aA (aB HX.out.2.1 HXR.out) 4).trans rfl
     go_wp2_with fail
     refine(HRX.out wr HXR.out).mono ?_
     rintro _ w3 ⟨vS,vT,rfl,hE,hb⟩
     obtain⟨⟨PS,pS,eS,-⟩,P,p,eT,hT⟩:=hE
     replace eS:vS=.slice PS S.length pS:=eS
     replace eT:vT=.slice P T.length p:=eT
     subst eS eT
     obtain⟨ab,hab⟩:∃b,b=w3.heap.size:=⟨_,rfl⟩
     obtain⟨w4,hw4⟩:∃w',w'=w3.alloc (.cells #[.slice PS S.length pS,.slice P T.length p] 40):=⟨_,rfl⟩
     have hb4:Below w3.heap.size w3 w4:=by rw[hw4];exact(aj _ _).alloc (ak _) _
     have hk:w4.heap[ab]? =af (.cells #[.slice PS S.length pS,.slice P T.length p] 40 (0,0)):=by rw[hw4,hab];exact aW _ _
     have H4:=I (show Below wr.heap.size wr w4/\w4.heap[ab]? =af (.cells #[.slice PS S.length pS,.slice P T.length p] 40 (0,0))/\mG.C w4 P T.length T from⟨hb.trans (hb4.mono hb.size),hk,Kd.aF hT hb4⟩)
     clear hb hb4 hk hT x0 x1 x2 x3 x4
     go_upto_region 13 with (fail)
     rw[←hab]
     rw[←hw4]
     clear hab hw4
     have HX4:=I (HXR.out.trans (H4.out.1.mono HXR.out.size))
     have x0:w4.cell? ⟨xb,0,ai⟩=af (.string nm):=(aA (aB HX.out.2.1 HX4.out) 0).trans rfl
     have x1:w4.cell? ⟨xb,1,ai⟩=af (.int .i64 wd):=(aA (aB HX.out.2.1 HX4.out) 1).trans rfl
     have x2:w4.cell? ⟨xb,2,ai⟩=af (.int .i64 ln):=(aA (aB HX.out.2.1 HX4.out) 2).trans rfl
     have x3:w4.cell? ⟨xb,3,ai⟩=af (.slice A3 ds.length c3):=(aA (aB HX.out.2.1 HX4.out) 3).trans rfl
     have x4:w4.cell? ⟨xb,4,ai⟩=af (.slice A4 bd.length c4):=(aA (aB HX.out.2.1 HX4.out) 4).trans rfl
     go_wp2_with fail
     refine(HRY.out w4 HX4.out).mono ?_
     rintro _ w5 ⟨vS,vT,rfl,hE,hb⟩
     obtain⟨⟨QS,qS,eS,-⟩,Q,q,eT,hT⟩:=hE
     replace eS:vS=.slice QS S2.length qS:=eS
     replace eT:vT=.slice Q U.length q:=eT
     subst eS eT
     obtain⟨ob,hob⟩:∃b,b=w5.heap.size:=⟨_,rfl⟩
     obtain⟨w6,hw6⟩:∃w',w'=w5.alloc (.cells #[.slice QS S2.length qS,.slice Q U.length q] 40):=⟨_,rfl⟩
     have hb4:Below w5.heap.size w5 w6:=by rw[hw6];exact(aj _ _).alloc (ak _) _
     have hk:w6.heap[ob]? =af (.cells #[.slice QS S2.length qS,.slice Q U.length q] 40 (0,0)):=by rw[hw6,hob];exact aW _ _
     have H6:=I (show Below w4.heap.size w4 w6/\w6.heap[ob]? =af (.cells #[.slice QS S2.length qS,.slice Q U.length q] 40 (0,0))/\mG.C w6 Q U.length U from⟨hb.trans (hb4.mono hb.size),hk,Kd.aF hT hb4⟩)
     clear hb hb4 hk hT x0 x1 x2 x3 x4
     go_upto_region 14 with (fail)
     rw[←hob]
     rw[←hw6]
     clear hob hw6
     have HX6:=I (HX4.out.trans (H6.out.1.mono HX4.out.size))
     have HC6:=I (ae (Kd.aF H4.out.2.2 H6.out.1) (ae H6.out.2.2 (ae (aB H4.out.2.1 H6.out.1) H6.out.2.1)))
     have a1:w6.cell? ⟨ab,1,ai⟩=af (.slice P T.length p):=(aA HC6.out.2.2.1 1).trans rfl
     have b1:w6.cell? ⟨ob,1,ai⟩=af (.slice Q U.length q):=(aA HC6.out.2.2.2 1).trans rfl
     obtain⟨⟨d1,d2⟩,hd⟩:∃r,r=difS T U:=⟨_,rfl⟩
     have HDC:=I (differ_calls T U P Q p q w6 HC6.out.1 HC6.out.2.1 HSM.out.1 HSM.out.2 _ hd)
     have HD:=I hd
     clear hd
     go_wp2_with fail
     refine HDC.out.mono ?_
     rintro _ w7 ⟨rfl,hb7⟩
     have H7:=I (show Below W.heap.size W w7/\mG.C w7 P T.length T/\mG.C w7 Q U.length U from⟨HX.out.1.trans ((HX6.out.trans (hb7.mono HX6.out.size)).mono HX.out.1.size),Kd.aF HC6.out.1 hb7,Kd.aF HC6.out.2.1 hb7⟩)
     clear a1 b1
     have a1:w7.cell? ⟨ab,1,ai⟩=af (.slice P T.length p):=(aA (aB HC6.out.2.2.1 hb7) 1).trans rfl
     have b1:w7.cell? ⟨ob,1,ai⟩=af (.slice Q U.length q):=(aA (aB HC6.out.2.2.2 hb7) 1).trans rfl
     clear hb7
     rcases difS_cases T U with hdd | ⟨j,hdd⟩
     ·have hd2:=HD.out.trans hdd
      injection hd2 with hd1 hd2
      subst hd1 hd2
      have HA:=I (show r=(J,0,0) from HR3.out.trans (lV hdd))
      clear hdd
      go_wp2_with fail
      go_ret3
      exact⟨by rw[HA.out];rfl,H7.out.1⟩
     ·have hd2:=HD.out.trans hdd
      injection hd2 with hd1 hd2
      subst hd1 hd2
      have HJ:=I hdd
      clear hdd
      by_cases h1:j<T.length
      ·have hi1:decide ((j:Int)<(T.length:Int))=ac:=decide_eq_true (by omega)
       by_cases h2:j<U.length
       ·have hi2:decide ((j:Int)<(U.length:Int))=ac:=decide_eq_true (by omega)
        obtain⟨ad1,e1,q0,-,-⟩:=mA H7.out.2.1 (j:Int) (by omega) (by omega)
        cases e1
        obtain⟨ad2,e2,p0,-,-⟩:=mA H7.out.2.2 (j:Int) (by omega) (by omega)
        cases e2
        rw[aw]at q0 p0
        obtain⟨f,hf⟩:∃f,f=(fR T (j:Int)).f0:=⟨_,rfl⟩
        obtain⟨f',hf'⟩:∃f,f=(fR U (j:Int)).f0:=⟨_,rfl⟩
        rw[←hf]at q0
        rw[←hf']at p0
        have HFF:=I (ae hf hf')
        clear hf hf'
        rcases aL (f==5)with h5 | h5
        ·rcases aL (f'==5)with h6 | h6
         ·have HA:=I (show r=(J,0,0) from HR3.out.trans (o6 HJ.out ⟨h1,h2,by rw[←HFF.out.1];exact beq_iff_eq.1 h5,by rw[←HFF.out.2];exact beq_iff_eq.1 h6⟩))
          go_wp2_with fail
          go_ret3
          exact⟨by rw[HA.out];rfl,H7.out.1⟩
         ·have HA:=I (show r=(ac,(j:Int),0) from HR3.out.trans (eH HJ.out (fun h=>by have:=h.2.2.2;rw[←HFF.out.2]at this;rw[beq_iff_eq.2 this]at h6;exact absurd h6 (by decide))))
          go_wp2_with fail
          go_ret3
          exact⟨by rw[HA.out];rfl,H7.out.1⟩
        ·have HA:=I (show r=(ac,(j:Int),0) from HR3.out.trans (eH HJ.out (fun h=>by have:=h.2.2.1;rw[←HFF.out.1]at this;rw[beq_iff_eq.2 this]at h5;exact absurd h5 (by decide))))
         go_wp2_with fail
         go_ret3
         exact⟨by rw[HA.out];rfl,H7.out.1⟩
       ·have hi2:decide ((j:Int)<(U.length:Int))=J:=decide_eq_false (by omega)
        have HA:=I (show r=(ac,(j:Int),0) from HR3.out.trans (eH HJ.out (fun h=>by exact h2 h.2.1)))
        go_wp2_with fail
        go_ret3
        exact⟨by rw[HA.out];rfl,H7.out.1⟩
      ·have hi1:decide ((j:Int)<(T.length:Int))=J:=decide_eq_false (by omega)
       have HA:=I (show r=(ac,(j:Int),0) from HR3.out.trans (eH HJ.out (fun h=>by exact h1 h.1)))
       go_wp2_with fail
       go_ret3
       exact⟨by rw[HA.out];rfl,H7.out.1⟩
  ·have HA:=I (show r=(J,0,170) from by rw[HR.out,if_pos rfl,if_neg hn])
   by_cases hnx:x.length=l.length
   ·have hny:((y.length:Int)==(l.length:Int))=J:=by
     rw[beq_eq_false_iff_ne];intro h;exact hn ⟨hnx,by omega⟩
    rw[hnx]
    clear hn hnx
    go_wp2_with fail
    go_ret3
    exact⟨by rw[HA.out];rfl,HW1.out⟩
   ·have hnx':((x.length:Int)==(l.length:Int))=J:=by
     rw[beq_eq_false_iff_ne];intro h;exact hnx (by omega)
    clear hn hnx
    go_wp2_with fail
    go_ret3
    exact⟨by rw[HA.out];rfl,HW1.out⟩
 ·have HA:=I (show r=(J,0,er) from by rw[HR.out,if_neg he])
  have he0:(er==0)=J:=by rw[beq_eq_false_iff_ne];exact he
  go_wp2_with fail
  go_ret3
  exact⟨by rw[HA.out];rfl,HW1.out⟩
end
section
set_option maxRecDepth 100000
theorem Row.keep {W W':World}{base b c:Nat}{l:List Int}(h:Row W base b c l)(hh:W'.heap[b]? =W.heap[b]?):Row W' base b c l:=Kd.R_step h (fun k hk _=>by rw[hk];exact hh)
theorem Row.lt {W:World}{base b c:Nat}{l:List Int}(h:Row W base b c l):b<W.heap.size:=by
 obtain⟨cs,hb⟩:=h.blk
 exact aX hb
theorem Sh.words {c:ShC}{bx cx bY cY:Nat}{U V:List Int}{a:Int}{W:World}(h:Sh c bx cx bY cY U V a W):bT W (af ⟨bx,0,ai⟩) U/\bT W (af ⟨bY,0,ai⟩) V/\U.length<=cx/\V.length<=cY:=⟨h.rx.words,h.ry.words,h.rx.C.1,h.ry.C.1⟩
theorem clone_row (l:List Int)(b c:Nat)(W:World){base:Nat}(h:Row W base b c l)(hl:l.length<=1073741824)(h0:0<l.length):
 Calls aq 89 #[.slice (af ⟨b,0,ai⟩) l.length c] W fun e W'=>∃b' c',e=.returned (.slice (af ⟨b',0,ai⟩) l.length c')/\W.heap.size<=b'/\Row W' W.heap.size b' c' l/\Below W.heap.size W W':=by
 refine(sN l ⟨b,0,ai⟩ c W h.C.2 hl).mono ?_
 rintro e W' ⟨v,rfl,hr,hb⟩
 obtain⟨b',c',rfl,h1,h2⟩:=Row.of_R hr h0
 exact⟨b',c',rfl,h1,h2,hb⟩
structure TryW (c:ShC)(bx bY:Nat)(s:S3)(W W':World):Prop where
 sh:∃bx2 cx2 bY2 cY2,Sh c bx2 cx2 bY2 cY2 s.u s.v s.a W'
 kz:Kz c bx bY W W'
theorem try_calls {c:ShC}(hc:c.OK)(nm:ByteArray)(wd ln:Int)(ds:List S70)(bd:List S119)(A3:Option Addr)(c3:Nat)(A4:Option Addr)(c4:Nat)(hp:ProgAt c.w0 ds bd A3 c3 A4 c4)(hg:PGood nm wd ln ds bd){pb:Nat}(hpb:c.P0.heap[pb]? =af (.cells #[.string nm,.int .i64 wd,.int .i64 ln,.slice A3 ds.length c3,.slice A4 bd.length c4] 25 (0,0)))(hpa:pb≠c.ab){f:FuncId}{caps:Array Value}{U V U' V':List Int}{W0:World}(hT:Turn c f caps U V U' V' W0){a:Int}{bx cx bY cY:Nat}{W:World}(hB:Below W0.heap.size W0 W)(hS:Sh c bx cx bY cY U V a W)(h0:0<U.length)(hUV:V.length=U.length)(hl:U.length<=1073741824)(hU:U'.length=U.length)(hV:V'.length=U.length)(uu:∀v∈U',U64 v)(uv:∀v∈V',U64 v):
 Calls aq 88 #[.func (.func f) #[] caps,.pointer (af ⟨c.xb,0,ai⟩),.pointer (af ⟨c.yb,0,ai⟩),.pointer (af ⟨pb,0,ai⟩),.pointer (af ⟨c.ab,0,ai⟩)] W fun e W'=>e=.returned (.tuple #[])/\TryW c bx bY (kV (bO nm wd ln ds bd) ⟨U,V,a⟩ U' V') W W':=by
 have HP:=I (ae hp (ae hg (ae hpb (ae hc hpa))))
 have HS:=I hS
 have HU:=I (ae uu uv)
 have HL:=I (ae h0 (ae hUV (ae hl (ae hU hV))))
 have HT:=I (ae hT.2 hB)
 have hin:=hT.1
 have x0:W.cell? ⟨c.xb,0,ai⟩=af (.slice (af ⟨bx,0,ai⟩) U.length cx):=(aA hS.x 0).trans rfl
 have y0:W.cell? ⟨c.yb,0,ai⟩=af (.slice (af ⟨bY,0,ai⟩) V.length cY):=(aA hS.y 0).trans rfl
 clear hp hg hpb hc hpa hT hB hS h0 hUV hl hU hV uu uv
 have p0:∀g:G W,g.W.cell? ⟨c.xb,0,ai⟩=af (.slice (af ⟨bx,0,ai⟩) U.length cx):=fun g=>aE g.below x0
 have p1:∀g:G W,g.W.cell? ⟨c.yb,0,ai⟩=af (.slice (af ⟨bY,0,ai⟩) V.length cY):=fun g=>aE g.below y0
 go_enter Tryz.func88,Tryz.ntmps88
 go_wp2_with fail
 refine aG ?_
 intro gg
 refine eZ (n:=6) (S:=fun w'=>∃g':G _,w'=g'.W) (ds:=[]) #[J,J,J,J,J,J] (by kernel_rfl) rfl rfl ⟨mkG (gg.2.drew),rfl⟩ (fun hHeld=> ?_)
 obtain⟨gd,hgd⟩:=hHeld
 rw[hgd]
 clear hgd
 refine cM (i:=0) (N:=af 11) (v:= ?_) (a':= ?_) #[ac,J,J,J,J,J] rfl rfl (by kernel_rfl) (fun _ _ _ h=>h) (az ⟨by rfl,?_⟩) ⟨gd,rfl⟩ ?_ ?_
 rotate_left
 ·rintro w' ⟨g',rfl⟩
  go_simp
  with_reducible rfl
 rotate_left
 ·simp only[au,aa,ag,ah,aJ,aK]
  rfl
 refine cM (i:=2) (N:=af 13) (v:= ?_) (a':= ?_) #[ac,J,ac,J,J,J] rfl rfl (by kernel_rfl) (fun _ _ _ h=>h) (az ⟨by rfl,?_⟩) ⟨gd,rfl⟩ ?_ ?_
 rotate_left
 ·rintro w' ⟨g',rfl⟩
  go_simp
  with_reducible rfl
 rotate_left
 ·simp only[au,aa,ag,ah,aJ,aK]
  rfl
 refine jY (i:=1) (N:=af 12) #[ac,ac,ac,J,J,J] rfl rfl (by kernel_rfl) (by simp) (fun Kr hKr=> ?_)
 refine gQ Tryz.func89 (by kernel_rfl) rfl #[.slice (af ⟨bx,0,ai⟩) U.length cx] (by rfl) rfl rfl (by(try simp only[bq,cd,cn]);first | done | rfl) ?_
 refine(clone_row U bx cx gd.W (HS.out.rx.below gd.below) HL.out.2.2.1 HL.out.1).mono ?_
 rintro _ w9 ⟨ba,ca,rfl,hba,hra,hb⟩
 refine⟨_,rfl,?_⟩
 have HC1:=I (ae (bi gd.below.size hba) (hra.low gd.below.size))
 clear hba hra
 obtain⟨gd,rfl⟩:∃g':G _,w9=g'.W:=⟨mkG (gd.below.trans (hb.mono gd.below.size)),rfl⟩
 clear hb
 refine hKr.out _ _ ⟨gd,rfl⟩ (fun _=> ?_)
 clear hKr Kr
 refine cN (a':= ?_) ?_ ?_
 rotate_left
 ·show au _ (af 12) _ = _
  simp only[au,aa,ag,ah,aJ,aK]
  rfl
 refine jY (i:=3) (N:=af 14) #[ac,ac,ac,ac,J,J] rfl rfl (by kernel_rfl) (by simp) (fun Kr hKr=> ?_)
 refine gQ Tryz.func89 (by kernel_rfl) rfl #[.slice (af ⟨bY,0,ai⟩) V.length cY] (by rfl) rfl rfl (by(try simp only[bq,cd,cn]);first | done | rfl) ?_
 refine(clone_row V bY cY gd.W (HS.out.ry.below gd.below) (by rw[HL.out.2.1];exact HL.out.2.2.1) (by rw[HL.out.2.1];exact HL.out.1)).mono ?_
 rintro _ w9 ⟨bb,cb,rfl,hbb,hrb,hb⟩
 refine⟨_,rfl,?_⟩
 have HC2:=I (ae (ae HC1.out.1 (HC1.out.2.below hb)) (ae (ae (bi gd.below.size hbb) (hrb.low gd.below.size)) (jf (bk HC1.out.2.lt hbb))))
 clear hbb hrb HC1
 obtain⟨gd,rfl⟩:∃g':G _,w9=g'.W:=⟨mkG (gd.below.trans (hb.mono gd.below.size)),rfl⟩
 clear hb
 refine hKr.out _ _ ⟨gd,rfl⟩ (fun _=> ?_)
 clear hKr Kr
 refine cN (a':= ?_) ?_ ?_
 rotate_left
 ·show au _ (af 14) _ = _
  simp only[au,aa,ag,ah,aJ,aK]
  rfl
 refine aQ (i:=4) (N:=af 6) (v:= ?_) (a':= ?_) #[ac,ac,ac,ac,ac,J] rfl rfl (by kernel_rfl) (fun _ _ _ h=>h) (az ⟨by rfl,?_⟩) ?_ ?_
 rotate_left
 ·intro w'
  go_simp
  with_reducible rfl
 rotate_left
 ·simp only[au,aa,ag,ah,aJ,aK]
  rfl
 refine aQ (i:=5) (N:=af 7) (v:= ?_) (a':= ?_) #[ac,ac,ac,ac,ac,ac] rfl rfl (by kernel_rfl) (fun _ _ _ h=>h) (az ⟨by rfl,?_⟩) ?_ ?_
 rotate_left
 ·intro w'
  go_simp
  with_reducible rfl
 rotate_left
 ·simp only[au,aa,ag,ah,aJ,aK]
  rfl
 refine iQ (by kernel_rfl) ?_
 go_wp2_with fail
 refine(HT.out.1 bx cx bY cY a gd.W (HT.out.2.trans (gd.below.mono HT.out.2.size)) (HS.out.below gd.below)).mono ?_
 rintro _ w2 ⟨rfl,hS2,hz2⟩
 obtain⟨⟨is,at2,er⟩,hr⟩:∃r,r=bO nm wd ln ds bd U' V':=⟨_,rfl⟩
 have hw:=hS2.words
 have HK:=I (sX nm wd ln ds bd A3 c3 A4 c4 w2 (HP.out.1.below hS2.low) HP.out.2.1 U' V' _ _ cx cY hw.1 hw.2.1 HU.out.1 HU.out.2 hw.2.2.1 hw.2.2.2 _ hr)
 have q0:w2.cell? ⟨c.xb,0,ai⟩=af (.slice (af ⟨bx,0,ai⟩) U'.length cx):=(aA hS2.x 0).trans rfl
 have q1:w2.cell? ⟨c.yb,0,ai⟩=af (.slice (af ⟨bY,0,ai⟩) V'.length cY):=(aA hS2.y 0).trans rfl
 have hb25:=hS2.kx.blk _ _ _ _ HP.out.2.2.1 (by decide) (by decide) HP.out.2.2.2.2
 have z0:w2.cell? ⟨pb,0,ai⟩=af (.string nm):=(aA hb25 0).trans rfl
 have z1:w2.cell? ⟨pb,1,ai⟩=af (.int .i64 wd):=(aA hb25 1).trans rfl
 have z2:w2.cell? ⟨pb,2,ai⟩=af (.int .i64 ln):=(aA hb25 2).trans rfl
 have z3:w2.cell? ⟨pb,3,ai⟩=af (.slice A3 ds.length c3):=(aA hb25 3).trans rfl
 have z4:w2.cell? ⟨pb,4,ai⟩=af (.slice A4 bd.length c4):=(aA hb25 4).trans rfl
 have HR:=I hr
 have H2:=I (ae hS2 ((Kz.of_below gd.below).trans hz2))
 have HC3:=I (show Row w2 c.P0.heap.size ba ca U/\Row w2 c.P0.heap.size bb cb V from by
  have hsz:c.P0.heap.size<=W.heap.size:=HS.out.kx.size
  have l1:=HS.out.rx.lt
  have l2:=HS.out.ry.lt
  have l3:=aX HS.out.x
  have l4:=aX HS.out.y
  have l5:=aX HS.out.a
  have e1:=HC2.out.1.1
  have e2:=HC2.out.2.1.1
  exact⟨(HC2.out.1.2.low hsz).keep (hz2.2 _ HC2.out.1.2.lt (by omega) (by omega) (by omega) (by omega) (by omega)),(HC2.out.2.1.2.low hsz).keep (hz2.2 _ HC2.out.2.1.2.lt (by omega) (by omega) (by omega) (by omega) (by omega))⟩)
 clear hr hw hb25 hS2 hz2 x0 y0 p0 p1
 go_wp2_with fail
 refine HK.out.mono ?_
 rintro _ w3 ⟨rfl,hb3⟩
 have H3:=I (ae (H2.out.1.below hb3) (ae (H2.out.2.trans (Kz.of_below hb3)) (ae (HC3.out.1.below hb3) (HC3.out.2.below hb3))))
 clear hb3 q0 q1 z0 z1 z2 z3 z4
 have a0:w3.cell? ⟨c.ab,0,ai⟩=af (.int .i64 a):=(aA H3.out.1.a 0).trans rfl
 have a1:w3.frozen? ⟨c.ab,0,ai⟩=J:=aH H3.out.1.a 0
 cases is with
 |true=>
  have HE:=I (show kV (bO nm wd ln ds bd) ⟨U,V,a⟩ U' V'=⟨U',V',at2⟩ from by unfold kV;rw[←HR.out];rfl)
  have HA:=I (H3.out.1.setA HP.out.2.2.2.1 at2)
  go_wp2_with fail
  refine bodyPost_ret (results_none rfl _ _ _) rfl ?_
  exact⟨rfl,by rw[HE.out];exact⟨⟨_,_,_,_,HA.out.1⟩,H3.out.2.1.trans HA.out.2⟩⟩
 |false=>
  have HE:=I (show kV (bO nm wd ln ds bd) ⟨U,V,a⟩ U' V'=⟨U,V,a⟩ from by unfold kV;rw[←HR.out];rfl)
  have s0:w3.frozen? ⟨c.xb,0,ai⟩=J:=aH H3.out.1.x 0
  have t0:w3.cell? ⟨c.xb,0,ai⟩=af (.slice (af ⟨bx,0,ai⟩) U'.length cx):=(aA H3.out.1.x 0).trans rfl
  have hn1:ba≠bY:=by
   have l2:=HS.out.ry.lt
   have e1:=HC2.out.1.1
   omega
  have h1:=H3.out.1.putX HP.out.2.2.2.1 H3.out.2.2.1 hn1
  have s1:(w3.setCell ⟨c.xb,0,ai⟩ (.slice (af ⟨ba,0,ai⟩) U.length ca)).frozen? ⟨c.yb,0,ai⟩=J:=aH h1.1.y 0
  have t1:(w3.setCell ⟨c.xb,0,ai⟩ (.slice (af ⟨ba,0,ai⟩) U.length ca)).cell? ⟨c.yb,0,ai⟩=af (.slice (af ⟨bY,0,ai⟩) V'.length cY):=(aA h1.1.y 0).trans rfl
  have h2:=h1.1.putY HP.out.2.2.2.1 (b2:=bb) (c2:=cb) (V2:=V) (by
   obtain⟨cs,hb⟩:=H3.out.2.2.2.blk
   exact H3.out.2.2.2.far (dJ H3.out.1.x hb (by decide)) _) HC2.out.2.2
  have HA:=I (ae h2.1 (h1.2.trans (Kz.set (c:=c) (bx:=bx) (bY:=bY) (g:=c.yb) (j:=0) _ (.slice (af ⟨bb,0,ai⟩) V.length cb) (Or.inr (Or.inr (Or.inr (az rfl)))))))
  clear h1 h2 hn1
  go_wp2_with fail
  go_end0
  exact⟨rfl,by rw[HE.out];exact⟨⟨_,_,_,_,HA.out.1⟩,H3.out.2.1.trans HA.out.2⟩⟩
end
noncomputable def eV (nm:ByteArray)(wd ln:Int)(ds:List S70)(bd:List S119)(x y:List Int):S3 × Int:=
 if(bO nm wd ln ds bd x y).1=ac then(lX (bO nm wd ln ds bd) (gO ds ds.length) wd ⟨fE wd x,fE wd y,(bO nm wd ln ds bd x y).2.1⟩,0)
 else(⟨[],[],0⟩,if(bO nm wd ln ds bd x y).2.2=0 then 1 else(bO nm wd ln ds bd x y).2.2)
theorem leak_pos {nm:ByteArray}{wd ln:Int}{ds:List S70}{bd:List S119}{x y:List Int}(h:(bO nm wd ln ds bd x y).1=ac):0<x.length:=by
 obtain⟨h1,h2,h3,_⟩:=rZ h
 rcases cm x.length with h0 | h0
 ·have ex:x=[]:=cf h0
  have ey:y=[]:=cf (by omega)
  subst ex ey
  unfold bO at h
  rw[lV (sY fun k i _=>rfl)]at h
  revert h
  split
  ·split
   ·split <;> exact fun h=>absurd h (by simp)
   ·exact fun h=>absurd h (by simp)
  ·exact fun h=>absurd h (by simp)
 ·exact h0
theorem oP {nm:ByteArray}{wd ln:Int}{ds:List S70}{bd:List S119}{x y:List Int}(h:(bO nm wd ln ds bd x y).1=ac)(ux:∀v∈x,U64 v)(uy:∀v∈y,U64 v):GS (bO nm wd ln ds bd) (gO ds ds.length).length ⟨fE wd x,fE wd y,(bO nm wd ln ds bd x y).2.1⟩:=by
 obtain⟨h1,h2,h3,_⟩:=rZ h
 exact⟨by rw[gI,h2],by rw[gI,h3],trimS_u64 wd ux,trimS_u64 wd uy,by rw[pO];exact h,by rw[pO]⟩
theorem fT {fn:Func}{t u v x:Tmp}(h:fn.results= #[.tmp t,.tmp u,.tmp v,.tmp x])(tmps:Array Value)(P:Program)(w:World):
 (results fn tmps).run P w=.ok (.tuple #[tmps.getD t undef,tmps.getD u undef,tmps.getD v undef,tmps.getD x undef]) w:=by
 simp[results,h]
def Out (W:World)(v:Value)(l:List Int):Prop:=∃A c,v=.slice A l.length c/\bT W A l
theorem Out.none (W:World):Out W (.slice ai 0 0) []:=⟨Option.none,0,rfl,fun k hk=>absurd hk (cw k)⟩
def kO (W:World)(g:Nat)(P:List Bool):Prop:=∃cells,W.heap[g]? =af (.cells cells 4 (0,0))/\∀k,k<P.length->cells[k]? =af (.bool (P.getD k J))
theorem openAt_R {W:World}{base g cap:Nat}{ok:Nat->Prop}{P:List Bool}(h:Kd.bool.R 4 W base ok (.slice (af ⟨g,0,ai⟩) P.length cap) P)(h0:0<P.length):kO W g P:=by
 obtain⟨g',cap',e,-,-,cells,hc⟩:=Kd.R_form h h0
 injection e with e _ _
 injection e with e
 injection e with e
 subst e
 refine⟨cells,hc,fun k hk=> ?_⟩
 obtain⟨A',c',e',-,hC⟩:=Kd.dC h
 injection e' with e'
 subst e'
 obtain⟨ad,ea,q⟩:=sD hC k hk
 injection ea with ea
 subst ea
 have e:(⟨g,0,ai⟩:Addr).add k=⟨g,k,ai⟩:=by simp[Addr.add];omega
 rw[e]at q
 rw[←q]
 exact(aA hc k).symm
theorem kO.kx {ab g:Nat}{P:List Bool}{W W':World}(h:kO W g P)(hk:Kx ab W W')(hne:g≠ab):kO W' g P:=by
 obtain⟨cells,hc,hv⟩:=h
 exact⟨cells,hk.blk _ _ _ _ hc (by decide) (by decide) hne,hv⟩
theorem kO.below {g:Nat}{P:List Bool}{W W':World}(h:kO W g P)(hb:Below W.heap.size W W'):kO W' g P:=by
 obtain⟨cells,hc,hv⟩:=h
 exact⟨cells,aB hc hb,hv⟩
theorem kO.cell {g:Nat}{P:List Bool}{W:World}(h:kO W g P){k:Nat}(hk:k<P.length):W.cell? ⟨g,k,ai⟩=af (.bool (P.getD k J)):=by
 obtain⟨cells,hc,hv⟩:=h
 exact(aA hc k).trans (hv k hk)
theorem kO.ne {g ab:Nat}{P:List Bool}{W:World}{cs:Array Value}(h:kO W g P)(ha:W.heap[ab]? =af (.cells cs 3 (0,0))):g≠ab:=by
 obtain⟨cells,hc,hv⟩:=h
 exact dJ hc ha (by decide)
end Go.Proofs.YtfigjpehecibeaaGreat.L
