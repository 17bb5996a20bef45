/- Texts joined by a program of mine: Na Rh Xb Sb Sc Sd Da Sj Db Dc De Xc Sh Dd. -/
import Derived.Test.YtfigjpehecibeaaGreatZh8
import Derived.Test.YtfigjpehecibeaaGreatZh9
import Derived.Test.YtfigjpehecibeaaGreatZh10
set_option maxRecDepth 100000
open And renaming intro -> aj
open Bool renaming true -> af, false -> ac
open Go.Act renaming put -> ay
open Go.Proofs.Tryz renaming prog -> au
open Go.Proofs.YtfigjpehecibeaaGreatW.PrintWords.Aside0 renaming mk -> aa
open Go.RowKit.Below renaming refl -> ar, alloc -> jc, drew -> ia, heap_setCell -> dn
open Go.Value renaming bool -> iu, int -> bh, ownBlock -> ee
open Go.World renaming setCell -> ji
open Int renaming toNat_natCast -> ax, eq_ofNat_of_zero_le -> ew
open List renaming length_replicate -> dx, replicate -> bg, append_nil -> ed, setIfInBounds_toArray -> ae, set_cons_zero -> ah, set_cons_succ -> ai, range -> bu, getElem?_eq_getElem -> az, getD_eq_getElem?_getD -> aw, getElem?_set -> jr, getElem?_eq_none -> dg, getElem_of_mem -> gr, map_toArray -> cd, map_cons -> cg, map_nil -> db, mem_range -> jg, getElem?_map -> jb
open Nat renaming le_refl -> aq, zero_le -> bk, min_eq_right -> iz, min_eq_left -> di, le_trans -> bi, le_succ -> jj, not_lt_zero -> da, mul_one -> ib, add_zero -> gm, mod_lt -> ij, mod_eq_of_lt -> fp, two_pow_pos -> df, mul_le_mul_right -> fq, lt_of_lt_of_le -> br
open Option renaming some -> ag, none -> ak, map_eq_some_iff -> iq
open Or renaming inl -> bc
set_option linter.unusedVariables false
set_option linter.unusedSimpArgs false
set_option maxHeartbeats 8000000
namespace Go.Proofs.YtfigjpehecibeaaGreat.L
open Go.RowKit Bm C Go.Maps Go.Proofs.YtfigjpehecibeaaGreatW.PrintWords Go.Proofs.YtfigjpehecibeaaGreatW.PrintLast Go.Proofs.YtfigjpehecibeaaGreatW.PrintMore Go.Proofs.YtfigjpehecibeaaGreat.Gr
section
set_option maxRecDepth 100000
theorem bool_lit (W:World)(b:Bool):Kd.bool.C (W.alloc (.cells #[.bool b] 4)) (ag ⟨W.heap.size,0,ak⟩) 1 [b]:=
 (Kd.qM (n:=1) (c:=1) (show Kd.bool.R 4 (W.alloc (.cells #[.bool b] 4)) W.heap.size (fun _=>True) (.slice (ag ⟨W.heap.size,0,ak⟩) 1 1) [b] from⟨fun _ _=>trivial,[.bool b],own_lit_of (enc:=iu) W W.heap.size 4 [b] (aq _) (by simp),gQ.one rfl (gQ.none _ _)⟩)).2.2
theorem mA {a b c:World}(h:Below a.heap.size a b)(k:Below b.heap.size b c):Below a.heap.size a c:=h.trans (k.mono h.size)
theorem lit_at {W V U:World}{b:Bool}(h:Below (W.alloc (.cells #[.bool b] 4)).heap.size (W.alloc (.cells #[.bool b] 4)) V)(k:Below V.heap.size V U):Kd.bool.C U (ag ⟨W.heap.size,0,ak⟩) 1 [b]:=Kd.aF (bool_lit W b) (mA h k)
theorem jL (nm:ByteArray)(wd ln:Int)(ds:List S70)(bd:List S119)(A3:Option Addr)(c3:Nat)(A4:Option Addr)(c4:Nat)(W:World)(hp:ProgAt W ds bd A3 c3 A4 c4)(hg:PGood nm wd ln ds bd):
 Calls au 17 #[.agg #[.string nm,.int .i64 wd,.int .i64 ln,.slice A3 ds.length c3,.slice A4 bd.length c4]] W fun e W'=>∃v,e=.returned (.tuple #[v,.int .i64 (dH nm wd ln ds bd).2])/\Kd.bool.R 4 W' W.heap.size (fun _=>True) v (dH nm wd ln ds bd).1/\Below W.heap.size W W':=by
 obtain⟨xb,hxb⟩:∃b,b=W.heap.size:=⟨_,rfl⟩;obtain⟨n,hn⟩:∃n,n=ds.length:=⟨_,rfl⟩;obtain⟨X,hX⟩:∃X,X=W.alloc (.cells #[.string nm,.int .i64 wd,.int .i64 ln,.slice A3 ds.length c3,.slice A4 bd.length c4] 25):=⟨_,rfl⟩
 have hXB:Below W.heap.size W X:=by rw[hX];exact(ar _ _).alloc (aq _) _
 have hbx:X.heap[xb]? =ag (.cells #[.string nm,.int .i64 wd,.int .i64 ln,.slice A3 ds.length c3,.slice A4 bd.length c4] 25 (0,0)):=by rw[hX,hxb];exact aW _ _
 obtain⟨r,hr⟩:∃r,r=bC nm wd ln ds bd:=⟨_,rfl⟩;have HCK:=aa (tG nm wd ln ds bd A3 c3 A4 c4 X (hp.below hXB) hg r hr)
 have hn1:n<=1048576:=by rw[hn];exact hg.sizes.1
 have hd:=hp.hd;rw[←hn]at HCK hbx hX hd ⊢;have HX:=aa (aj hXB (aj hbx (aj hd (aj hn (aj hr hxb)))));have HXE:=aa (aj hX hxb);have x0:X.cell? ⟨xb,0,ak⟩=ag (.string nm):=(aA hbx 0).trans rfl;have x1:X.cell? ⟨xb,1,ak⟩=ag (.int .i64 wd):=(aA hbx 1).trans rfl;have x2:X.cell? ⟨xb,2,ak⟩=ag (.int .i64 ln):=(aA hbx 2).trans rfl;have x3:X.cell? ⟨xb,3,ak⟩=ag (.slice A3 n c3):=(aA hbx 3).trans rfl;have x4:X.cell? ⟨xb,4,ak⟩=ag (.slice A4 bd.length c4):=(aA hbx 4).trans rfl;clear hp hg hX hxb hXB hbx hr hd hn;go_enter Tryz.func17,Tryz.ntmps17
 go_upto_region 1 with (fail)
 rw[←HXE.out.1,←HXE.out.2];go_wp2_with fail;refine HCK.out.mono ?_;rintro _ w1 ⟨rfl,hb1⟩;have H1:=aa hb1;clear x0 x1 x2 x3 x4 hb1
 by_cases he:r.e=0
 ·have HF:=aa (show(bC nm wd ln ds bd).e=0 from by rw[←HX.out.2.2.2.2.1];exact he);have he0:(r.e==0)=af:=beq_iff_eq.2 he;have x3:w1.cell? ⟨xb,3,ak⟩=ag (.slice A3 n c3):=(aA (aB HX.out.2.1 H1.out) 3).trans rfl;go_wp2_with fail;clear x3
  go_loopw [5,16] (fun o i W'=>∃(k:Nat) (vo:Value),vo=o/\i=.int .i64 k/\k<=n/\Aside0 (Below X.heap.size X W'/\Kd.bool.R 4 W' X.heap.size (fun _=>True) vo (fI ds k))) (fun _ i _=>n - (intOf i).toNat)
  case atStart=>exact⟨0,_,rfl,rfl,bk _,⟨H1.out,Kd.iG _ _ _ _ _⟩⟩
  case round=>
   obtain⟨k,vo,rfl,rfl,hk,HB⟩:=hrel
   by_cases hlt:k<n
   ·have hlt2:(k:Int)<(n:Int):=by omega
    have hw0:=HX.out.1.trans (HB.out.1.mono HX.out.1.size);obtain⟨ad,A9,c9,e1,q0,q1,q2,q3,l9,g9⟩:=eD HX.out.2.2.1 (k:Int) (by omega) (by omega);cases e1;rw[ax]at q0 q1 q2 q3
    have hkd:k<ds.length:=by rw[←HX.out.2.2.2.1];exact hlt
    have RD:=cJ HF.out k hkd;have PL:=fU (fun i hi=>cJ HF.out i hi) k (Nat.le_of_lt hkd);obtain⟨d,hd⟩:∃d,d=aI ds (k:Int):=⟨_,rfl⟩
    have PS:fI ds (k+1)=fI ds k++pubD d:=by rw[hd];rfl
    rw[←hd]at q0 q1 q2 q3 l9 g9 RD;have p0:=aE hw0 q0;have p1:=aE hw0 q1;have p2:=aE hw0 q2;have p3:=aE hw0 q3;obtain⟨wn,w2,w3⟩:=iI RD.2;obtain⟨nw,hnw⟩:=ew (show 0<=cT d by omega);obtain⟨Wi,hWi⟩:∃Wi,Wi=wr.alloc (.cells #[.int .i64 d.f0,.string d.f1,.int .i64 d.f2,.slice A9 d.f3.length c9] 70):=⟨_,rfl⟩;obtain⟨gb,hgb⟩:∃b,b=wr.heap.size:=⟨_,rfl⟩
    have hWB:Below wr.heap.size wr Wi:=by rw[hWi];exact(ar _ _).alloc (aq _) _
    have hbw:Wi.heap[gb]? =ag (.cells #[.int .i64 d.f0,.string d.f1,.int .i64 d.f2,.slice A9 d.f3.length c9] 70 (0,0)):=by rw[hWi,hgb];exact aW _ _
    have hXW:=HB.out.1.trans (hWB.mono HB.out.1.size);have HW:=aa (aj hXW (aj hbw (aj (Kd.bF HB.out.2 hWB) (aj g9 (aj l9 (aj hnw.symm (aj RD.2 (aj PS PL))))))));have hk0:=RD.1
    have hnw1:nw<=256:=by omega
    have PLK:=aa (show(fI ds k).length<=268435456 by omega);clear q0 q1 q2 q3 l9 g9 hd hkd RD PS PL wn w2 w3 hnw hWB hbw hXW hw0
    go_upto_region 8 with (fail)
    rw[←hgb];rw[←hWi];clear hWi hgb p0 p1 p2 p3;have HBW:=aa (show ∀g:G Wi,g.W.heap[gb]? =ag (.cells #[.int .i64 d.f0,.string d.f1,.int .i64 d.f2,.slice A9 d.f3.length c9] 70 (0,0)) from fun g=>aB HW.out.2.1 g.below);have b0:∀g:G Wi,g.W.cell? ⟨gb,0,ak⟩=ag (.int .i64 d.f0):=fun g=>(aA (HBW.out g) 0).trans rfl;have b1:∀g:G Wi,g.W.cell? ⟨gb,1,ak⟩=ag (.string d.f1):=fun g=>(aA (HBW.out g) 1).trans rfl;have b2:∀g:G Wi,g.W.cell? ⟨gb,2,ak⟩=ag (.int .i64 d.f2):=fun g=>(aA (HBW.out g) 2).trans rfl;have b3:∀g:G Wi,g.W.cell? ⟨gb,3,ak⟩=ag (.slice A9 d.f3.length c9):=fun g=>(aA (HBW.out g) 3).trans rfl;have HC9:=aa (show ∀W',Below Wi.heap.size Wi W'->(Kd.int .u64).C W' A9 d.f3.length d.f3 from fun W' h=>Kd.aF HW.out.2.2.2.1 (HX.out.1.trans ((HW.out.1.trans (h.mono HW.out.1.size)).mono HX.out.1.size)));refine aG ?_;intro gg;obtain⟨inb,hin⟩:∃b,b=decide (d.f0=1\/d.f0=2):=⟨_,rfl⟩;go_wp2_with fail;refine(aD (g:=gg) (input_v hin A9 c9 gg.W (HC9.out _ gg.below) HW.out.2.2.2.2.1)).mono ?_;rintro _ _ ⟨rfl,gg,rfl⟩
    by_cases hi1:d.f0=1\/d.f0=2
    ·have HI1:=aa hi1;rw[decide_eq_true hi1]at hin;subst hin;obtain⟨b,hbb⟩:∃b,(d.f0==1)=b:=⟨_,rfl⟩;have HBB:=aa hbb;clear hi1;have HNW:=aa (show 1<=nw/\nw<=256 from⟨by have:=(iI HW.out.2.2.2.2.2.2.1).2;have:=HW.out.2.2.2.2.2.1;omega,hnw1⟩);have HVO:=aa (show Kd.bool.R 4 gg.W X.heap.size (fun _=>True) vo (fI ds k)/\Below X.heap.size X gg.W from⟨Kd.bF HW.out.2.2.1 gg.below,HW.out.1.trans (gg.below.mono HW.out.1.size)⟩);have LEN:=aa (show((fI ds k).length+nw)*1<=140737488355328 by have:=PLK.out;omega);have HBX:=aa (HBW.out gg);have HC0:=aa (HC9.out _ gg.below);have CF:=aa (show ∀w':World,w'.heap[gb]? =ag (.cells #[.int .i64 d.f0,.string d.f1,.int .i64 d.f2,.slice A9 d.f3.length c9] 70 (0,0))->w'.cell? ⟨gb,0,ak⟩=ag (.int .i64 d.f0)/\w'.cell? ⟨gb,1,ak⟩=ag (.string d.f1)/\w'.cell? ⟨gb,2,ak⟩=ag (.int .i64 d.f2)/\w'.cell? ⟨gb,3,ak⟩=ag (.slice A9 d.f3.length c9) from fun w' h=>⟨(aA h 0).trans rfl,(aA h 1).trans rfl,(aA h 2).trans rfl,(aA h 3).trans rfl⟩);obtain⟨c0,c1,c2,c3⟩:=CF.out gg.W.drew HBX.out
     go_upto_region 9 with (fail)
     clear b0 b1 b2 b3
     go_region_held3 (fun w'=>w'.cell? ⟨gb,0,ak⟩=ag (.int .i64 d.f0)/\w'.cell? ⟨gb,1,ak⟩=ag (.string d.f1)/\w'.cell? ⟨gb,2,ak⟩=ag (.int .i64 d.f2)/\w'.cell? ⟨gb,3,ak⟩=ag (.slice A9 d.f3.length c9))
      (first | exact CF.out _ hx5 | exact CF.out _ hx4 | exact CF.out _ hx3 | exact CF.out _ HBX.out | exact CF.out _ (aB hx3 (by first | exact ar _ _ | exact jc (ar _ _) (aq _) _ | exact ia (ar _ _) | exact ia (jc (ar _ _) (aq _) _) | exact ia (jc (ia (ar _ _)) (aq _) _))) | exact CF.out _ (aB HBX.out (by first | exact ar _ _ | exact jc (ar _ _) (aq _) _ | exact ia (ar _ _) | exact ia (jc (ar _ _) (aq _) _) | exact ia (jc (ia (ar _ _)) (aq _) _))))
      (first | (go_at_call 63;refine(words_v HW.out.2.2.2.2.2.2.1 HW.out.2.2.2.2.2.1 A9 c9 _ (Kd.aF HC0.out (by first | exact ar _ _ | exact jc (ar _ _) (aq _) _ | exact ia (ar _ _) | exact ia (jc (ar _ _) (aq _) _) | exact ia (jc (ia (ar _ _)) (aq _) _))) HW.out.2.2.2.2.1).mono ?_;rintro _ w3 ⟨rfl,hb3⟩;have hB3:Below gg.W.heap.size gg.W w3:=mA (by first | exact ar _ _ | exact jc (ar _ _) (aq _) _ | exact ia (ar _ _) | exact ia (jc (ar _ _) (aq _) _) | exact ia (jc (ia (ar _ _)) (aq _) _)) hb3;have hx3:=aB HBX.out hB3;first | (have hl3:=lit_at (W:=gg.W) (b:=b) (ia (ar _ _)) hb3) | (have hl3:=lit_at (W:=gg.W) (b:=b) (ar _ _) hb3) | skip) | (go_at_call 62;(first | (refine(pE b nw HNW.out.1 HNW.out.2 (ag ⟨gg.W.heap.size,0,ak⟩) 1 w3 hl3 (by simp)).mono ?_) | (refine(pE b nw HNW.out.1 HNW.out.2 (ag ⟨w3.heap.size,0,ak⟩) 1 _ (lit_at (W:=w3) (b:=b) (by first | exact ar _ _ | exact jc (ar _ _) (aq _) _ | exact ia (ar _ _) | exact ia (jc (ar _ _) (aq _) _) | exact ia (jc (ia (ar _ _)) (aq _) _)) (ar _ _)) (by simp)).mono ?_));rintro _ w4 ⟨vr,rfl,hvr,hb4⟩;obtain⟨Ar,cr,hv,lr,hcr⟩:=Kd.cO hvr;subst hv;rw[dx]at lr hcr ⊢;have hB4:Below gg.W.heap.size gg.W w4:=mA hB3 (mA (by first | exact ar _ _ | exact jc (ar _ _) (aq _) _ | exact ia (ar _ _) | exact ia (jc (ar _ _) (aq _) _) | exact ia (jc (ia (ar _ _)) (aq _) _)) hb4);have hx4:=aB HBX.out hB4;clear hvr) | (refine Kd.dY Kd.bool (Rr:=Kd.bool.K w4) (w0:=X) X.heap.size (by rfl) (.tmp 22) (.tmp 29) 30 4 (.bool ac) 1 rfl rI info4 rfl (show 0<1 by decide) (by decide) vo (fI ds k) (bg nw b) Ar nw cr (fun _=>True) (fun _=>False) (by rfl) (by rfl) (Kd.bF HVO.out.1 hB4) hcr (fun _ _ h=>h) (fun _ h=>h.elim) (fun _ _=>trivial) (mA HVO.out.2 hB4) (mA HVO.out.2 hB4).size LEN.out ?_;intro v1 u1 hr1 hb1 hg1 hat1;have hx5:=fV hx4 hg1 (Kd.R_ne (Kd.bF HVO.out.1 hB4) hx4 (by decide))))
     all_goals(
      have HN:=aa (show Below X.heap.size X u1/\Kd.bool.R 4 u1 X.heap.size (fun _=>True) v1 (fI ds (k+1)) from⟨hb1,by rw[HW.out.2.2.2.2.2.2.2.1,pubD,if_pos HI1.out,←HW.out.2.2.2.2.2.1,ax,HBB.out];exact hr1⟩);clear hr1 hb1 hg1 hat1 hbb;go_wp2_with fail;go_roundw
      case measure=>simp[intOf];omega
      case rel=>exact⟨k+1,_,rfl,show _ =bh .i64 ((k+1:Nat):Int) from by go_num,by omega,HN⟩)
    ·have HN:=aa (show Below X.heap.size X gg.W/\Kd.bool.R 4 gg.W X.heap.size (fun _=>True) vo (fI ds (k+1)) from⟨HW.out.1.trans (gg.below.mono HW.out.1.size),by rw[HW.out.2.2.2.2.2.2.2.1,pubD,if_neg hi1,ed];exact Kd.bF HW.out.2.2.1 gg.below⟩);rw[decide_eq_false hi1]at hin;subst hin;clear hi1 b0 b1 b2 b3;go_wp2_with fail;go_roundw
     case measure=>simp[intOf];omega
     case rel=>exact⟨k+1,_,rfl,show _ =bh .i64 ((k+1:Nat):Int) from by go_num,by omega,HN⟩
   ·have hkn:k=n:=by omega
    have HKN:=aa hkn
    have hge:¬(k:Int)<(n:Int):=by omega
    clear hkn;go_wp2_with fail;go_ret2;have ha:=(dE nm wd ln ds bd).1 HF.out;refine⟨vo,?_,?_,HX.out.1.trans (HB.out.1.mono HX.out.1.size)⟩
    ·rw[ha];rfl
    ·rw[ha,←HX.out.2.2.2.1,←HKN.out];exact Kd.fK HB.out.2 HX.out.1.size
 ·have HF:=aa (show ¬(bC nm wd ln ds bd).e=0 from by rw[←HX.out.2.2.2.2.1];exact he);go_wp2_with fail;go_ret2;have ha:=(dE nm wd ln ds bd).2 HF.out;refine⟨.slice ak 0 0,?_,?_,HX.out.1.trans (H1.out.mono HX.out.1.size)⟩
  ·rw[ha,←HX.out.2.2.2.2.1];rfl
  ·rw[ha];exact Kd.iG _ _ _ _ _
section
attribute [local go_sem] G.cell
theorem length_calls (nm:ByteArray)(wd ln:Int)(ds:List S70)(bd:List S119)(A3:Option Addr)(c3:Nat)(A4:Option Addr)(c4:Nat)(W:World)(hp:ProgAt W ds bd A3 c3 A4 c4)(hg:PGood nm wd ln ds bd):
 Calls au 15 #[.agg #[.string nm,.int .i64 wd,.int .i64 ln,.slice A3 ds.length c3,.slice A4 bd.length c4]] W fun e W'=>e=.returned (.tuple #[.int .i64 ((dH nm wd ln ds bd).1.length:Int),.int .i64 (dH nm wd ln ds bd).2])/\Below W.heap.size W W':=by
 have gout:=@gA W;have HP:=aa (fun W' (h:Below W.heap.size W W')=>jL nm wd ln ds bd A3 c3 A4 c4 W' (hp.below h) hg);clear hp hg;go_enter Tryz.func15,Tryz.ntmps15
 go_upto_region 1 with (fail)
 refine aG ?_;intro gg;go_wp2_with fail;refine(HP.out gg.W (gout gg)).mono ?_;rintro _ w1 ⟨v,rfl,hR,hB⟩;obtain⟨Av,cv,hv⟩:=Kd.bN hR;subst hv;have HB:=aa ((gout gg).trans (hB.mono (gout gg).size));clear hR hB;go_wp2_with fail;go_ret2;exact⟨rfl,HB.out⟩
end
end
section
set_option maxRecDepth 100000
theorem min64 (ats:Array TypeId)(ty:TypeId)(m:Nat):Builtin.min_ ats ty #[.int .i64 (m:Int),.int .i64 64]=pure (.int .i64 ((min m 64:Nat):Int)):=by
 rw[j4,gV]
 by_cases h:(64:Int)<(m:Int)
 ·rw[if_pos h,iz (by omega)];rfl
 ·rw[if_neg h,di (by omega)];rfl
attribute [local go_sem high] min64
theorem k101_new {w:World}{base:Nat}{v:Value}(h:w.ownsRow base 101 3 v 0 []):lE.R 101 w base (fun _=>True) v []:=⟨fun _ _=>trivial,[],h,gQ.none _ _⟩
theorem info101':∃i,Tryz.prog.info? 101=ag i/\i.zero=ag (.agg #[.int .i64 0,.int .u64 0,.int .u64 0])/\i.size=3/\i.bytes=24:=by
 obtain⟨i,hi,hz⟩:=iq.1 info101;simp only[Prod.mk.injEq]at hz;exact⟨i,hi,hz⟩
theorem sizeTop_calls (nm:ByteArray)(wd ln:Int)(ds:List S70)(bd:List S119)(A3:Option Addr)(c3:Nat)(A4:Option Addr)(c4:Nat)(w:World)(hp:ProgAt w ds bd A3 c3 A4 c4)(hg:PGood nm wd ln ds bd)(r:Int × Int)(hr:r=sizeS 1099511627776 nm wd ln ds bd):
 Calls au 65 #[.agg #[.string nm,.int .i64 wd,.int .i64 ln,.slice A3 ds.length c3,.slice A4 bd.length c4]] w fun e w'=>e=.returned (.tuple #[.int .i64 r.1,.int .i64 r.2])/\Below w.heap.size w w':=size_calls nm wd ln ds bd A3 c3 A4 c4 w hp hg r hr
theorem oI (nm:ByteArray)(wd ln:Int)(ds:List S70)(bd:List S119)(A3:Option Addr)(c3:Nat)(A4:Option Addr)(c4:Nat)(W:World)(hp:ProgAt W ds bd A3 c3 A4 c4)(hg:PGood nm wd ln ds bd)(inp:List Int)(A:Option Addr)(cI:Nat)(hI:bX W A inp)(hu:∀v∈inp,U64 v)(hcI:inp.length<=cI):
 Calls au 23 #[.agg #[.string nm,.int .i64 wd,.int .i64 ln,.slice A3 ds.length c3,.slice A4 bd.length c4],.slice A inp.length cI] W fun e W'=>∃vS vT,e=.returned (.tuple #[.agg #[vS,vT],.int .i64 (cN nm wd ln ds bd inp).1])/\EndAt W' vS vT (cN nm wd ln ds bd inp).2.1 (cN nm wd ln ds bd inp).2.2/\TrR W' vT (cN nm wd ln ds bd inp).2.2/\Below W.heap.size W W':=by
 obtain⟨X,hX⟩:∃X,X=(W.alloc (.cells #[.string nm,.int .i64 wd,.int .i64 ln,.slice A3 ds.length c3,.slice A4 bd.length c4] 25)).alloc (.cells #[.slice ak 0 0,.slice ak 0 0] 40):=⟨_,rfl⟩;have hX1:Below W.heap.size W (W.alloc (.cells #[.string nm,.int .i64 wd,.int .i64 ln,.slice A3 ds.length c3,.slice A4 bd.length c4] 25)):=(ar _ _).alloc (aq _) _
 have hXB:Below W.heap.size W X:=by rw[hX];exact hX1.alloc (by simp) _
 have hbx:X.heap[W.heap.size]? =ag (.cells #[.string nm,.int .i64 wd,.int .i64 ln,.slice A3 ds.length c3,.slice A4 bd.length c4] 25 (0,0)):=by
  rw[hX];exact aB (aW _ _) ((ar _ _).alloc (aq _) _)
 have hbr:X.heap[W.heap.size+1]? =ag (.cells #[.slice ak 0 0,.slice ak 0 0] 40 (0,0)):=by
  rw[hX];have:=aW (W.alloc (.cells #[.string nm,.int .i64 wd,.int .i64 ln,.slice A3 ds.length c3,.slice A4 bd.length c4] 25)) (.cells #[.slice ak 0 0,.slice ak 0 0] 40)
  simpa using this
 obtain⟨⟨l,er⟩,hle⟩:∃r,r=dH nm wd ln ds bd:=⟨_,rfl⟩
 have HL2:=aa (show Calls au 15 #[.agg #[.string nm,.int .i64 wd,.int .i64 ln,.slice A3 ds.length c3,.slice A4 bd.length c4]] X fun e W'=>e=.returned (.tuple #[.int .i64 (l.length:Int),.int .i64 er])/\Below X.heap.size X W' from by
  have h:=length_calls nm wd ln ds bd A3 c3 A4 c4 X (hp.below hXB) hg
  rw[←hle]at h;exact h)
 have HX:=aa (aj hXB (aj hbx (aj hbr (hp.below hXB))));have HI:=aa (aj hI (aj hu (aj hcI hp)));have HG:=aa hg;have HLE:=aa hle;have x0:X.cell? ⟨W.heap.size,0,ak⟩=ag (.string nm):=(aA hbx 0).trans rfl;have x1:X.cell? ⟨W.heap.size,1,ak⟩=ag (.int .i64 wd):=(aA hbx 1).trans rfl;have x2:X.cell? ⟨W.heap.size,2,ak⟩=ag (.int .i64 ln):=(aA hbx 2).trans rfl;have x3:X.cell? ⟨W.heap.size,3,ak⟩=ag (.slice A3 ds.length c3):=(aA hbx 3).trans rfl;have x4:X.cell? ⟨W.heap.size,4,ak⟩=ag (.slice A4 bd.length c4):=(aA hbx 4).trans rfl;clear hp hg hI hu hcI hXB hX1 hbx hbr hle;go_enter Tryz.func23,Tryz.ntmps23
 go_upto_region 1 with (fail)
 rw[←hX];clear hX;go_wp2_with fail;refine HL2.out.mono ?_;rintro _ w1 ⟨rfl,hb1⟩;have H1:=aa hb1
 by_cases he:er=0
 ·by_cases hn:inp.length=l.length
  ·have HE:=aa (show(bC nm wd ln ds bd).e=0/\l=fI ds ds.length from by
    have h:=HLE.out;unfold dH at h
    by_cases h0:(bC nm wd ln ds bd).e=0
    ·rw[if_pos h0]at h;injection h with h _;exact⟨h0,h⟩
    ·rw[if_neg h0]at h;injection h with _ h
     exact absurd (h.symm.trans he) h0)
   subst he;rw[hn];have HN:=aa hn;clear x0 x1 x2 x3 x4 hb1 hn;have hx1:=aB HX.out.2.1 H1.out;have x0:w1.cell? ⟨W.heap.size,0,ak⟩=ag (.string nm):=(aA hx1 0).trans rfl;have x1:w1.cell? ⟨W.heap.size,1,ak⟩=ag (.int .i64 wd):=(aA hx1 1).trans rfl;have x2:w1.cell? ⟨W.heap.size,2,ak⟩=ag (.int .i64 ln):=(aA hx1 2).trans rfl;have x3:w1.cell? ⟨W.heap.size,3,ak⟩=ag (.slice A3 ds.length c3):=(aA hx1 3).trans rfl;have x4:w1.cell? ⟨W.heap.size,4,ak⟩=ag (.slice A4 bd.length c4):=(aA hx1 4).trans rfl;go_wp2_with fail;have SZ:=aa (size_right HE.out.1);refine(sizeTop_calls nm wd ln ds bd A3 c3 A4 c4 w1 (HX.out.2.2.2.below H1.out) HG.out _ SZ.out).mono ?_;rintro _ w2 ⟨rfl,hb2⟩;have H2:=aa (H1.out.trans (hb2.mono H1.out.size));have HSZ:=aa (size_le HE.out.1);obtain⟨most,hmost⟩:∃m:Nat,m=bS bd:=⟨_,rfl⟩;rw[←hmost];have HMO:=aa hmost
   have hm1:(most:Int)<=65536:=by have:=HSZ.out;omega
   clear hmost;obtain⟨eb,heb⟩:∃b,b=w2.heap.size:=⟨_,rfl⟩;obtain⟨w3,hw3⟩:∃w,w=w2.alloc (.cells #[.slice ak 0 0,.int .i64 (most:Int)] 84):=⟨_,rfl⟩;have H3:=aa (show Below w2.heap.size w2 w3/\w3.heap[eb]? =ag (.cells #[.slice ak 0 0,.int .i64 (most:Int)] 84 (0,0))/\eb=w2.heap.size/\eb<w3.heap.size from⟨by rw[hw3];exact(ar _ _).alloc (aq _) _,by rw[hw3,heb];exact aW _ _,heb,by rw[hw3,heb];simp⟩);clear x0 x1 x2 x3 x4 hx1 hb2
   go_upto_region 8 with (fail)
   rw[←heb];rw[←hw3];clear heb hw3
   have hm0:(0:Int)<=(most:Int):=by omega
   have e1:w3.cell? ⟨eb,1,ak⟩=ag (.int .i64 (most:Int)):=(aA H3.out.2.1 1).trans rfl;obtain⟨ii,hi1,hi2,hi3,hi4⟩:=info101';have HII:=aa (aj hi1 (aj hi2 (aj hi3 hi4)));clear hi1 hi2 hi3 hi4;have HBA:=aa (show W.heap.size<=w3.heap.size from bi (bi HX.out.1.size H2.out.size) H3.out.1.size)
   go_wp2_with (at_make;refine wpList_make_own w3 rfl (.const (.int .i64 0)) (.tmp 42) 38 rfl W.heap.size 101 ii (.agg #[.int .i64 0,.int .u64 0,.int .u64 0]) 3 under38 HII.out.1 HII.out.2.1 HII.out.2.2.1 .i64 .i64 _ (min most 64) rfl rfl rfl (by rw[HII.out.2.2.2];omega) (by unfold maxLen;omega) HBA.out ?_)
   intro w4 ho4 hg4;have H4:=aa (aj (k101_new ho4) hg4);clear ho4 hg4;have he0:w4.cell? ⟨eb,0,ak⟩=ag (.slice ak 0 0):=(aA (fV H3.out.2.1 H4.out.2 (by simp)) 0).trans rfl;have he1:w4.frozen? ⟨eb,0,ak⟩=ac:=aH (fV H3.out.2.1 H4.out.2 (by simp)) 0
   go_upto_region 9 with (fail)
   obtain⟨w5,hw5⟩:∃w,w=w4.setCell ⟨eb,0,ak⟩ (.slice (ag ⟨w3.heap.size,0,ak⟩) 0 (min most 64)):=⟨_,rfl⟩;have hb4:=fV H3.out.2.1 H4.out.2 (by simp)
   have hk5:Kt [84] ak X w5:=by
    rw[hw5];exact(((Kt.of_below H2.out [84] ak).trans (Kt.of_below H3.out.1 [84] ak)).grown H4.out.2 (fun k e=>by cases e)).set hb4 (by simp) 0 _
   have hB5:Below W.heap.size W w5:=by
    rw[hw5];have h1:=HX.out.1.trans (H2.out.mono HX.out.1.size);have h2:=h1.trans (H3.out.1.mono h1.size);exact(h2.grown H4.out.2 h2.size (fun k e=>by cases e)).setCell (p:=⟨eb,0,ak⟩) (by show W.heap.size<=eb;rw[H3.out.2.2.1];exact h1.size) _
   have hE5:∃vt,w5.heap[eb]? =ag (.cells #[vt,.int .i64 (most:Int)] 84 (0,0))/\lE.R 101 w5 W.heap.size (fun _=>True) vt []:=by
    rw[hw5];exact⟨_,by simpa using bU hb4 0 (.slice (ag ⟨w3.heap.size,0,ak⟩) 0 (min most 64)),Kd.R_set H4.out.1 hb4 (fun q hq=>by rw[E101 hq];decide) 0 _⟩
   have hx5:=hk5.blk _ _ _ _ HX.out.2.1 (by simp);have HST:=aa (start_calls nm wd ln ds bd A3 c3 A4 c4 W w5 eb most HI.out.2.2.2 HG.out HE.out.1 inp A cI HI.out.1 HI.out.2.2.1 HI.out.2.1 (by rw[HN.out,HE.out.2]) hB5 (by rw[H3.out.2.2.1];exact bi HX.out.1.size H2.out.size) hE5);rw[HN.out]at HST;have H5:=aa (aj hk5 hB5);rw[←hw5];clear he0 he1 hw5 hb4 hk5 hB5 hE5 e1;have x0:w5.cell? ⟨W.heap.size,0,ak⟩=ag (.string nm):=(aA hx5 0).trans rfl;have x1:w5.cell? ⟨W.heap.size,1,ak⟩=ag (.int .i64 wd):=(aA hx5 1).trans rfl;have x2:w5.cell? ⟨W.heap.size,2,ak⟩=ag (.int .i64 ln):=(aA hx5 2).trans rfl;have x3:w5.cell? ⟨W.heap.size,3,ak⟩=ag (.slice A3 ds.length c3):=(aA hx5 3).trans rfl;have x4:w5.cell? ⟨W.heap.size,4,ak⟩=ag (.slice A4 bd.length c4):=(aA hx5 4).trans rfl;clear hx5;go_wp2_with fail;refine HST.out.mono ?_;rintro _ w6 ⟨mb,ab,lb,rfl,hM6,hk6⟩;obtain⟨c,hc⟩:∃c:Cfg,c=⟨W,nm,wd,ln,ds,bd,A3,c3,A4,c4,mb,eb,ab,lb,most⟩:=⟨_,rfl⟩;rw[←hc]at hM6;have HC:=aa hc;have hX6:=hk6.blk _ _ _ _ (H5.out.1.blk _ _ _ _ HX.out.2.1 (by simp)) (by simp);have hR6:=hk6.blk _ _ _ _ (H5.out.1.blk _ _ _ _ HX.out.2.2.1 (by simp)) (by simp)
   have hmb2:c.mb=mb:=by rw[hc]
   have hS:=cZ HE.out.1;have HBD:=aa (show BodyM c bd from body_calls c (by rw[hc];exact hS) _ bd (aq _));have hRK:=rok_right (wd:=wd) HG.out HE.out.1 HI.out.2.1;have hTK:=tok_right HG.out HE.out.1;have HCB:=aa (show dN.C c.w0 A4 bd.length bd/\bd.length<=c4/\ROK c.ds (gF wd ds inp ds.length)/\(∀x∈bd,TOK c.ds [] x)/\c.eb=eb/\c.w0=W/\ds.length<=256 from by rw[hc];exact⟨HI.out.2.2.2.hb,HI.out.2.2.2.hlb,hRK,hTK,rfl,rfl,hS.few⟩);have H6:=aa (aj hM6 (aj hX6 hR6));have x4':w6.cell? ⟨W.heap.size,4,ak⟩=ag (.slice A4 bd.length c4):=(aA hX6 4).trans rfl;rw[←hmb2];clear x0 x1 x2 x3 x4 hk6 hM6 hX6 hR6 hRK hTK hS hmb2 hc;go_wp2_with fail;refine(HBD.out w6 _ [] [] A4 c4 H6.out.1 HCB.out.2.2.1 (fun p hp=>absurd hp List.not_mem_nil) HCB.out.2.2.2.1 (by rw[List.length_nil];have:=HSZ.out;omega) HCB.out.1 HCB.out.2.1).mono ?_;rintro _ w7 ⟨rfl,hM7,hk7,hr7⟩;have HEN:=aa (show eO c.wd c.ln c.ds bd [] (gF wd ds inp ds.length,[])=endOf wd ln ds bd inp from by rw[HC.out];rfl);rw[HEN.out]at hM7 hr7;obtain⟨E,hE⟩:∃E,E=endOf wd ln ds bd inp:=⟨_,rfl⟩;rw[←hE]at hM7 hr7;obtain⟨vt,heb7,hT7⟩:=hM7.he;obtain⟨At,ct,hvt⟩:=Kd.bN hT7;subst hvt;obtain⟨vr,hmb7,ts,hrt⟩:=hM7.hm;obtain⟨Ar,cr,hvr,hsl⟩:=hrt.slot;subst hvr
   have hlen:E.1.length=ds.length:=by have:=hr7.len;rw[HC.out]at this;exact this
   rw[HCB.out.2.2.2.2.1]at heb7;have hx7:=hk7.blk _ _ _ _ H6.out.2.1 (by simp);have hr70:=hk7.blk _ _ _ _ H6.out.2.2 (by simp)
   have hlow:Below W.heap.size W w7:=by have:=hM7.low;rwa [HCB.out.2.2.2.2.2.1]at this
   have t0:w7.cell? ⟨eb,0,ak⟩=ag (.slice At E.2.length ct):=(aA heb7 0).trans rfl;obtain⟨n,hn⟩:∃n,n=ds.length:=⟨_,rfl⟩;obtain⟨ob,hob⟩:∃b,b=w7.heap.size:=⟨_,rfl⟩;obtain⟨w8,hw8⟩:∃w,w=w7.alloc (.cells #[.slice ak 0 0,.slice At E.2.length ct] 40):=⟨_,rfl⟩
   have hb8:Below w7.heap.size w7 w8:=by rw[hw8];exact(ar _ _).alloc (aq _) _
   have ho8:w8.heap[ob]? =ag (.cells #[.slice ak 0 0,.slice At E.2.length ct] 40 (0,0)):=by rw[hw8,hob];exact aW _ _
   have HD3:=HI.out.2.2.2.hd;rw[hlen]at hsl hmb7 hrt;rw[←hn]at hsl hmb7 hrt hx7 HD3;have H7:=aa (aj hx7 (aj hr70 (aj hmb7 (aj hrt (aj hsl (aj hT7 (aj hlow (aj hlen (aj hn (aj hE HD3))))))))));have H8:=aa (aj hb8 (aj ho8 hob))
   have hn256:n<=256:=by rw[hn];exact HCB.out.2.2.2.2.2.2
   have hx8:w8.cell? ⟨W.heap.size,3,ak⟩=ag (.slice A3 n c3):=(aA (aB hx7 hb8) 3).trans rfl;clear x4' hM7 hk7 hr7 heb7 hT7 hmb7 hrt hsl hlen hx7 hr70 hlow hn hE HD3 hb8 ho8
   go_upto_region 12 with (fail)
   rw[←hob];rw[←hw8];clear hob hw8 t0;go_wp2_with fail;clear hx8
   go_loopw [65] (fun i W'=>∃(k:Nat) (vo:Value),i=.int .i64 k/\k<=n/\Aside0 (Below w7.heap.size w7 W'/\kSl.R 36 W' w7.heap.size (fun _=>True) vo (dA ds ts k)/\W'.heap[ob]? =ag (.cells #[vo,.slice At E.2.length ct] 40 (0,0)))) (fun i _=>n - (intOf i).toNat)
   case atStart=>exact⟨0,_,rfl,bk _,⟨H8.out.1,Kd.iG _ _ _ _ _,H8.out.2.1⟩⟩
   case round=>
    obtain⟨k,vo,rfl,hk,HK⟩:=hrel
    by_cases hlt:k<n
    ·have hlt2:(k:Int)<(n:Int):=by omega
     have hw0:Below W.heap.size W wr:=H7.out.2.2.2.2.2.2.1.trans (HK.out.1.mono H7.out.2.2.2.2.2.2.1.size);obtain⟨ad,A9,c9,e1,q0,q1,q2,q3,l9,g9⟩:=eD H7.out.2.2.2.2.2.2.2.2.2.2 (k:Int) (by omega) (by omega);cases e1;rw[ax]at q0 q1 q2 q3;obtain⟨d,hd⟩:∃d,d=aI ds (k:Int):=⟨_,rfl⟩;have TS:=toldT_succ ds ts k;rw[←hd]at q0 q1 q2 q3 TS;have p0:=aE hw0 q0;have p1:=aE hw0 q1;have p2:=aE hw0 q2;have p3:=aE hw0 q3;obtain⟨gb,hgb⟩:∃b,b=wr.heap.size:=⟨_,rfl⟩;obtain⟨Wi,hWi⟩:∃Wi,Wi=wr.alloc (.cells #[.int .i64 d.f0,.string d.f1,.int .i64 d.f2,.slice A9 d.f3.length c9] 70):=⟨_,rfl⟩
     have hWB:Below wr.heap.size wr Wi:=by rw[hWi];exact(ar _ _).alloc (aq _) _
     have hbw:Wi.heap[gb]? =ag (.cells #[.int .i64 d.f0,.string d.f1,.int .i64 d.f2,.slice A9 d.f3.length c9] 70 (0,0)):=by rw[hWi,hgb];exact aW _ _
     have d0:Wi.cell? ⟨gb,0,ak⟩=ag (.int .i64 d.f0):=(aA hbw 0).trans rfl;have HW:=aa (aj (HK.out.1.trans (hWB.mono HK.out.1.size)) (aj hWB TS));clear q0 q1 q2 q3 l9 g9 hd TS hw0 hbw hWB
     go_upto_region 15 with (fail)
     rw[←hgb];rw[←hWi];clear hWi hgb p0 p1 p2 p3
     by_cases h3:d.f0=3
     ·have HN2:=aa (show Below w7.heap.size w7 Wi/\kSl.R 36 Wi w7.heap.size (fun _=>True) vo (dA ds ts (k+1))/\Wi.heap[ob]? =ag (.cells #[vo,.slice At E.2.length ct] 40 (0,0)) from⟨HW.out.1,by rw[HW.out.2.2,if_pos h3];exact Kd.bF HK.out.2.1 HW.out.2.1,aB HK.out.2.2 HW.out.2.1⟩);have k3:(d.f0==3)=af:=beq_iff_eq.2 h3
      have k4:(d.f0 != 3)=ac:=by rw[bne,k3];rfl
      clear h3;go_wp2_with fail;go_roundw
      case measure=>simp[intOf];omega
      case rel=>exact⟨k+1,_,show _ =bh .i64 ((k+1:Nat):Int) from by go_num,by omega,HN2⟩
     ·obtain⟨ad2,eA,qs⟩:=H7.out.2.2.2.2.1 k hlt;subst eA;obtain⟨⟨t1,t2,t3⟩,ht⟩:∃t,t=ts.getD k zSl:=⟨_,rfl⟩;rw[←ht]at qs;replace qs:w7.cell? (ad2.add k)=ag (.slice (ag ⟨t1,0,ak⟩) t2 t3):=qs;have HT:=aa (show dA ds ts (k+1)=dA ds ts k++[(t1,t2,t3)] from by rw[HW.out.2.2,if_neg h3,ht]);have TL:=aa (show((dA ds ts k).length+1)*24<=140737488355328 by have:=toldIx_len ds k;simp[dA];omega);have HD:=aa (show ∀g:G Wi,Below w7.heap.size w7 g.W/\kSl.R 36 g.W w7.heap.size (fun _=>True) vo (dA ds ts k)/\g.W.heap[ob]? =ag (.cells #[vo,.slice At E.2.length ct] 40 (0,0)) from fun g=>⟨HW.out.1.trans (g.below.mono HW.out.1.size),Kd.bF (Kd.bF HK.out.2.1 HW.out.2.1) g.below,aB (aB HK.out.2.2 HW.out.2.1) g.below⟩);have m6:∀g:G Wi,g.W.cell? ⟨c.mb,6,ak⟩=ag (.slice (ag ad2) n cr):=fun g=>(aA (aB H7.out.2.2.1 (HD.out g).1) 6).trans rfl;have o0:∀g:G Wi,g.W.cell? ⟨ob,0,ak⟩=ag vo:=fun g=>(aA (HD.out g).2.2 0).trans rfl;have rk:∀g:G Wi,g.W.cell? (ad2.add k)=ag (.slice (ag ⟨t1,0,ak⟩) t2 t3):=fun g=>aE (HD.out g).1 qs;clear ht qs
      go_upto_region 16 with (fail)
      clear d0;refine aG ?_;intro gg;refine eP (n:=13) (S:=fun w'=>∃g':G _,w'=g'.W) (ds:=[10,12]) #[ac,ac,ac,ac,ac,ac,ac,ac,ac,ac,ac,ac,ac] (by kernel_rfl) rfl rfl ⟨mkG (gg.2.drew),rfl⟩ (fun hHeld=> ?_);obtain⟨gd,hgd⟩:=hHeld;rw[hgd];clear hgd;refine aP (i:=0) (N:=ag 73) (v:= ?_) (a':= ?_) #[af,ac,ac,ac,ac,ac,ac,ac,ac,ac,ac,ac,ac] rfl rfl (by kernel_rfl) (fun _ _ _ h=>h) (bc ⟨by rfl,?_⟩) ?_ ?_;rotate_left
      ·intro w';go_simp;with_reducible rfl
      rotate_left
      ·simp only[ay,ae,ah,ai,aJ,aK];rfl
      refine cY (i:=1) (N:=ag 74) (v:= ?_) (a':= ?_) #[af,af,ac,ac,ac,ac,ac,ac,ac,ac,ac,ac,ac] rfl rfl (by kernel_rfl) (fun _ _ _ h=>h) (bc ⟨by rfl,?_⟩) ⟨gd,rfl⟩ ?_ ?_;rotate_left
      ·rintro w' ⟨g',rfl⟩;go_simp;with_reducible rfl
      rotate_left
      ·simp only[ay,ae,ah,ai,aJ,aK];rfl
      refine aP (i:=2) (N:=ag 75) (v:= ?_) (a':= ?_) #[af,af,af,ac,ac,ac,ac,ac,ac,ac,ac,ac,ac] rfl rfl (by kernel_rfl) (fun _ _ _ h=>h) (bc ⟨by rfl,?_⟩) ?_ ?_;rotate_left
      ·intro w';go_simp;with_reducible rfl
      rotate_left
      ·simp only[ay,ae,ah,ai,aJ,aK];rfl
      refine aP (i:=3) (N:=ag 76) (v:= ?_) (a':= ?_) #[af,af,af,af,ac,ac,ac,ac,ac,ac,ac,ac,ac] rfl rfl (by kernel_rfl) (fun _ _ _ h=>h) (bc ⟨by rfl,?_⟩) ?_ ?_;rotate_left
      ·intro w';go_simp;with_reducible rfl
      rotate_left
      ·simp only[ay,ae,ah,ai,aJ,aK];rfl
      refine aP (i:=4) (N:=ag 77) (v:= ?_) (a':= ?_) #[af,af,af,af,af,ac,ac,ac,ac,ac,ac,ac,ac] rfl rfl (by kernel_rfl) (fun _ _ _ h=>h) (bc ⟨by rfl,?_⟩) ?_ ?_;rotate_left
      ·intro w';go_simp;with_reducible rfl
      rotate_left
      ·simp only[ay,ae,ah,ai,aJ,aK];rfl
      refine cY (i:=5) (N:=ag 78) (v:= ?_) (a':= ?_) #[af,af,af,af,af,af,ac,ac,ac,ac,ac,ac,ac] rfl rfl (by kernel_rfl) (fun _ _ _ h=>h) (bc ⟨by rfl,?_⟩) ⟨gd,rfl⟩ ?_ ?_;rotate_left
      ·rintro w' ⟨g',rfl⟩;go_simp;with_reducible rfl
      rotate_left
      ·simp only[ay,ae,ah,ai,aJ,aK];rfl
      refine aP (i:=6) (N:=ag 79) (v:= ?_) (a':= ?_) #[af,af,af,af,af,af,af,ac,ac,ac,ac,ac,ac] rfl rfl (by kernel_rfl) (fun _ _ _ h=>h) (bc ⟨by rfl,?_⟩) ?_ ?_;rotate_left
      ·intro w';go_simp;with_reducible rfl
      rotate_left
      ·simp only[ay,ae,ah,ai,aJ,aK];rfl
      refine aP (i:=7) (N:=ag 80) (v:= ?_) (a':= ?_) #[af,af,af,af,af,af,af,af,ac,ac,ac,ac,ac] rfl rfl (by kernel_rfl) (fun _ _ _ h=>h) (bc ⟨by rfl,?_⟩) ?_ ?_;rotate_left
      ·intro w';go_simp;with_reducible rfl
      rotate_left
      ·simp only[ay,ae,ah,ai,aJ,aK];rfl
      refine cY (i:=8) (N:=ag 81) (v:= ?_) (a':= ?_) #[af,af,af,af,af,af,af,af,af,ac,ac,ac,ac] rfl rfl (by kernel_rfl) (fun _ _ _ h=>h) (bc ⟨by rfl,?_⟩) ⟨gd,rfl⟩ ?_ ?_;rotate_left
      ·rintro w' ⟨g',rfl⟩;go_simp;with_reducible rfl
      rotate_left
      ·simp only[ay,ae,ah,ai,aJ,aK];rfl
      refine kH (i:=9) (N:=ag 82) #[af,af,af,af,af,af,af,af,af,af,ac,ac,ac] rfl rfl (by kernel_rfl) (by simp) (fun Kr hKr=> ?_);refine eC (v:=.slice (ag ⟨gd.W.heap.size,0,ak⟩) 1 1) (w1:=gd.W.alloc (.cells #[.slice (ag ⟨t1,0,ak⟩) t2 t3] 36)) (by rfl) (by first | (go_simp;done) | (go_simp;rfl)) ?_;refine hKr.out _ _ ⟨mkG (G.ball gd _),rfl⟩ (fun _=> ?_);clear hKr Kr;refine cW (a':= ?_) ?_ ?_;rotate_left
      ·show ay _ (ag 82) _ = _
       simp only[ay,ae,ah,ai,aJ,aK];rfl
      refine o4 (i:=10) (N:=ag 83) #[af,af,af,af,af,af,af,af,af,af,af,ac,ac] rfl rfl (by kernel_rfl) (by simp) (fun Kr hKr=> ?_);refine Kd.iJ kSl (w0:=w7) w7.heap.size (by rfl) (.tmp 74) (.tmp 82) 37 36 (.slice ak 0 0) 24 rfl oY info36 rfl (show 0<1 by decide) (by decide) vo (dA ds ts k) (t1,t2,t3) [.slice (ag ⟨t1,0,ak⟩) t2 t3] (fun _=>True) (fun _=>False) (by rfl) (by rfl) rfl (fun _ h=>h.elim) (fun _ _=>trivial) (HD.out gd).2.1 (HD.out gd).1 (HD.out gd).1.size TL.out ?_;intro v1 u1 hr1 hb1 hg1 hat1;have hob1:=fV (HD.out gd).2.2 hg1 (Kd.R_ne (HD.out gd).2.1 (HD.out gd).2.2 (by decide));have y0:=aA hob1 0;have y1:=aH hob1 0;obtain⟨A1,k1,hv1⟩:=Kd.bN hr1;subst hv1;have HE1:=aa (aj hr1 (aj hb1 hob1));clear hr1 hb1 hg1 hat1 hob1;refine hKr.out _ _ ?_;clear hKr Kr;refine cW (a':= ?_) ?_ ?_;rotate_left
      ·show ay _ (ag 83) _ = _
       simp only[ay,ae,ah,ai,aJ,aK];rfl
      refine aP (i:=11) (N:=ag 84) (v:= ?_) (a':= ?_) #[af,af,af,af,af,af,af,af,af,af,af,af,ac] rfl rfl (by kernel_rfl) (fun _ _ _ h=>h) (bc ⟨by rfl,?_⟩) ?_ ?_;rotate_left
      ·intro w';go_simp;with_reducible rfl
      rotate_left
      ·simp only[ay,ae,ah,ai,aJ,aK];rfl
      refine o4 (i:=12) (N:=ak) #[af,af,af,af,af,af,af,af,af,af,af,af,af] rfl rfl (by kernel_rfl) (by simp) (fun Kr hKr=> ?_);refine skip_ (w1:=u1.setCell ⟨ob,0,ak⟩ (.slice A1 (dA ds ts k++[(t1,t2,t3)]).length k1)) (by rfl) rfl (by first | (go_simp;done) | (go_simp;rfl)) ?_;refine hKr.out _ _ ?_;clear hKr Kr;refine iF (by kernel_rfl) ?_
      have hle:w7.heap.size<=ob:=by rw[H8.out.2.2];exact aq _
      have hrs:=Kd.R_set HE1.out.1 HE1.out.2.2 (fun q hq=>by
       have:q=36:=by simpa[kSl,Kd.scalar]using hq
       rw[this];decide) 0 (.slice A1 (dA ds ts k++[(t1,t2,t3)]).length k1)
      rw[←HT.out]at hrs;have hbs:=bU HE1.out.2.2 0 (.slice A1 (dA ds ts k++[(t1,t2,t3)]).length k1);rw[←HT.out]at hbs;have hbl:=HE1.out.2.1.setCell (p:=⟨ob,0,ak⟩) hle (.slice A1 (dA ds ts k++[(t1,t2,t3)]).length k1);rw[←HT.out]at hbl;have HN2:=aa (show Below w7.heap.size w7 (u1.setCell ⟨ob,0,ak⟩ (.slice A1 (dA ds ts (k+1)).length k1))/\kSl.R 36 (u1.setCell ⟨ob,0,ak⟩ (.slice A1 (dA ds ts (k+1)).length k1)) w7.heap.size (fun _=>True) (.slice A1 (dA ds ts (k+1)).length k1) (dA ds ts (k+1))/\(u1.setCell ⟨ob,0,ak⟩ (.slice A1 (dA ds ts (k+1)).length k1)).heap[ob]? =ag (.cells #[.slice A1 (dA ds ts (k+1)).length k1,.slice At E.2.length ct] 40 (0,0)) from⟨hbl,hrs,by simpa using hbs⟩);rw[←HT.out];clear hle hrs hbs hbl;clear y0 y1 m6 o0 rk;go_wp2_with fail;go_roundw
      case measure=>simp[intOf];omega
      case rel=>exact⟨k+1,_,show _ =bh .i64 ((k+1:Nat):Int) from by go_num,by omega,HN2⟩
    ·have hkn:k=n:=by omega
     have hge:¬(k:Int)<(n:Int):=by omega
     have HKN:=aa hkn;obtain⟨Ao,ko,hvo⟩:=Kd.bN HK.out.2.1;subst hvo;have o0:wr.cell? ⟨ob,0,ak⟩=ag (.slice Ao (dA ds ts k).length ko):=(aA HK.out.2.2 0).trans rfl;have o1:wr.cell? ⟨ob,1,ak⟩=ag (.slice At E.2.length ct):=(aA HK.out.2.2 1).trans rfl;have hrE:=aB H7.out.2.1 HK.out.1;have r0:wr.cell? ⟨W.heap.size+1,0,ak⟩=ag (.slice ak 0 0):=(aA hrE 0).trans rfl;have r1:wr.cell? ⟨W.heap.size+1,1,ak⟩=ag (.slice ak 0 0):=(aA hrE 1).trans rfl;have f0:wr.frozen? ⟨W.heap.size+1,0,ak⟩=ac:=aH hrE 0;have f1:wr.frozen? ⟨W.heap.size+1,1,ak⟩=ac:=aH hrE 1;have hkt:Kt [40] ak wr ((wr.setCell ⟨W.heap.size+1,0,ak⟩ (.slice Ao (dA ds ts k).length ko)).setCell ⟨W.heap.size+1,1,ak⟩ (.slice At E.2.length ct)):=((Kt.refl _ _ _).set hrE (by simp) 0 _).set (bU hrE 0 _) (by simp) 1 _;have hR1:=(H7.out.2.2.2.1.below HK.out.1).kt hkt (by simp) (by simp)
     have hV1:=hkt.row HK.out.2.1 (fun q hq=>by
      have:q=36:=by simpa[kSl,Kd.scalar]using hq
      rw[this];simp)
     have hke:dA ds ts k=dA ds ts ds.length:=by rw[hkn,H7.out.2.2.2.2.2.2.2.2.1]
     rw[hke]at hV1 hkt hR1;obtain⟨A1,k1,e1,hra⟩:=told_rows hR1 H7.out.2.2.2.2.2.2.2.1 (ar _ _) hV1
     have HTR:=aa (show TrR ((wr.setCell ⟨W.heap.size+1,0,ak⟩ (.slice Ao (dA ds ts k).length ko)).setCell ⟨W.heap.size+1,1,ak⟩ (.slice At E.2.length ct)) (.slice At E.2.length ct) E.2 from⟨_,_,by
      first | exact(hkt.row (Kd.bF H7.out.2.2.2.2.2.1 HK.out.1) (fun q hq=>by rw[E101 hq];simp)) | (rw[hke];exact(hkt.row (Kd.bF H7.out.2.2.2.2.2.1 HK.out.1) (fun q hq=>by rw[E101 hq];simp)))⟩)
     obtain⟨A2,k2,e2,-,hC2⟩:=Kd.cO (hkt.row (Kd.bF H7.out.2.2.2.2.2.1 HK.out.1) (fun q hq=>by rw[E101 hq];simp));rw[←hke]at e1 hra hC2;have HEA:=aa (aj e1 (aj hra (aj e2 hC2)));have HA:=aa (show cN nm wd ln ds bd inp=(0,told ds E.1,E.2) from by unfold cN;rw[if_pos HE.out.1,if_pos (by rw[HN.out,HE.out.2]),H7.out.2.2.2.2.2.2.2.2.2.1]);have hlow:=H7.out.2.2.2.2.2.2.1.trans (HK.out.1.mono H7.out.2.2.2.2.2.2.1.size);have HBE:=aa ((hlow.setCell (p:=⟨W.heap.size+1,0,ak⟩) (jj _) (.slice Ao (dA ds ts k).length ko)).setCell (p:=⟨W.heap.size+1,1,ak⟩) (jj _) (.slice At E.2.length ct));obtain⟨wE,hwE⟩:∃w,w=(wr.setCell ⟨W.heap.size+1,0,ak⟩ (.slice Ao (dA ds ts k).length ko)).setCell ⟨W.heap.size+1,1,ak⟩ (.slice At E.2.length ct):=⟨_,rfl⟩
     have z0:wE.cell? ⟨W.heap.size+1,0,ak⟩=ag (.slice Ao (dA ds ts k).length ko):=by rw[hwE];exact(aA (bU (bU hrE 0 _) 1 _) 0).trans rfl
     have z1:wE.cell? ⟨W.heap.size+1,1,ak⟩=ag (.slice At E.2.length ct):=by rw[hwE];exact(aA (bU (bU hrE 0 _) 1 _) 1).trans rfl
     rw[←hwE]at HEA HBE HTR;have HWE:=aa hwE;have HZ:=aa (aj z0 z1);clear hke e1 hra e2 hC2 hwE hrE hlow hkn z0 z1;go_wp2_with fail;rw[←HWE.out];refine bodyPost_ret (gL rfl rfl rfl HZ.out.1 HZ.out.2) rfl ?_;refine⟨.slice Ao (dA ds ts k).length ko,.slice At E.2.length ct,?_,?_,?_,?_⟩
     ·rw[HA.out];rfl
     ·rw[HA.out];exact⟨⟨A1,k1,HEA.out.1,HEA.out.2.1⟩,A2,k2,HEA.out.2.2.1,HEA.out.2.2.2⟩
     ·rw[HA.out];exact HTR.out
     ·exact HBE.out
  ·have hx:=aB HX.out.2.2.1 H1.out;have HXX:=aa hx;have r0:w1.cell? ⟨W.heap.size+1,0,ak⟩=ag (.slice ak 0 0):=(aA hx 0).trans rfl;have r1:w1.cell? ⟨W.heap.size+1,1,ak⟩=ag (.slice ak 0 0):=(aA hx 1).trans rfl;have f0:w1.frozen? ⟨W.heap.size+1,0,ak⟩=ac:=aH hx 0;have f1:w1.frozen? ⟨W.heap.size+1,1,ak⟩=ac:=aH hx 1;have hn2:¬(inp.length:Int)=(l.length:Int):=fun h=>hn (by omega)
   have HA:=aa (show cN nm wd ln ds bd inp=(170,[],[]) from by
    have h:=HLE.out;unfold dH at h
    by_cases h0:(bC nm wd ln ds bd).e=0
    ·rw[if_pos h0]at h;injection h with h _;unfold cN;rw[if_pos h0,if_neg (by rw[←h];exact hn)]
    ·rw[if_neg h0]at h;injection h with _ h
     exact absurd (h.symm.trans he) h0)
   subst he;clear hx x0 x1 x2 x3 x4 hb1;go_wp2_with fail;refine bodyPost_ret (gL (b:=W.heap.size+1) (vS:=.slice ak 0 0) (vT:=.slice ak 0 0) rfl rfl rfl ((aA (bU (bU HXX.out 0 (.slice ak 0 0)) 1 (.slice ak 0 0)) 0).trans rfl) ((aA (bU (bU HXX.out 0 (.slice ak 0 0)) 1 (.slice ak 0 0)) 1).trans rfl)) rfl ?_;refine⟨.slice ak 0 0,.slice ak 0 0,?_,?_,?_,?_⟩
   ·rw[HA.out];rfl
   ·rw[HA.out];exact EndAt.none _
   ·rw[HA.out];exact TrR.none _
   ·exact((HX.out.1.trans (H1.out.mono HX.out.1.size)).setCell (p:=⟨W.heap.size+1,0,ak⟩) (jj _) _).setCell (p:=⟨W.heap.size+1,1,ak⟩) (jj _) _
 ·have hx:=aB HX.out.2.2.1 H1.out;have HXX:=aa hx;have r0:w1.cell? ⟨W.heap.size+1,0,ak⟩=ag (.slice ak 0 0):=(aA hx 0).trans rfl;have r1:w1.cell? ⟨W.heap.size+1,1,ak⟩=ag (.slice ak 0 0):=(aA hx 1).trans rfl;have f0:w1.frozen? ⟨W.heap.size+1,0,ak⟩=ac:=aH hx 0;have f1:w1.frozen? ⟨W.heap.size+1,1,ak⟩=ac:=aH hx 1
  have HA:=aa (show cN nm wd ln ds bd inp=(er,[],[]) from by
   have h:=HLE.out;unfold dH at h
   by_cases h0:(bC nm wd ln ds bd).e=0
   ·rw[if_pos h0]at h;injection h with _ h;exact absurd h he
   ·rw[if_neg h0]at h;injection h with _ h
    unfold cN;rw[if_neg h0,h])
  clear hx x0 x1 x2 x3 x4 hb1;go_wp2_with fail;refine bodyPost_ret (gL (b:=W.heap.size+1) (vS:=.slice ak 0 0) (vT:=.slice ak 0 0) rfl rfl rfl ((aA (bU (bU HXX.out 0 (.slice ak 0 0)) 1 (.slice ak 0 0)) 0).trans rfl) ((aA (bU (bU HXX.out 0 (.slice ak 0 0)) 1 (.slice ak 0 0)) 1).trans rfl)) rfl ?_;refine⟨.slice ak 0 0,.slice ak 0 0,?_,?_,?_,?_⟩
  ·rw[HA.out];rfl
  ·rw[HA.out];exact EndAt.none _
  ·rw[HA.out];exact TrR.none _
  ·exact((HX.out.1.trans (H1.out.mono HX.out.1.size)).setCell (p:=⟨W.heap.size+1,0,ak⟩) (jj _) _).setCell (p:=⟨W.heap.size+1,1,ak⟩) (jj _) _
theorem run_calls (nm:ByteArray)(wd ln:Int)(ds:List S70)(bd:List S119)(A3:Option Addr)(c3:Nat)(A4:Option Addr)(c4:Nat)(W:World)(hp:ProgAt W ds bd A3 c3 A4 c4)(hg:PGood nm wd ln ds bd)(inp:List Int)(A:Option Addr)(cI:Nat)(hI:bX W A inp)(hu:∀v∈inp,U64 v)(hcI:inp.length<=cI):
 Calls au 23 #[.agg #[.string nm,.int .i64 wd,.int .i64 ln,.slice A3 ds.length c3,.slice A4 bd.length c4],.slice A inp.length cI] W fun e W'=>∃vS vT,e=.returned (.tuple #[.agg #[vS,vT],.int .i64 (cN nm wd ln ds bd inp).1])/\EndAt W' vS vT (cN nm wd ln ds bd inp).2.1 (cN nm wd ln ds bd inp).2.2/\Below W.heap.size W W':=by
 refine(oI nm wd ln ds bd A3 c3 A4 c4 W hp hg inp A cI hI hu hcI).mono ?_;rintro e W' ⟨vS,vT,he,h1,_,h2⟩;exact⟨vS,vT,he,h1,h2⟩
end
def kS (wd:Int)(P:List Bool)(x y:List Int)(k:Nat):Prop:=∀i,i<k->P.getD i ac=af->qO wd (x.getD i 0)=qO wd (y.getD i 0)
theorem kS.zero (wd:Int)(P:List Bool)(x y:List Int):kS wd P x y 0:=fun i h=>absurd h (da i)
theorem kS.step {wd:Int}{P:List Bool}{x y:List Int}{k:Nat}(h:kS wd P x y k)(e:P.getD k ac=af->qO wd (x.getD k 0)=qO wd (y.getD k 0)):kS wd P x y (k+1):=fun i hi=>by
 rcases Nat.lt_or_eq_of_le (Nat.le_of_lt_succ hi)with h' | rfl
 ·exact h i h'
 ·exact e
def Told2 (T U:List S101)(k:Nat):Prop:=k<T.length/\k<U.length/\(fJ T (k:Int)).f0=5/\(fJ U (k:Int)).f0=5
open Classical in
noncomputable def iT (T U:List S101):Bool × Int × Int:=if(difS T U).2=ac\/Told2 T U (difS T U).1.toNat then(ac,0,0)else(af,(difS T U).1,0)
open Classical in
noncomputable def oU (nm:ByteArray)(wd ln:Int)(ds:List S70)(bd:List S119)(x y:List Int):Bool × Int × Int:=
 if(dH nm wd ln ds bd).2=0 then
  if x.length=(dH nm wd ln ds bd).1.length/\y.length=(dH nm wd ln ds bd).1.length then
   if kS wd (dH nm wd ln ds bd).1 x y (dH nm wd ln ds bd).1.length then iT (cN nm wd ln ds bd x).2.2 (cN nm wd ln ds bd y).2.2
   else(ac,0,1)
  else(ac,0,170)
 else(ac,0,(dH nm wd ln ds bd).2)
theorem pK {T U:List S101}(h:difS T U=(0,ac)):iT T U=(ac,0,0):=by unfold iT;rw[if_pos (bc (by rw[h]))]
theorem pT {T U:List S101}{k:Nat}(h:difS T U=((k:Int),af))(ht:Told2 T U k):iT T U=(ac,0,0):=by unfold iT;rw[if_pos (Or.inr (by rw[h];simpa using ht))]
theorem eH {T U:List S101}{k:Nat}(h:difS T U=((k:Int),af))(ht:¬Told2 T U k):iT T U=(af,(k:Int),0):=by
 unfold iT;rw[if_neg,h];rintro(h' | h')
 ·rw[h]at h';exact absurd h' (by simp)
 ·rw[h]at h';exact ht (by simpa using h')
theorem difS_cases (T U:List S101):difS T U=(0,ac)\/∃k:Nat,difS T U=((k:Int),af):=by
 unfold difS
 split
 ·exact Or.inr ⟨_,rfl⟩
 ·exact bc rfl
def fA (W:World)(A:Option Addr)(l:List Bool):Prop:=∀k,k<l.length->∃ad,A=ag ad/\W.cell? (ad.add k)=ag (.bool (l.getD k ac))
theorem fA.below {W W':World}{A:Option Addr}{l:List Bool}(h:fA W A l)(hb:Below W.heap.size W W'):fA W' A l:=fun k hk=>by
 obtain⟨ad,e,q⟩:=h k hk;exact⟨ad,e,aE hb q⟩
theorem iW {W:World}{A:Option Addr}{l:List Bool}(h:Kd.bool.C W A l.length l):fA W A l:=fun k hk=>by
 obtain⟨ad,cc,e,_,hK,hc⟩:=Kd.oZ h ac (k:Int) (by omega) (by omega);refine⟨ad,e,?_⟩;have h:=hc 0 _ (by rw[hK];rfl);rw[show Kd.bool.sz=1 from rfl,ib,gm,ax]at h;exact h
theorem gK (nm:ByteArray)(wd ln:Int)(ds:List S70)(bd:List S119)(inp:List Int):(cN nm wd ln ds bd inp).2.2.length<=1073741824:=by
 unfold cN
 split
 ·rename_i h
  split
  ·have h1:=gZ wd ln ds bd [] (gF wd ds inp ds.length,[]);have h2:=size_le h
   show(endOf wd ln ds bd inp).2.length<=_
   unfold endOf;simp only[List.length_nil]at h1;omega
  ·simp
 ·simp
def Row (W:World)(base b c:Nat)(l:List Int):Prop:=(Kd.int .u64).R 74 W base (fun k=>k=b) (.slice (ag ⟨b,0,ak⟩) l.length c) l
section
variable {W W':World}{base b c:Nat}{l:List Int}
theorem Row.cell (h:Row W base b c l){k:Nat}(hk:k<l.length):W.cell? ⟨b,k,ak⟩=ag (.int .u64 (l.getD k 0))/\W.frozen? ⟨b,k,ak⟩=ac:=by
 have:=Kd.R_cell (enc:=bh .u64) (h1:=fun _=>rfl) (0:Int) h (k:Int) (by omega) (by omega)
 rwa [ax]at this
theorem Row.put (h:Row W base b c l)(k:Nat)(x:Int):Row (W.setCell ⟨b,k,ak⟩ (.int .u64 x)) base b c (l.set k x):=by
 have:=(Kd.R_put (enc:=bh .u64) (h1:=fun _=>rfl) h (k:Int) x).1;rw[ax]at this;unfold Row;rw[List.length_set];exact this
theorem Row.below (h:Row W base b c l)(hb:Below W.heap.size W W'):Row W' base b c l:=Kd.bF h hb
theorem Row.of_R {ok:Nat->Prop}{v:Value}(h:(Kd.int .u64).R 74 W base ok v l)(hl:0<l.length):∃b c,v=.slice (ag ⟨b,0,ak⟩) l.length c/\base<=b/\Row W base b c l:=by
 obtain⟨g,cap,rfl,hb,_,_⟩:=Kd.R_form h hl;exact⟨g,cap,rfl,hb,Kd.nL (enc:=bh .u64) (h1:=fun _=>rfl) (Kd.mC (enc:=bh .u64) (h1:=fun _=>rfl) h) (fun k hk=>by simpa[ee]using hk.symm)⟩
theorem Row.lo (h:Row W base b c l):base<=b:=Kd.R_base h b rfl
theorem Row.C (h:Row W base b c l):l.length<=c/\(Kd.int .u64).C W (ag ⟨b,0,ak⟩) l.length l:=by
 obtain⟨A,c',e,h1,h2⟩:=Kd.cO h;injection e with e1 _ e3;subst e1 e3;exact⟨h1,h2⟩
theorem Row.blk (h:Row W base b c l):∃cs,W.heap[b]? =ag (.cells cs 74 (0,0)):=by
 obtain⟨inner,ho⟩:=Kd.mH h;exact dO ho b rfl
end
structure ShC where
 w0:World
 P0:World
 xb:Nat
 yb:Nat
 ab:Nat
section
set_option maxRecDepth 100000
theorem clone_calls (l:List Int)(a:Addr)(c:Nat)(W:World)(h:(Kd.int .u64).C W (ag a) l.length l)(hl:l.length<=1073741824):
 Calls au 89 #[.slice (ag a) l.length c] W fun e W'=>∃v,e=.returned v/\(Kd.int .u64).R 74 W' W.heap.size (fun _=>True) v l/\Below W.heap.size W W':=by
 have HO:=aa (show(Kd.int .u64).R 74 (W.alloc (.cells #[] 74)) W.heap.size (fun _=>True) (.slice (ag ⟨W.heap.size,0,ak⟩) 0 0) ([]:List Int) from⟨fun _ _=>trivial,[],own_lit W W.heap.size 74 .u64 [] (aq _) (bk _),gQ.none _ _⟩);have hba:Below W.heap.size W (W.alloc (.cells #[] 74)):=(ar _ _).alloc (aq _) _;have HBA:=aa hba;have HIC:=aa (Kd.aF h hba);have HL8:=aa (show(([]:List Int).length+l.length)*8<=140737488355328 from by simp;omega);clear h hba;have hnil:=Lib.run_eql_slice_nil (P:=au) W 36 74 (ag a) l.length c 0 0 gM;go_enter Tryz.func89,Tryz.ntmps89
 go_wp2_with (at_builtin;refine Kd.R_append_row (bh .u64) (0:Int) (w0:=W) W.heap.size rfl (.tmp 5) (.tmp 6) 36 74 (.int .u64 0) 8 rfl gM mL rfl (by decide) (.slice (ag ⟨W.heap.size,0,ak⟩) 0 0) [] l (ag a) l.length c (ok:=fun _=>True) rfl rfl (fun _ _=>trivial) HO.out HIC.out HBA.out HBA.out.size HL8.out ?_)
 intro v2 u2 hr2 hb2 hg2 hat2;have H2:=aa (aj hr2 hb2);clear hr2 hb2 hg2 hat2;go_wp2_with fail;go_ret;exact⟨v2,rfl,H2.out.1,H2.out.2⟩
theorem range_self (l:List Int):(bu l.length).map (fun i=>l.getD i 0)=l:=by
 apply List.ext_getElem (by simp);intro i h1 h2
 simp at h1 ⊢
 rw[az h1];rfl
end
section
set_option maxRecDepth 100000
theorem nE (l:List Int)(A B:Option Addr)(c d:Nat)(W:World)(ha:bX W A l)(hb:bX W B l)(hm:l.length<=1073741824):
 Calls au 38 #[.slice A l.length c,.slice B l.length d] W fun e W'=>e=.returned (.bool af)/\Below W.heap.size W W':=by
 have H:=aa (aj ha hb);clear ha hb;go_enter Tryz.func38,Tryz.ntmps38;go_wp2_with fail
 go_loopw [5] (fun i W'=>∃k:Nat,i=.int .i64 k/\k<=l.length/\Aside0 (Below W.heap.size W W')) (fun i _=>l.length - (intOf i).toNat)
 case atStart=>exact⟨0,rfl,bk _,⟨ar _ _⟩⟩
 case round=>
  obtain⟨k,rfl,hk,HB⟩:=hrel
  by_cases hlt:k<l.length
  ·have hi1:(k:Int)<(l.length:Int):=by omega
   obtain⟨ad1,e1,q1⟩:=H.out.1 k hlt;cases e1;obtain⟨ad2,e2,q2⟩:=H.out.2 k hlt;cases e2;replace q1:=aE HB.out q1;replace q2:=aE HB.out q2;generalize l.getD k 0=b at q1 q2;go_wp2_with fail;go_region;go_wp2_with fail;refine⟨⟨k+1,by go_num,by omega,⟨HB.out.drew⟩⟩,by simp[intOf];omega⟩
  ·have hge:¬(k:Int)<(l.length:Int):=by omega
   go_wp2_with fail;go_ret;exact⟨rfl,HB.out⟩
end
end Go.Proofs.YtfigjpehecibeaaGreat.L
namespace Go.Proofs.YtfigjpehecibeaaGreat.L
open Go.RowKit Bm C
def incW (w v:Int):Int:=qO w ((v+1) % 18446744073709551616)
def dZ (w:Int)(may:List Bool):Nat->List Int->Option (List Int)
 |0,_=>ak
 |i+1,l=>if may.getD i ac=af then(if incW w (l.getD i 0)=0 then dZ w may i (l.set i 0)else ag (l.set i (incW w (l.getD i 0))))else dZ w may i l
def numS (B:Nat)(may:List Bool)(l:List Int):Nat->Nat
 |0=>0
 |i+1=>if may.getD i ac=af then numS B may l i*B+(l.getD i 0).toNat else numS B may l i
theorem incW_at {w:Nat}(h1:1<=w)(h2:w<=64){v:Nat}(hv:v<2 ^ w):incW (w:Int) (v:Int)=if v+1=2 ^ w then 0 else((v+1:Nat):Int):=by
 unfold incW qO;have hp:=gE h2
 have e:(((v:Int)+1) % 18446744073709551616).toNat=(v+1) % 2 ^ 64:=by rw[p64];omega
 rw[e,gC rfl h1 h2 (ij _ (by decide))];have e2:(v+1) % 2 ^ 64 % 2 ^ w=(v+1) % 2 ^ w:=Nat.mod_mod_of_dvd _ (Nat.pow_dvd_pow 2 h2);rw[e2]
 split
 ·rename_i h;rw[h,Nat.mod_self];rfl
 ·rw[fp (by omega)]
def InW (w:Nat)(l:List Int):Prop:=∀i,∃v:Nat,l.getD i 0=(v:Int)/\v<2 ^ w
theorem InW.set {w:Nat}{l:List Int}(h:InW w l)(k:Nat){v:Nat}(hv:v<2 ^ w):InW w (l.set k (v:Int)):=fun i=>by
 by_cases e:i=k/\k<l.length
 ·obtain⟨rfl,hk⟩:=e;exact⟨v,by rw[aw,List.getElem?_set_self hk];rfl,hv⟩
 ·obtain⟨u,hu,hlt⟩:=h i;refine⟨u,?_,hlt⟩;rw[←hu,aw,aw,jr]
  split
  ·rename_i h2;subst h2
   split
   ·rename_i h3;exact absurd ⟨rfl,h3⟩ e
   ·rename_i h3;rw[dg (by omega)]
  ·rfl
theorem InW.u64 {w:Nat}(h2:w<=64){l:List Int}(h:InW w l):∀v∈l,U64 v:=fun v hv=>by
 obtain⟨i,hi,rfl⟩:=gr hv;obtain⟨u,hu,hlt⟩:=h i;rw[aw,az hi]at hu;have hp:=gE h2;have:l[i]=(u:Int):=hu;rw[this];exact⟨by omega,by omega⟩
theorem oV {B:Nat}{may:List Bool}{l l':List Int}:∀{i:Nat},(∀k,k<i->l'.getD k 0=l.getD k 0)->numS B may l' i=numS B may l i
 |0,_=>rfl
 |i+1,h=>by
  unfold numS;rw[oV (fun k hk=>h k (by omega)),h i (by omega)]
theorem mR {w:Nat}{may:List Bool}{l:List Int}(h:InW w l):∀i,numS (2 ^ w) may l i<(2 ^ w) ^ i
 |0=>by simp[numS]
 |i+1=>by
  have ih:=mR (may:=may) h i;obtain⟨v,hv,hlt⟩:=h i;have hB:=df w;unfold numS;rw[Nat.pow_succ]
  split
  ·rw[hv,ax];have:numS (2 ^ w) may l i+1<=(2 ^ w) ^ i:=ih;have:=fq (2 ^ w) this;rw[Nat.add_mul]at this;omega
  ·have:=Nat.mul_le_mul_left ((2 ^ w) ^ i) hB;omega
theorem getD_set_ne {l:List Int}{i k:Nat}{x:Int}(h:i≠k):(l.set k x).getD i 0=l.getD i 0:=by
 rw[aw,aw,jr,if_neg (fun e=>h e.symm)]
theorem nB {l:List Int}{k:Nat}{x:Int}(h:k<l.length):(l.set k x).getD k 0=x:=by
 rw[aw,List.getElem?_set_self h];rfl
structure NextOf (w:Nat)(may:List Bool)(i:Nat)(l l':List Int):Prop where
 len:l'.length=l.length
 inw:InW w l'
 num:numS (2 ^ w) may l' i=numS (2 ^ w) may l i+1
 same:∀k,may.getD k ac=ac\/i<=k->l'.getD k 0=l.getD k 0
theorem mB {w:Nat}(h1:1<=w)(h2:w<=64){may:List Bool}:∀{i:Nat} {l l':List Int},InW w l->i<=l.length->dZ (w:Int) may i l=ag l'->NextOf w may i l l'
 |0,l,l',_,_,h=>by simp[dZ]at h
 |i+1,l,l',hl,hi,h=>by
  unfold dZ at h;obtain⟨v,hv,hlt⟩:=hl i;have hB:=df w
  split at h
  ·rename_i hm;rw[hv,incW_at h1 h2 hlt]at h
   by_cases he:v+1=2 ^ w
   ·rw[if_pos he,if_pos rfl]at h;have ih:=mB h1 h2 (l:=l.set i 0) (hl.set i (v:=0) hB) (by rw[List.length_set];omega) h;refine⟨by rw[ih.len,List.length_set],ih.inw,?_,fun k hk=> ?_⟩
    ·have e1:=ih.num;have e2:numS (2 ^ w) may (l.set i 0) i=numS (2 ^ w) may l i:=oV fun k hk=>getD_set_ne (by omega);have e3:l'.getD i 0=0:=(ih.same i (Or.inr (aq _))).trans (nB (by omega));unfold numS;rw[if_pos hm,if_pos hm,e1,e2,e3,hv,ax,Nat.add_mul];simp only[Int.toNat_zero];omega
    ·have hki:k≠i:=by
      rintro rfl
      rcases hk with hk | hk
      ·rw[hm]at hk;exact absurd hk (by decide)
      ·omega
     rw[ih.same k (by rcases hk with hk | hk;exact bc hk;exact Or.inr (by omega)),getD_set_ne hki]
   ·rw[if_neg he,if_neg (by omega)]at h;injection h with h;subst h;refine⟨List.length_set ..,hl.set i (v:=v+1) (by omega),?_,fun k hk=> ?_⟩
    ·unfold numS;rw[if_pos hm,if_pos hm,nB (by omega),hv,ax,ax,oV (l':=l.set i ((v+1:Nat):Int)) fun k hk=>getD_set_ne (by omega)];omega
    ·have hki:k≠i:=by
      rintro rfl
      rcases hk with hk | hk
      ·rw[hm]at hk;exact absurd hk (by decide)
      ·omega
     exact getD_set_ne hki
  ·rename_i hm;have ih:=mB h1 h2 hl (by omega) h;refine⟨ih.len,ih.inw,?_,fun k hk=> ?_⟩
   ·unfold numS;rw[if_neg hm,if_neg hm];exact ih.num
   ·refine ih.same k ?_
    rcases hk with hk | hk
    ·exact bc hk
    ·exact Or.inr (by omega)
section
variable (L:List Int->List Int->Bool × Int × Int)(w:Int)(n:Nat)
def kJ (may:List Bool)(x:List Int):Nat->List Int->Option (List Int × Int)
 |0,_=>ak
 |f+1,y=>if(L x y).1=af then ag (y,(L x y).2.1)else match dZ w may n y with
  |none=>ak
  |some y'=>kJ may x f y'
def dU (P:List Bool)(x:List Int):List Int:=(bu n).map fun i=>if P.getD i ac=af then x.getD i 0 else 0
def jF (P:List Bool)(G:Nat):Nat->List Int->Option (List Int × List Int × Int)
 |0,_=>ak
 |f+1,x=>match kJ L w n (P.map (! ·)) x G (dU n P x)with
  |some (y,at_)=>ag (x,y,at_)
  |none=>match dZ w (P.map fun _=>af) n x with
   |none=>ak
   |some x'=>jF P G f x'
end
end Go.Proofs.YtfigjpehecibeaaGreat.L
namespace Go.Proofs.YtfigjpehecibeaaGreat.L
open Go.RowKit Bm C Go.Maps Go.Proofs.YtfigjpehecibeaaGreatW.PrintWords Go.Proofs.YtfigjpehecibeaaGreatW.PrintLast Go.Proofs.YtfigjpehecibeaaGreatW.PrintMore Go.Proofs.YtfigjpehecibeaaGreat.Gr
def Out (W:World)(v:Value)(l:List Int):Prop:=∃A c,v=.slice A l.length c/\bX W A l
theorem Out.none (W:World):Out W (.slice ak 0 0) []:=⟨Option.none,0,rfl,fun k hk=>absurd hk (da k)⟩
def jT (W:World)(g:Nat)(P:List Bool):Prop:=∃cells,W.heap[g]? =ag (.cells cells 4 (0,0))/\∀k,k<P.length->cells[k]? =ag (.bool (P.getD k ac))
theorem openAt_R {W:World}{base g cap:Nat}{ok:Nat->Prop}{P:List Bool}(h:Kd.bool.R 4 W base ok (.slice (ag ⟨g,0,ak⟩) P.length cap) P)(h0:0<P.length):jT W g P:=by
 obtain⟨g',cap',e,-,-,cells,hc⟩:=Kd.R_form h h0;injection e with e _ _;injection e with e;injection e with e;subst e;refine⟨cells,hc,fun k hk=> ?_⟩;obtain⟨A',c',e',-,hC⟩:=Kd.cO h;injection e' with e';subst e';obtain⟨ad,ea,q⟩:=iW hC k hk;injection ea with ea;subst ea
 have e:(⟨g,0,ak⟩:Addr).add k=⟨g,k,ak⟩:=by simp[Addr.add];omega
 rw[e]at q;rw[←q];exact(aA hc k).symm
theorem jT.below {g:Nat}{P:List Bool}{W W':World}(h:jT W g P)(hb:Below W.heap.size W W'):jT W' g P:=by
 obtain⟨cells,hc,hv⟩:=h;exact⟨cells,aB hc hb,hv⟩
theorem jT.cell {g:Nat}{P:List Bool}{W:World}(h:jT W g P){k:Nat}(hk:k<P.length):W.cell? ⟨g,k,ak⟩=ag (.bool (P.getD k ac)):=by
 obtain⟨cells,hc,hv⟩:=h;exact(aA hc k).trans (hv k hk)
section
set_option maxRecDepth 100000
theorem leak29_calls (T U:List S101)(P Q:Option Addr)(p q:Nat)(W:World)(ha:lE.C W P T.length T)(hb:lE.C W Q U.length U)(hm:T.length<=1073741824)(hn:U.length<=1073741824)(r:Bool × Int × Int)(hr:r=iT T U):
 Calls au 100 #[.slice P T.length p,.slice Q U.length q] W fun e W'=>e=.returned (.tuple #[.int .i64 r.2.1,.bool r.1])/\Below W.heap.size W W':=by
 have HR:=aa hr;obtain⟨⟨d1,d2⟩,hd⟩:∃r,r=difS T U:=⟨_,rfl⟩;have HDC:=aa (rN T U P Q p q W ha hb hm hn _ hd);have HD:=aa hd;have HC:=aa (aj ha hb);clear hd hr ha hb;go_enter Tryz.func100,Tryz.ntmps100;go_wp2_with fail;refine HDC.out.mono ?_;rintro _ w7 ⟨rfl,hb7⟩;have H7:=aa (show Below W.heap.size W w7/\lE.C w7 P T.length T/\lE.C w7 Q U.length U from⟨hb7,Kd.aF HC.out.1 hb7,Kd.aF HC.out.2 hb7⟩);clear hb7
 rcases difS_cases T U with hdd | ⟨j,hdd⟩
 ·have hd2:=HD.out.trans hdd;injection hd2 with hd1 hd2;subst hd1 hd2;have HA:=aa (show r=(ac,0,0) from HR.out.trans (pK hdd));clear hdd;go_wp2_with fail;go_ret2;exact⟨by rw[HA.out];rfl,H7.out.1⟩
 ·have hd2:=HD.out.trans hdd;injection hd2 with hd1 hd2;subst hd1 hd2;have HJ:=aa hdd;clear hdd
  by_cases h1:j<T.length
  ·have hi1:decide ((j:Int)<(T.length:Int))=af:=decide_eq_true (by omega)
   by_cases h2:j<U.length
   ·have hi2:decide ((j:Int)<(U.length:Int))=af:=decide_eq_true (by omega);obtain⟨ad1,e1,q0,-,-⟩:=lK H7.out.2.1 (j:Int) (by omega) (by omega);cases e1;obtain⟨ad2,e2,p0,-,-⟩:=lK H7.out.2.2 (j:Int) (by omega) (by omega);cases e2;rw[ax]at q0 p0;obtain⟨f,hf⟩:∃f,f=(fJ T (j:Int)).f0:=⟨_,rfl⟩;obtain⟨f',hf'⟩:∃f,f=(fJ U (j:Int)).f0:=⟨_,rfl⟩;rw[←hf]at q0;rw[←hf']at p0;have HFF:=aa (aj hf hf');clear hf hf'
    rcases aL (f==5)with h5 | h5
    ·rcases aL (f'==5)with h6 | h6
     ·have HA:=aa (show r=(ac,0,0) from HR.out.trans (pT HJ.out ⟨h1,h2,by rw[←HFF.out.1];exact beq_iff_eq.1 h5,by rw[←HFF.out.2];exact beq_iff_eq.1 h6⟩));go_wp2_with fail;go_ret2;exact⟨by rw[HA.out];rfl,H7.out.1⟩
     ·have HA:=aa (show r=(af,(j:Int),0) from HR.out.trans (eH HJ.out (fun h=>by have:=h.2.2.2;rw[←HFF.out.2]at this;rw[beq_iff_eq.2 this]at h6;exact absurd h6 (by decide))));go_wp2_with fail;go_ret2;exact⟨by rw[HA.out];rfl,H7.out.1⟩
    ·have HA:=aa (show r=(af,(j:Int),0) from HR.out.trans (eH HJ.out (fun h=>by have:=h.2.2.1;rw[←HFF.out.1]at this;rw[beq_iff_eq.2 this]at h5;exact absurd h5 (by decide))));go_wp2_with fail;go_ret2;exact⟨by rw[HA.out];rfl,H7.out.1⟩
   ·have hi2:decide ((j:Int)<(U.length:Int))=ac:=decide_eq_false (by omega);have HA:=aa (show r=(af,(j:Int),0) from HR.out.trans (eH HJ.out (fun h=>by exact h2 h.2.1)));go_wp2_with fail;go_ret2;exact⟨by rw[HA.out];rfl,H7.out.1⟩
  ·have hi1:decide ((j:Int)<(T.length:Int))=ac:=decide_eq_false (by omega);have HA:=aa (show r=(af,(j:Int),0) from HR.out.trans (eH HJ.out (fun h=>by exact h1 h.1)));go_wp2_with fail;go_ret2;exact⟨by rw[HA.out];rfl,H7.out.1⟩
end
section
set_option maxRecDepth 100000
structure RowO (W:World)(base:Nat)(A:Option Addr)(c:Nat)(l:List Int):Prop where
 typed:∀b,A=ag ⟨b,0,ak⟩->∃cs,W.heap[b]? =ag (.cells cs 74 (0,0))
 rd:(Kd.int .u64).C W A l.length l
 row:l=[]\/∃b,A=ag ⟨b,0,ak⟩/\Row W base b c l
theorem RowO.of {W:World}{base b c:Nat}{l:List Int}(h:Row W base b c l):RowO W base (ag ⟨b,0,ak⟩) c l:=⟨fun b' e=>by
 injection e with e;injection e with e
 exact e ▸ h.blk,h.C.2,Or.inr ⟨b,rfl,h⟩⟩
theorem RowO.of_R {W:World}{base c:Nat}{ok:Nat->Prop}{A:Option Addr}{l:List Int}(h:(Kd.int .u64).R 74 W base ok (.slice A l.length c) l):RowO W base A c l:=by
 obtain⟨A',c',e,_,hC⟩:=Kd.cO h;injection e with e1 _ e3;subst e1 e3;refine⟨fun b e=> ?_,hC,?_⟩
 ·subst e;obtain⟨inner,ho⟩:=Kd.mH h;exact dO ho b rfl
 ·cases l with
  |nil=>exact bc rfl
  |cons v l=>
   obtain⟨b,c',e,_,hr⟩:=Row.of_R h (by simp);injection e with e1 _ e3;subst e1 e3;exact Or.inr ⟨b,rfl,hr⟩
structure Kb (base:Nat)(A:Option Addr)(W W':World):Prop where
 low:Below base W W'
 size:W.heap.size<=W'.heap.size
 blk:∀g,g<W.heap.size->(∀b,A=ag ⟨b,0,ak⟩->g≠b)->W'.heap[g]? =W.heap[g]?
theorem Kb.refl (base:Nat)(A:Option Addr)(W:World):Kb base A W W:=⟨ar _ _,aq _,fun _ _ _=>rfl⟩
theorem Kb.trans {base:Nat}{A:Option Addr}{a b c:World}(h:Kb base A a b)(k:Kb base A b c):Kb base A a c:=⟨h.low.trans k.low,bi h.size k.size,fun g hg hn=>(k.blk g (br hg h.size) hn).trans (h.blk g hg hn)⟩
theorem Kb.of_below {base:Nat}{A:Option Addr}{W W':World}(h:Below W.heap.size W W')(hb:base<=W.heap.size):Kb base A W W':=⟨h.mono hb,h.size,fun g hg _=>h.block g hg⟩
theorem Kb.set {base b:Nat}{c:Nat}{l:List Int}{W:World}(h:Row W base b c l)(k:Nat)(u:Value):Kb base (ag ⟨b,0,ak⟩) W (W.setCell ⟨b,k,ak⟩ u):=
 ⟨(ar _ _).setCell (p:=⟨b,k,ak⟩) h.lo _,by simp[ji],fun g _ hn=>dn _ _ _ g (fun e=>hn b rfl e)⟩
theorem RowO.below {W W':World}{base c:Nat}{A:Option Addr}{l:List Int}(h:RowO W base A c l)(hb:Below W.heap.size W W'):RowO W' base A c l:=by
 refine⟨fun b e=>(h.typed b e).imp fun cs k=>aB k hb,Kd.aF h.rd hb,?_⟩
 rcases h.row with h | ⟨b,e,hr⟩
 ·exact bc h
 ·exact Or.inr ⟨b,e,hr.below hb⟩
theorem RowO.words {W:World}{base c:Nat}{A:Option Addr}{l:List Int}(h:RowO W base A c l):bX W A l:=by
 exact sU h.rd
theorem Kb.keep {base:Nat}{A:Option Addr}{W W':World}(h:Kb base A W W')(hA:∀b,A=ag ⟨b,0,ak⟩->∃cs,W.heap[b]? =ag (.cells cs 74 (0,0))){g t:Nat}{cs:Array Value}(hg:W.heap[g]? =ag (.cells cs t (0,0)))(ht:t≠74):W'.heap[g]? =ag (.cells cs t (0,0)):=(h.blk g (aX hg) fun b e=>by
 obtain⟨cs2,h2⟩:=hA b e
 exact pL hg h2 ht).trans hg
def NextW (base:Nat)(A:Option Addr)(c:Nat)(r:Option (List Int))(e:Ending)(W W':World):Prop:=e=.returned (.bool r.isSome)/\(∀l',r=ag l'->RowO W' base A c l')/\Kb base A W W'
theorem nD (nm:ByteArray)(wd ln:Int)(ds:List S70)(bd:List S119)(A3:Option Addr)(c3:Nat)(A4:Option Addr)(c4:Nat){w:Nat}(hw:wd=(w:Int))(h1:1<=w)(h2:w<=64){base:Nat}{A M:Option Addr}{c cm n:Nat}{l:List Int}{may:List Bool}(W:World)(hbs:base<=W.heap.size)(hl:l.length=n)(hm:may.length=n)(hn:n<=65536)(hi:InW w l)(hR:RowO W base A c l)(hM:0<n->∃og,M=ag ⟨og,0,ak⟩/\jT W og may):
 Calls au 101 #[.agg #[.string nm,.int .i64 wd,.int .i64 ln,.slice A3 ds.length c3,.slice A4 bd.length c4],.slice A n c,.slice M n cm] W fun e W'=>NextW base A c (dZ wd may n l) e W W':=by
 obtain⟨pb,hpb⟩:∃b,b=W.heap.size:=⟨_,rfl⟩;obtain⟨X,hX⟩:∃X,X=W.alloc (.cells #[.string nm,.int .i64 wd,.int .i64 ln,.slice A3 ds.length c3,.slice A4 bd.length c4] 25):=⟨_,rfl⟩
 have hXB:Below W.heap.size W X:=by rw[hX];exact(ar _ _).alloc (aq _) _
 have hbp:X.heap[pb]? =ag (.cells #[.string nm,.int .i64 wd,.int .i64 ln,.slice A3 ds.length c3,.slice A4 bd.length c4] 25 (0,0)):=by rw[hX,hpb];exact aW _ _
 have HX:=aa (aj hXB (aj hbp (aj hm (aj hbs hpb))));have HM:=aa (show 0<n->∃og,M=ag ⟨og,0,ak⟩/\jT X og may from fun h=>(hM h).imp fun og k=>⟨k.1,k.2.below hXB⟩);have HW:=aa (aj hw (aj h1 h2));have HS:=aa (aj hl (aj hi (hR.below hXB)));have HXE:=aa hX;clear hX hXB hbp hbs hl hi hR hM hm hw h1 h2;go_enter Tryz.func101,Tryz.ntmps101
 go_upto_region 1 with (fail)
 rw[←hpb,←HXE.out];clear hpb;go_wp2_with fail
 go_loopw [7] (fun v W'=>∃(t:Int) (i:Nat) (lc:List Int),v=.int .i64 t/\t=(i:Int) - 1/\i<=n/\Aside0 (lc.length=n/\InW w lc/\RowO W' base A c lc/\dZ wd may i lc=dZ wd may n l/\Kb base A X W')) (fun v _=>(intOf v+1).toNat)
 case atStart=>exact⟨_,n,l,rfl,rfl,aq _,⟨HS.out.1,HS.out.2.1,HS.out.2.2,rfl,Kb.refl _ _ _⟩⟩
 case round=>
  as_aux_lemma=>
   obtain⟨t,i,lc,rfl,ht,hin,HB⟩:=hrel;have HXK:=aa ((Kb.of_below (A:=A) HX.out.1 HX.out.2.2.2.1).trans HB.out.2.2.2.2)
   cases i with
   |zero=>
    obtain rfl:t= -1:=by omega
    clear ht hin;go_wp2_with fail;go_ret;rw[←HB.out.2.2.2.1];exact⟨rfl,(fun l' h=>by cases h),HXK.out⟩
   |succ j=>
    obtain rfl:t=(j:Int):=by omega
    clear ht
    have hj1:(j:Int)<(n:Int):=by omega
    obtain⟨b,hA,hr⟩:∃b,A=ag ⟨b,0,ak⟩/\Row wr base b c lc:=by
     rcases HB.out.2.2.1.row with h | h
     ·exact absurd HB.out.1 (by rw[h];simp;omega)
     ·exact h
    obtain⟨og,hMe,hO⟩:=HM.out (by omega);subst hA hMe
    have hO2:jT wr og may:=by
     obtain⟨cells,hc,hv⟩:=hO
     have hne:og≠b:=by
      intro e;subst e;obtain⟨cs,hcs⟩:=hr.blk
      rcases HS.out.2.2.row with h | ⟨b',eb,hr0⟩
      ·exact absurd HS.out.1 (by rw[h];simp;omega)
      ·injection eb with eb;injection eb with eb;subst eb;obtain⟨cs2,hcs2⟩:=hr0.blk;exact pL hc hcs2 (by decide) rfl
     exact⟨cells,(HB.out.2.2.2.2.blk og (aX hc) (fun b' e=>by
      injection e with e;injection e with e
      exact e ▸ hne)).trans hc,hv⟩
    have q0:=hO2.cell (k:=j) (by rw[HX.out.2.2.1];omega)
    have hpbn:pb≠b:=by
     rcases HS.out.2.2.row with h | ⟨b',eb,hr0⟩
     ·exact absurd HS.out.1 (by rw[h];simp;omega)
     ·injection eb with eb;injection eb with eb;subst eb;obtain⟨cs2,hcs2⟩:=hr0.blk;exact pL HX.out.2.1 hcs2 (by decide)
    have hbp:wr.heap[pb]? =ag (.cells #[.string nm,.int .i64 wd,.int .i64 ln,.slice A3 ds.length c3,.slice A4 bd.length c4] 25 (0,0)):=(HB.out.2.2.2.2.blk pb (aX HX.out.2.1) (fun b' e=>by
     injection e with e;injection e with e
     exact e ▸ hpbn)).trans HX.out.2.1
    have hul:=HB.out.2.1 j;obtain⟨v,hv,hvl⟩:=hul;obtain⟨q1,f1⟩:=hr.cell (k:=j) (by rw[HB.out.1];omega);rw[hv]at q1;obtain⟨m,hm⟩:∃m,m=may.getD j ac:=⟨_,rfl⟩;rw[←hm]at q0;have HR:=aa hr;have HBP:=aa hbp;have HV:=aa (aj hv (aj hvl (aj hm hin)));clear hr hO hO2 hpbn hbp hv hvl hm
    cases m with
    |false=>
     have HN:=aa (show dZ wd may j lc=dZ wd may n l from by
      rw[←HB.out.2.2.2.1]
      show _ =(if may.getD j ac=af then _ else _)
      rw[←HV.out.2.2.1,if_neg (by decide)])
     go_wp2_with fail;exact⟨⟨_,j,lc,rfl,rfl,by have:=HV.out.2.2.2;omega,⟨HB.out.1,HB.out.2.1,HB.out.2.2.1,HN.out,HB.out.2.2.2.2⟩⟩,by simp[intOf]⟩
    |true=>
     have hin8:(v:Int)<18446744073709551616:=by
      have:=gE HW.out.2.2;have:=HV.out.2.1;omega
     obtain⟨z,hz⟩:∃z,z=((v:Int)+1) % 18446744073709551616:=⟨_,rfl⟩
     have ez:IntKind.u64.wrap ((v:Int)+1)=z:=by rw[qN,hz]
     have hzu:U64 z:=by rw[hz];constructor <;> omega
     obtain⟨y,hy⟩:∃y,y=incW wd (lc.getD j 0):=⟨_,rfl⟩
     have hyz:qO wd z=y:=by rw[hy,hz,HV.out.1];rfl
     have HT:=aa (fun(W:World)=>refTrimI (wd:=wd) (v:=z) (by have:=HW.out;omega) hzu W);rw[hyz]at HT;have p1:∀g:G wr,g.W.cell? ⟨pb,1,ak⟩=ag (.int .i64 wd):=fun g=>(aA (aB HBP.out g.below) 1).trans rfl;have p2:∀g:G wr,g.W.cell? ⟨b,j,ak⟩=ag (.int .u64 v):=fun g=>aE g.below q1;have p3:∀g:G wr,g.W.frozen? ⟨b,j,ak⟩=ac:=fun g=>((HR.out.below g.below).cell (k:=j) (by rw[HB.out.1];have:=HV.out.2.2.2;omega)).2;have HY:=aa hy;clear hz hzu hy hyz q1 f1;go_wp2_with fail;refine aG ?_;intro gg;refine eP (n:=12) (S:=fun w'=>∃g':G _,w'=g'.W) (ds:=[11]) #[ac,ac,ac,ac,ac,ac,ac,ac,ac,ac,ac,ac] (by kernel_rfl) rfl rfl ⟨mkG (gg.2.drew),rfl⟩ (fun hHeld=> ?_);obtain⟨gd,hgd⟩:=hHeld;rw[hgd];clear hgd;refine aP (i:=0) (N:=ag 20) (v:= ?_) (a':= ?_) #[af,ac,ac,ac,ac,ac,ac,ac,ac,ac,ac,ac] rfl rfl (by kernel_rfl) (fun _ _ _ h=>h) (bc ⟨by rfl,?_⟩) ?_ ?_;rotate_left
     ·intro w';go_simp;with_reducible rfl
     rotate_left
     ·simp only[ay,ae,ah,ai,aJ,aK];rfl
     refine aP (i:=1) (N:=ag 21) (v:= ?_) (a':= ?_) #[af,af,ac,ac,ac,ac,ac,ac,ac,ac,ac,ac] rfl rfl (by kernel_rfl) (fun _ _ _ h=>h) (bc ⟨by rfl,?_⟩) ?_ ?_;rotate_left
     ·intro w';go_simp;with_reducible rfl
     rotate_left
     ·simp only[ay,ae,ah,ai,aJ,aK];rfl
     refine aP (i:=2) (N:=ag 22) (v:= ?_) (a':= ?_) #[af,af,af,ac,ac,ac,ac,ac,ac,ac,ac,ac] rfl rfl (by kernel_rfl) (fun _ _ _ h=>h) (bc ⟨by rfl,?_⟩) ?_ ?_;rotate_left
     ·intro w';go_simp;with_reducible rfl
     rotate_left
     ·simp only[ay,ae,ah,ai,aJ,aK];rfl
     refine cY (i:=3) (N:=ag 23) (v:= ?_) (a':= ?_) #[af,af,af,af,ac,ac,ac,ac,ac,ac,ac,ac] rfl rfl (by kernel_rfl) (fun _ _ _ h=>h) (bc ⟨by rfl,?_⟩) ⟨gd,rfl⟩ ?_ ?_;rotate_left
     ·rintro w' ⟨g',rfl⟩;go_simp;with_reducible rfl
     rotate_left
     ·simp only[ay,ae,ah,ai,aJ,aK];rfl
     refine aP (i:=4) (N:=ag 24) (v:= ?_) (a':= ?_) #[af,af,af,af,af,ac,ac,ac,ac,ac,ac,ac] rfl rfl (by kernel_rfl) (fun _ _ _ h=>h) (bc ⟨by rfl,?_⟩) ?_ ?_;rotate_left
     ·intro w';go_simp;with_reducible rfl
     rotate_left
     ·simp only[ay,ae,ah,ai,aJ,aK];rfl
     refine aP (i:=5) (N:=ag 25) (v:= ?_) (a':= ?_) #[af,af,af,af,af,af,ac,ac,ac,ac,ac,ac] rfl rfl (by kernel_rfl) (fun _ _ _ h=>h) (bc ⟨by rfl,?_⟩) ?_ ?_;rotate_left
     ·intro w';go_simp;with_reducible rfl
     rotate_left
     ·simp only[ay,ae,ah,ai,aJ,aK];rfl
     refine aP (i:=6) (N:=ag 26) (v:= ?_) (a':= ?_) #[af,af,af,af,af,af,af,ac,ac,ac,ac,ac] rfl rfl (by kernel_rfl) (fun _ _ _ h=>h) (bc ⟨by rfl,?_⟩) ?_ ?_;rotate_left
     ·intro w';go_simp;with_reducible rfl
     rotate_left
     ·simp only[ay,ae,ah,ai,aJ,aK];rfl
     refine cY (i:=7) (N:=ag 27) (v:= ?_) (a':= ?_) #[af,af,af,af,af,af,af,af,ac,ac,ac,ac] rfl rfl (by kernel_rfl) (fun _ _ _ h=>h) (bc ⟨by rfl,?_⟩) ⟨gd,rfl⟩ ?_ ?_;rotate_left
     ·rintro w' ⟨g',rfl⟩;go_simp;with_reducible rfl
     rotate_left
     ·simp only[ay,ae,ah,ai,aJ,aK];rfl
     refine aP (i:=8) (N:=ag 28) (v:= ?_) (a':= ?_) #[af,af,af,af,af,af,af,af,af,ac,ac,ac] rfl rfl (by kernel_rfl) (fun _ _ _ h=>h) (bc ⟨by rfl,?_⟩) ?_ ?_;rotate_left
     ·intro w';go_simp;with_reducible rfl
     rotate_left
     ·simp only[ay,ae,ah,ai,aJ,aK];rfl
     refine kH (i:=9) (N:=ag 29) #[af,af,af,af,af,af,af,af,af,af,ac,ac] rfl rfl (by kernel_rfl) (by simp) (fun Kr hKr=> ?_);refine iP Tryz.func73 (by kernel_rfl) rfl #[.int .i64 wd,.int .u64 z] (by rfl) rfl rfl (by(try simp only[cd,cg,db]);first | done | rfl) ?_;refine(HT.out gd.W).mono ?_;rintro _ w9 ⟨rfl,hb⟩;refine⟨_,rfl,?_⟩;obtain⟨gd,rfl⟩:∃g':G _,w9=g'.W:=⟨mkG (gd.below.trans (hb.mono gd.below.size)),rfl⟩;clear hb;refine hKr.out _ _ ⟨gd,rfl⟩ (fun _=> ?_);clear hKr Kr;refine cW (a':= ?_) ?_ ?_;rotate_left
     ·show ay _ (ag 29) _ = _
      simp only[ay,ae,ah,ai,aJ,aK];rfl
     refine aP (i:=10) (N:=ag 30) (v:= ?_) (a':= ?_) #[af,af,af,af,af,af,af,af,af,af,af,ac] rfl rfl (by kernel_rfl) (fun _ _ _ h=>h) (bc ⟨by rfl,?_⟩) ?_ ?_;rotate_left
     ·intro w';go_simp;with_reducible rfl
     rotate_left
     ·simp only[ay,ae,ah,ai,aJ,aK];rfl
     refine o4 (i:=11) (N:=ak) #[af,af,af,af,af,af,af,af,af,af,af,af] rfl rfl (by kernel_rfl) (by simp) (fun Kr hKr=> ?_);refine skip_ (w1:=gd.W.setCell ⟨b,j,ak⟩ (.int .u64 y)) (by rfl) rfl (by first | (go_simp;done) | (go_simp;rfl)) ?_;refine hKr.out _ _ ?_;clear hKr Kr;refine iF (by kernel_rfl) ?_;clear p1 p2 p3 ez q0 hin8;have hr1:=HR.out.below gd.below;have HR1:=aa (show Row (gd.W.setCell ⟨b,j,ak⟩ (.int .u64 y)) base b c (lc.set j y)/\Kb base (ag ⟨b,0,ak⟩) wr (gd.W.setCell ⟨b,j,ak⟩ (.int .u64 y)) from⟨hr1.put j y,(Kb.of_below gd.below (bi HX.out.2.2.2.1 HXK.out.size)).trans (Kb.set hr1 j _)⟩);clear hr1;generalize gd.W.setCell ⟨b,j,ak⟩ (.int .u64 y)=w2 at HR1 ⊢;obtain⟨q2,-⟩:=HR1.out.1.cell (k:=j) (by rw[List.length_set,HB.out.1];have:=HV.out.2.2.2;omega);rw[nB (by rw[HB.out.1];have:=HV.out.2.2.2;omega)]at q2
     have HN:=aa (show(y=0->dZ wd may j (lc.set j y)=dZ wd may n l)/\(¬y=0->dZ wd may n l=ag (lc.set j y)) from by
      rw[←HB.out.2.2.2.1]
      show(_->_ =(if may.getD j ac=af then(if incW wd (lc.getD j 0)=0 then _ else ag (lc.set j (incW wd (lc.getD j 0))))else _))/\(_->(if may.getD j ac=af then(if incW wd (lc.getD j 0)=0 then _ else ag (lc.set j (incW wd (lc.getD j 0))))else _)= _)
      rw[←HV.out.2.2.1,if_pos rfl,←HY.out]
      exact⟨fun h=>by rw[if_pos h,h],fun h=>by rw[if_neg h]⟩)
     have hj1:(j:Int)<(n:Int):=by have:=HV.out.2.2.2;omega
     rcases aL (y==0)with h0 | h0
     ·go_wp2_with fail;refine⟨⟨_,j,lc.set j y,rfl,rfl,by have:=HV.out.2.2.2;omega,⟨by rw[List.length_set];exact HB.out.1,?_,RowO.of HR1.out.1,HN.out.1 (beq_iff_eq.1 h0),HB.out.2.2.2.2.trans HR1.out.2⟩⟩,by simp[intOf]⟩;rw[beq_iff_eq.1 h0];exact HB.out.2.1.set j (v:=0) (df w)
     ·have hn0:¬y=0:=fun h=>by rw[beq_iff_eq.2 h]at h0;exact absurd h0 (by decide)
      go_wp2_with fail;go_ret;rw[HN.out.2 hn0];exact⟨rfl,(fun l' h=>by injection h with h;subst h;exact RowO.of HR1.out.1),HXK.out.trans HR1.out.2⟩
end
section
set_option maxRecDepth 100000
def cnS (b:Bool)(P:List Bool):Nat->Int
 |0=>0
 |k+1=>cnS b P k+if P.getD k ac=b then 1 else 0
theorem lS (b:Bool)(P:List Bool):∀k:Nat,0<=cnS b P k/\cnS b P k<=k
 |0=>⟨Int.le_refl _,Int.le_refl _⟩
 |k+1=>by
  have:=lS b P k;unfold cnS
  split <;> omega
noncomputable def fS (nm:ByteArray)(wd ln:Int)(ds:List S70)(bd:List S119):Int × Int × Int:=(wd*cnS af (dH nm wd ln ds bd).1 (dH nm wd ln ds bd).1.length,wd*cnS ac (dH nm wd ln ds bd).1 (dH nm wd ln ds bd).1.length,(dH nm wd ln ds bd).2)
theorem fC {w k:Int}(h1:1<=w)(h2:w<=64)(h3:0<=k)(h4:k<=65536):0<=w*k/\w*k<=4194304:=by
 constructor
 ·exact Int.mul_nonneg (by omega) h3
 ·have:=Int.mul_le_mul h2 h4 h3 (by decide:(0:Int)<=64);omega
theorem inBits_calls (nm:ByteArray)(wd ln:Int)(ds:List S70)(bd:List S119)(A3:Option Addr)(c3:Nat)(A4:Option Addr)(c4:Nat)(W:World)(hp:ProgAt W ds bd A3 c3 A4 c4)(hg:PGood nm wd ln ds bd)(r:Int × Int × Int)(hr:r=fS nm wd ln ds bd):
 Calls au 20 #[.agg #[.string nm,.int .i64 wd,.int .i64 ln,.slice A3 ds.length c3,.slice A4 bd.length c4]] W fun e W'=>e=.returned (.tuple #[.int .i64 r.1,.int .i64 r.2.1,.int .i64 r.2.2])/\Below W.heap.size W W':=by
 obtain⟨pb,hpb⟩:∃b,b=W.heap.size:=⟨_,rfl⟩;obtain⟨X,hX⟩:∃X,X=W.alloc (.cells #[.string nm,.int .i64 wd,.int .i64 ln,.slice A3 ds.length c3,.slice A4 bd.length c4] 25):=⟨_,rfl⟩
 have hXB:Below W.heap.size W X:=by rw[hX];exact(ar _ _).alloc (aq _) _
 have hbp:X.heap[pb]? =ag (.cells #[.string nm,.int .i64 wd,.int .i64 ln,.slice A3 ds.length c3,.slice A4 bd.length c4] 25 (0,0)):=by rw[hX,hpb];exact aW _ _
 unfold fS at hr;have hpu:=jL nm wd ln ds bd A3 c3 A4 c4 X (hp.below hXB) hg;have hat:=dE nm wd ln ds bd;obtain⟨⟨P,er⟩,hle⟩:∃r,r=dH nm wd ln ds bd:=⟨_,rfl⟩;rw[←hle]at hr hpu hat;have HPU:=aa hpu;have HR:=aa hr;have HX:=aa (aj hXB hbp);have HAT:=aa hat;have HXE:=aa (aj hX hpb);have x0:X.cell? ⟨pb,0,ak⟩=ag (.string nm):=(aA hbp 0).trans rfl;have x1:X.cell? ⟨pb,1,ak⟩=ag (.int .i64 wd):=(aA hbp 1).trans rfl;have x2:X.cell? ⟨pb,2,ak⟩=ag (.int .i64 ln):=(aA hbp 2).trans rfl;have x3:X.cell? ⟨pb,3,ak⟩=ag (.slice A3 ds.length c3):=(aA hbp 3).trans rfl;have x4:X.cell? ⟨pb,4,ak⟩=ag (.slice A4 bd.length c4):=(aA hbp 4).trans rfl;clear hp hg hX hpb hXB hbp hr hle hpu hat;go_enter Tryz.func20,Tryz.ntmps20
 go_upto_region 1 with (fail)
 rw[←HXE.out.1,←HXE.out.2];go_wp2_with fail;refine HPU.out.mono ?_;rintro _ w1 ⟨v,rfl,hR,hb1⟩;obtain⟨Av,cv,hv⟩:=Kd.bN hR;subst hv
 have H1:=aa (aj hb1 (show fA w1 Av P from by
  obtain⟨A',c',e',-,hC⟩:=Kd.cO hR;injection e' with e'
  rw[e'];exact iW hC))
 clear hR hb1 x0 x1 x2 x3 x4
 by_cases hf:(bC nm wd ln ds bd).e=0
 ·obtain⟨m,hwm,hwd⟩:=(cZ hf).wd
  have hw1:1<=wd/\wd<=64:=by rw[hwm];unfold dP at hwd;omega
  have hq:=HAT.out.1 hf;injection hq with hq1 hq2
  have hn1:P.length<=65536:=by
   have h2:=fU (fun i hi=>cJ hf i hi) ds.length (aq _);have h3:=(cZ hf).few;rw[hq1];omega
  have hq2:er=0:=hq2;subst hq2;have HW1:=aa hw1;clear hq1 hwm hwd hf hw1;go_wp2_with fail
  go_loopw [7,8,21] (fun v1 v2 i W'=>∃(a b:Int) (k:Nat),v1=.int .i64 a/\v2=.int .i64 b/\i=.int .i64 k/\k<=P.length/\Aside0 (a=wd*cnS af P k/\b=wd*cnS ac P k/\Below w1.heap.size w1 W')) (fun _ _ i _=>P.length - (intOf i).toNat)
  case atStart=>exact⟨0,0,0,rfl,rfl,rfl,bk _,⟨by simp[cnS],by simp[cnS],ar _ _⟩⟩
  case round=>
   as_aux_lemma=>
    obtain⟨a,b,k,rfl,rfl,rfl,hk,HB⟩:=hrel
    by_cases hlt:k<P.length
    ·have hi1:(k:Int)<(P.length:Int):=by omega
     have hwx:wr.heap[pb]? =ag (.cells #[.string nm,.int .i64 wd,.int .i64 ln,.slice A3 ds.length c3,.slice A4 bd.length c4] 25 (0,0)):=aB HX.out.2 (H1.out.1.trans (HB.out.2.2.mono H1.out.1.size));have x1:wr.cell? ⟨pb,1,ak⟩=ag (.int .i64 wd):=(aA hwx 1).trans rfl;obtain⟨ad,e1,q0⟩:=H1.out.2 k hlt;cases e1;replace q0:=aE HB.out.2.2 q0
     obtain⟨ha1,ha2⟩:0<=a/\a<=4194304:=by
      have h:=lS af P k;rw[HB.out.1];exact fC HW1.out.1 HW1.out.2 h.1 (by omega)
     obtain⟨hb1,hb2⟩:0<=b/\b<=4194304:=by
      have h:=lS ac P k;rw[HB.out.2.1];exact fC HW1.out.1 HW1.out.2 h.1 (by omega)
     obtain⟨w1',w64'⟩:=HW1.out;obtain⟨q,hq⟩:∃q,q=P.getD k ac:=⟨_,rfl⟩;rw[←hq]at q0;have HQ:=aa hq;clear hq hwx
     cases q with
     |true=>
      go_wp2_with fail;refine⟨⟨_,_,k+1,rfl,rfl,by go_num,by omega,⟨?_,?_,HB.out.2.2⟩⟩,by simp[intOf];omega⟩
      ·rw[HB.out.1];show _ =wd*(cnS af P k+if P.getD k ac=af then 1 else 0);rw[←HQ.out,if_pos rfl,Int.mul_add,Int.mul_one]
      ·rw[HB.out.2.1];show _ =wd*(cnS ac P k+if P.getD k ac=ac then 1 else 0);rw[←HQ.out,if_neg (by decide),Int.add_zero]
     |false=>
      go_wp2_with fail;refine⟨⟨_,_,k+1,rfl,rfl,by go_num,by omega,⟨?_,?_,HB.out.2.2⟩⟩,by simp[intOf];omega⟩
      ·rw[HB.out.1];show _ =wd*(cnS af P k+if P.getD k ac=af then 1 else 0);rw[←HQ.out,if_neg (by decide),Int.add_zero]
      ·rw[HB.out.2.1];show _ =wd*(cnS ac P k+if P.getD k ac=ac then 1 else 0);rw[←HQ.out,if_pos rfl,Int.mul_add,Int.mul_one]
    ·have hkl:P.length=k:=by omega
     have hi1:¬(k:Int)<(P.length:Int):=by omega
     go_wp2_with fail;go_ret3;rw[HR.out];exact⟨by rw[HB.out.1,HB.out.2.1,←hkl];rfl,HX.out.1.trans ((H1.out.1.trans (HB.out.2.2.mono H1.out.1.size)).mono HX.out.1.size)⟩
 ·have hq:=HAT.out.2 hf;injection hq with hq1 hq2;replace hq1:P=[]:=hq1;replace hq2:er=(bC nm wd ln ds bd).e:=hq2
  have hne:¬er=0:=by rw[hq2];exact hf
  subst hq1;clear hq2 hf;go_wp2_with fail;go_ret3;rw[HR.out];exact⟨by simp[cnS],HX.out.1.trans (H1.out.1.mono HX.out.1.size)⟩
theorem lR (nm:ByteArray)(wd ln:Int)(ds:List S70)(bd:List S119)(A3:Option Addr)(c3:Nat)(A4:Option Addr)(c4:Nat)(W:World)(hp:ProgAt W ds bd A3 c3 A4 c4)(hg:PGood nm wd ln ds bd)(r:Int × Int × Int)(hr:r=fS nm wd ln ds bd):
 Calls au 22 #[.agg #[.string nm,.int .i64 wd,.int .i64 ln,.slice A3 ds.length c3,.slice A4 bd.length c4]] W fun e W'=>e=.returned (.tuple #[.int .i64 r.1,.int .i64 r.2.1,.int .i64 r.2.2])/\Below W.heap.size W W':=by
 obtain⟨pb,hpb⟩:∃b,b=W.heap.size:=⟨_,rfl⟩;obtain⟨X,hX⟩:∃X,X=W.alloc (.cells #[.string nm,.int .i64 wd,.int .i64 ln,.slice A3 ds.length c3,.slice A4 bd.length c4] 25):=⟨_,rfl⟩
 have hXB:Below W.heap.size W X:=by rw[hX];exact(ar _ _).alloc (aq _) _
 have hbp:X.heap[pb]? =ag (.cells #[.string nm,.int .i64 wd,.int .i64 ln,.slice A3 ds.length c3,.slice A4 bd.length c4] 25 (0,0)):=by rw[hX,hpb];exact aW _ _
 unfold fS at hr;have hpu:=jD nm wd ln ds bd A3 c3 A4 c4 X (hp.below hXB) hg;have hat:=dE nm wd ln ds bd;obtain⟨⟨P,er⟩,hle⟩:∃r,r=dH nm wd ln ds bd:=⟨_,rfl⟩;rw[←hle]at hr hpu hat;have HPU:=aa hpu;have HR:=aa hr;have HX:=aa (aj hXB hbp);have HAT:=aa hat;have HXE:=aa (aj hX hpb);have x0:X.cell? ⟨pb,0,ak⟩=ag (.string nm):=(aA hbp 0).trans rfl;have x1:X.cell? ⟨pb,1,ak⟩=ag (.int .i64 wd):=(aA hbp 1).trans rfl;have x2:X.cell? ⟨pb,2,ak⟩=ag (.int .i64 ln):=(aA hbp 2).trans rfl;have x3:X.cell? ⟨pb,3,ak⟩=ag (.slice A3 ds.length c3):=(aA hbp 3).trans rfl;have x4:X.cell? ⟨pb,4,ak⟩=ag (.slice A4 bd.length c4):=(aA hbp 4).trans rfl;clear hp hg hX hpb hXB hbp hr hle hpu hat;go_enter Tryz.func22,Tryz.ntmps22
 go_upto_region 1 with (fail)
 rw[←HXE.out.1,←HXE.out.2];go_wp2_with fail;refine HPU.out.mono ?_;rintro _ w1 ⟨v,rfl,hR,hb1⟩;obtain⟨Av,cv,hv⟩:=Kd.bN hR;subst hv
 have H1:=aa (aj hb1 (show fA w1 Av P from by
  obtain⟨A',c',e',-,hC⟩:=Kd.cO hR;injection e' with e'
  rw[e'];exact iW hC))
 clear hR hb1 x0 x1 x2 x3 x4
 by_cases hf:(bC nm wd ln ds bd).e=0
 ·obtain⟨m,hwm,hwd⟩:=(cZ hf).wd
  have hw1:1<=wd/\wd<=64:=by rw[hwm];unfold dP at hwd;omega
  have hq:=HAT.out.1 hf;injection hq with hq1 hq2
  have hn1:P.length<=65536:=by
   have h2:=fU (fun i hi=>cJ hf i hi) ds.length (aq _);have h3:=(cZ hf).few;rw[hq1];omega
  have hq2:er=0:=hq2;subst hq2;have HW1:=aa hw1;clear hq1 hwm hwd hf hw1;go_wp2_with fail
  go_loopw [7,8,9] (fun v1 v2 i W'=>∃(a b:Int) (k:Nat),v1=.int .i64 a/\v2=.int .i64 b/\i=.int .i64 k/\k<=P.length/\Aside0 (a=wd*cnS af P k/\b=wd*cnS ac P k/\Below w1.heap.size w1 W')) (fun _ _ i _=>P.length - (intOf i).toNat)
  case atStart=>exact⟨0,0,0,rfl,rfl,rfl,bk _,⟨by simp[cnS],by simp[cnS],ar _ _⟩⟩
  case round=>
   as_aux_lemma=>
    obtain⟨a,b,k,rfl,rfl,rfl,hk,HB⟩:=hrel
    by_cases hlt:k<P.length
    ·have hi1:(k:Int)<(P.length:Int):=by omega
     have hwx:wr.heap[pb]? =ag (.cells #[.string nm,.int .i64 wd,.int .i64 ln,.slice A3 ds.length c3,.slice A4 bd.length c4] 25 (0,0)):=aB HX.out.2 (H1.out.1.trans (HB.out.2.2.mono H1.out.1.size));have x1:wr.cell? ⟨pb,1,ak⟩=ag (.int .i64 wd):=(aA hwx 1).trans rfl;obtain⟨ad,e1,q0⟩:=H1.out.2 k hlt;cases e1;replace q0:=aE HB.out.2.2 q0
     obtain⟨ha1,ha2⟩:0<=a/\a<=4194304:=by
      have h:=lS af P k;rw[HB.out.1];exact fC HW1.out.1 HW1.out.2 h.1 (by omega)
     obtain⟨hb1,hb2⟩:0<=b/\b<=4194304:=by
      have h:=lS ac P k;rw[HB.out.2.1];exact fC HW1.out.1 HW1.out.2 h.1 (by omega)
     obtain⟨w1',w64'⟩:=HW1.out;obtain⟨q,hq⟩:∃q,q=P.getD k ac:=⟨_,rfl⟩;rw[←hq]at q0;have HQ:=aa hq;clear hq hwx
     cases q with
     |true=>
      go_wp2_with fail;refine⟨⟨_,_,k+1,rfl,rfl,by go_num,by omega,⟨?_,?_,HB.out.2.2⟩⟩,by simp[intOf];omega⟩
      ·rw[HB.out.1];show _ =wd*(cnS af P k+if P.getD k ac=af then 1 else 0);rw[←HQ.out,if_pos rfl,Int.mul_add,Int.mul_one]
      ·rw[HB.out.2.1];show _ =wd*(cnS ac P k+if P.getD k ac=ac then 1 else 0);rw[←HQ.out,if_neg (by decide),Int.add_zero]
     |false=>
      go_wp2_with fail;refine⟨⟨_,_,k+1,rfl,rfl,by go_num,by omega,⟨?_,?_,HB.out.2.2⟩⟩,by simp[intOf];omega⟩
      ·rw[HB.out.1];show _ =wd*(cnS af P k+if P.getD k ac=af then 1 else 0);rw[←HQ.out,if_neg (by decide),Int.add_zero]
      ·rw[HB.out.2.1];show _ =wd*(cnS ac P k+if P.getD k ac=ac then 1 else 0);rw[←HQ.out,if_pos rfl,Int.mul_add,Int.mul_one]
    ·have hkl:P.length=k:=by omega
     have hi1:¬(k:Int)<(P.length:Int):=by omega
     go_wp2_with fail;go_ret3;rw[HR.out];exact⟨by rw[HB.out.1,HB.out.2.1,←hkl];rfl,HX.out.1.trans ((H1.out.1.trans (HB.out.2.2.mono H1.out.1.size)).mono HX.out.1.size)⟩
 ·have hq:=HAT.out.2 hf;injection hq with hq1 hq2;replace hq1:P=[]:=hq1;replace hq2:er=(bC nm wd ln ds bd).e:=hq2
  have hne:¬er=0:=by rw[hq2];exact hf
  subst hq1;clear hq2 hf;go_wp2_with fail
  go_loopw [7,8,9] (fun v1 v2 i W'=>v1=.int .i64 0/\v2=.int .i64 0/\i=.int .i64 0/\Aside0 (Below w1.heap.size w1 W')) (fun _ _ _ _=>0)
  case atStart=>exact⟨rfl,rfl,rfl,⟨ar _ _⟩⟩
  case round=>
   obtain⟨rfl,rfl,rfl,HB⟩:=hrel;go_wp2_with fail;go_ret3;rw[HR.out];exact⟨by simp[cnS],HX.out.1.trans ((H1.out.1.trans (HB.out.mono H1.out.1.size)).mono HX.out.1.size)⟩
end
section
set_option maxRecDepth 100000
theorem leaks_calls (nm:ByteArray)(wd ln:Int)(ds:List S70)(bd:List S119)(A3:Option Addr)(c3:Nat)(A4:Option Addr)(c4:Nat)(W:World)(hp:ProgAt W ds bd A3 c3 A4 c4)(hg:PGood nm wd ln ds bd)(x y:List Int)(A B:Option Addr)(cA cB:Nat)(hx:bX W A x)(hy:bX W B y)(ux:∀v∈x,U64 v)(uy:∀v∈y,U64 v)(hcx:x.length<=cA)(hcy:y.length<=cB)(r:Bool × Int × Int)(hr:r=oU nm wd ln ds bd x y):
 Calls au 29 #[.agg #[.string nm,.int .i64 wd,.int .i64 ln,.slice A3 ds.length c3,.slice A4 bd.length c4],.slice A x.length cA,.slice B y.length cB] W fun e W'=>e=.returned (.tuple #[.bool r.1,.int .i64 r.2.1,.int .i64 r.2.2])/\Below W.heap.size W W':=by
 obtain⟨xb,hxb⟩:∃b,b=W.heap.size:=⟨_,rfl⟩;obtain⟨X,hX⟩:∃X,X=W.alloc (.cells #[.string nm,.int .i64 wd,.int .i64 ln,.slice A3 ds.length c3,.slice A4 bd.length c4] 25):=⟨_,rfl⟩
 have hXB:Below W.heap.size W X:=by rw[hX];exact(ar _ _).alloc (aq _) _
 have hbx:X.heap[xb]? =ag (.cells #[.string nm,.int .i64 wd,.int .i64 ln,.slice A3 ds.length c3,.slice A4 bd.length c4] 25 (0,0)):=by rw[hX,hxb];exact aW _ _
 unfold oU at hr;obtain⟨⟨l,er⟩,hle⟩:∃r,r=dH nm wd ln ds bd:=⟨_,rfl⟩;have hpu:=jL nm wd ln ds bd A3 c3 A4 c4 X (hp.below hXB) hg;rw[←hle]at hr hpu;have HPU:=aa hpu;have HLE:=aa hle;have HR:=aa hr;have HX:=aa (aj hXB (aj hbx (hp.below hXB)));have HI:=aa (aj (hx.below hXB) (aj (hy.below hXB) (aj ux uy)));have HRX:=aa (fun(W':World) (h:Below X.heap.size X W')=>run_calls nm wd ln ds bd A3 c3 A4 c4 W' ((hp.below hXB).below h) hg x A cA ((hx.below hXB).below h) ux hcx);have HRY:=aa (fun(W':World) (h:Below X.heap.size X W')=>run_calls nm wd ln ds bd A3 c3 A4 c4 W' ((hp.below hXB).below h) hg y B cB ((hy.below hXB).below h) uy hcy);have HSM:=aa (aj (gK nm wd ln ds bd x) (gK nm wd ln ds bd y));have HXE:=aa (aj hX hxb);have x0:X.cell? ⟨xb,0,ak⟩=ag (.string nm):=(aA hbx 0).trans rfl;have x1:X.cell? ⟨xb,1,ak⟩=ag (.int .i64 wd):=(aA hbx 1).trans rfl;have x2:X.cell? ⟨xb,2,ak⟩=ag (.int .i64 ln):=(aA hbx 2).trans rfl;have x3:X.cell? ⟨xb,3,ak⟩=ag (.slice A3 ds.length c3):=(aA hbx 3).trans rfl;have x4:X.cell? ⟨xb,4,ak⟩=ag (.slice A4 bd.length c4):=(aA hbx 4).trans rfl;clear hp hg hx hy ux uy hX hxb hXB hbx hr hle hpu hcx hcy;go_enter Tryz.func29,Tryz.ntmps29
 go_upto_region 1 with (fail)
 rw[←HXE.out.1,←HXE.out.2];go_wp2_with fail;refine HPU.out.mono ?_;rintro _ w1 ⟨v,rfl,hR,hb1⟩;obtain⟨Av,cv,hv⟩:=Kd.bN hR;subst hv
 have hbo:fA w1 Av l:=by
  obtain⟨A',c',e',-,hC⟩:=Kd.cO hR;injection e' with e';rw[e'];exact iW hC
 have H1:=aa (aj hb1 hbo);have HW1:=aa (HX.out.1.trans (hb1.mono HX.out.1.size));clear hR hb1 hbo x0 x1 x2 x3 x4
 by_cases he:er=0
 ·have HF:=aa (show(bC nm wd ln ds bd).e=0 from by
   by_cases h0:(bC nm wd ln ds bd).e=0
   ·exact h0
   ·have h:=HLE.out;rw[(dE nm wd ln ds bd).2 h0]at h;injection h with _ h
    exact absurd (h.symm.trans he) h0)
  have HWD:=aa (show 1<=wd from by
   obtain⟨m,e,h⟩:=(cZ HF.out).wd
   rw[e];unfold dP at h;omega)
  subst he
  by_cases hn:x.length=l.length/\y.length=l.length
  ·obtain⟨hnx,hny⟩:=hn;have HN:=aa (aj hnx hny);have hr2:=HR.out;rw[if_pos rfl,if_pos HN.out]at hr2;have HR2:=aa hr2
   have hl1:l.length<=65536:=by
    have h:=HLE.out;rw[(dE nm wd ln ds bd).1 HF.out]at h;injection h with h _;have h2:=fU (fun i hi=>cJ HF.out i hi) ds.length (aq _);have h3:=(cZ HF.out).few;rw[h];omega
   rw[hnx]at HRX ⊢;rw[hny]at HRY ⊢;clear hnx hny hr2;go_wp2_with fail
   go_loopw [41] (fun i W'=>∃k:Nat,i=.int .i64 k/\k<=l.length/\Aside0 (Below w1.heap.size w1 W'/\kS wd l x y k)) (fun i _=>l.length - (intOf i).toNat)
   case atStart=>exact⟨0,rfl,bk _,⟨ar _ _,kS.zero _ _ _ _⟩⟩
   case round=>
    obtain⟨k,rfl,hk,HB⟩:=hrel;have HXR:=aa (show Below X.heap.size X wr from H1.out.1.trans (HB.out.1.mono H1.out.1.size))
    by_cases hlt:k<l.length
    ·have hi1:(k:Int)<(l.length:Int):=by omega
     obtain⟨ad0,e0,q0⟩:=H1.out.2 k hlt;cases e0;obtain⟨ad1,e1,q1⟩:=HI.out.1 k (by rw[HN.out.1];exact hlt);cases e1;obtain⟨ad2,e2,q2⟩:=HI.out.2.1 k (by rw[HN.out.2];exact hlt);cases e2;replace q0:=aE HB.out.1 q0;replace q1:=aE HXR.out q1;replace q2:=aE HXR.out q2;have pw:∀g:G wr,g.W.cell? ⟨xb,1,ak⟩=ag (.int .i64 wd):=fun g=>(aA (aB (aB HX.out.2.1 HXR.out) g.below) 1).trans rfl;have HU:=aa (aj (lX HI.out.2.2.1 k) (lX HI.out.2.2.2 k));obtain⟨b,hb⟩:∃b,b=l.getD k ac:=⟨_,rfl⟩;obtain⟨u,hu⟩:∃b,b=x.getD k 0:=⟨_,rfl⟩;obtain⟨v,hv⟩:∃b,b=y.getD k 0:=⟨_,rfl⟩;rw[←hb]at q0;rw[←hu]at q1 HU;rw[←hv]at q2 HU;have HEQ:=aa (aj hb (aj hu hv));have p0:∀g:G wr,g.W.cell? (ad0.add k)=ag (.bool b):=fun g=>aE g.below q0;have p1:∀g:G wr,g.W.cell? (ad1.add k)=ag (.int .u64 u):=fun g=>aE g.below q1;have p2:∀g:G wr,g.W.cell? (ad2.add k)=ag (.int .u64 v):=fun g=>aE g.below q2;clear hb hu hv q1 q2
     cases b with
     |false=>
      go_wp2_with fail;refine aG ?_;intro gg;refine bT (by kernel_rfl) (by kernel_rfl) ?_
      repeat(go_big_quiet_step (first | (go_at_call 72;exact aD (trimI HWD.out (by first | exact HU.out.1 | exact HU.out.2) _))))
      refine wpQuiet_nil ?_;rintro _ ⟨gg,rfl⟩;go_wp2_with fail;refine⟨⟨k+1,by go_num,by omega,⟨HB.out.1.trans (gg.below.mono HB.out.1.size),HB.out.2.step fun h=> ?_⟩⟩,by simp[intOf];omega⟩;rw[←HEQ.out.1]at h;exact absurd h (by decide)
     |true=>
      rcases aL (qO wd u==qO wd v)with ht | ht
      ·go_wp2_with fail;refine aG ?_;intro gg;refine bT (by kernel_rfl) (by kernel_rfl) ?_
       repeat(go_big_quiet_step (first | (go_at_call 72;exact aD (trimI HWD.out (by first | exact HU.out.1 | exact HU.out.2) _))))
       refine wpQuiet_nil ?_;rintro _ ⟨gg,rfl⟩;go_wp2_with fail;refine⟨⟨k+1,by go_num,by omega,⟨HB.out.1.trans (gg.below.mono HB.out.1.size),HB.out.2.step fun h=> ?_⟩⟩,by simp[intOf];omega⟩;rw[←HEQ.out.2.1,←HEQ.out.2.2];exact beq_iff_eq.1 ht
      ·have HA:=aa (show r=(ac,0,1) from by
        rw[HR2.out,if_neg];intro h;have:=h k (by omega) HEQ.out.1.symm;rw[←HEQ.out.2.1,←HEQ.out.2.2]at this
        rw[beq_iff_eq.2 this]at ht;exact absurd ht (by decide))
       go_wp2_with fail;refine aG ?_;intro gg;refine bT (by kernel_rfl) (by kernel_rfl) ?_
       repeat(go_big_quiet_step (first | (go_at_call 72;exact aD (trimI HWD.out (by first | exact HU.out.1 | exact HU.out.2) _))))
       refine wpQuiet_nil ?_;rintro _ ⟨gg,rfl⟩;go_wp2_with fail;go_ret3;exact⟨by rw[HA.out];rfl,HW1.out.trans ((HB.out.1.trans (gg.below.mono HB.out.1.size)).mono HW1.out.size)⟩
    ·have hkl:k=l.length:=by omega
     subst hkl;have hr3:=HR2.out;rw[if_pos HB.out.2]at hr3;have HR3:=aa hr3;obtain⟨⟨er1,S,T⟩,hansx⟩:∃r,r=cN nm wd ln ds bd x:=⟨_,rfl⟩;obtain⟨⟨er2,S2,U⟩,hansy⟩:∃r,r=cN nm wd ln ds bd y:=⟨_,rfl⟩;rw[←hansx]at HRX HSM HR3;rw[←hansy]at HRY HSM HR3;clear hr3 hansx hansy;have x0:wr.cell? ⟨xb,0,ak⟩=ag (.string nm):=(aA (aB HX.out.2.1 HXR.out) 0).trans rfl;have x1:wr.cell? ⟨xb,1,ak⟩=ag (.int .i64 wd):=(aA (aB HX.out.2.1 HXR.out) 1).trans rfl;have x2:wr.cell? ⟨xb,2,ak⟩=ag (.int .i64 ln):=(aA (aB HX.out.2.1 HXR.out) 2).trans rfl;have x3:wr.cell? ⟨xb,3,ak⟩=ag (.slice A3 ds.length c3):=(aA (aB HX.out.2.1 HXR.out) 3).trans rfl;have x4:wr.cell? ⟨xb,4,ak⟩=ag (.slice A4 bd.length c4):=(aA (aB HX.out.2.1 HXR.out) 4).trans rfl;go_wp2_with fail;refine(HRX.out wr HXR.out).mono ?_;rintro _ w3 ⟨vS,vT,rfl,hE,hb⟩;obtain⟨⟨PS,pS,eS,-⟩,P,p,eT,hT⟩:=hE;replace eS:vS=.slice PS S.length pS:=eS;replace eT:vT=.slice P T.length p:=eT;subst eS eT;obtain⟨ab,hab⟩:∃b,b=w3.heap.size:=⟨_,rfl⟩;obtain⟨w4,hw4⟩:∃w',w'=w3.alloc (.cells #[.slice PS S.length pS,.slice P T.length p] 40):=⟨_,rfl⟩
     have hb4:Below w3.heap.size w3 w4:=by rw[hw4];exact(ar _ _).alloc (aq _) _
     have hk:w4.heap[ab]? =ag (.cells #[.slice PS S.length pS,.slice P T.length p] 40 (0,0)):=by rw[hw4,hab];exact aW _ _
     have H4:=aa (show Below wr.heap.size wr w4/\w4.heap[ab]? =ag (.cells #[.slice PS S.length pS,.slice P T.length p] 40 (0,0))/\lE.C w4 P T.length T from⟨hb.trans (hb4.mono hb.size),hk,Kd.aF hT hb4⟩);clear hb hb4 hk hT x0 x1 x2 x3 x4
     go_upto_region 13 with (fail)
     rw[←hab];rw[←hw4];clear hab hw4;have HX4:=aa (HXR.out.trans (H4.out.1.mono HXR.out.size));have x0:w4.cell? ⟨xb,0,ak⟩=ag (.string nm):=(aA (aB HX.out.2.1 HX4.out) 0).trans rfl;have x1:w4.cell? ⟨xb,1,ak⟩=ag (.int .i64 wd):=(aA (aB HX.out.2.1 HX4.out) 1).trans rfl;have x2:w4.cell? ⟨xb,2,ak⟩=ag (.int .i64 ln):=(aA (aB HX.out.2.1 HX4.out) 2).trans rfl;have x3:w4.cell? ⟨xb,3,ak⟩=ag (.slice A3 ds.length c3):=(aA (aB HX.out.2.1 HX4.out) 3).trans rfl;have x4:w4.cell? ⟨xb,4,ak⟩=ag (.slice A4 bd.length c4):=(aA (aB HX.out.2.1 HX4.out) 4).trans rfl;go_wp2_with fail;refine(HRY.out w4 HX4.out).mono ?_;rintro _ w5 ⟨vS,vT,rfl,hE,hb⟩;obtain⟨⟨QS,qS,eS,-⟩,Q,q,eT,hT⟩:=hE;replace eS:vS=.slice QS S2.length qS:=eS;replace eT:vT=.slice Q U.length q:=eT;subst eS eT;obtain⟨ob,hob⟩:∃b,b=w5.heap.size:=⟨_,rfl⟩;obtain⟨w6,hw6⟩:∃w',w'=w5.alloc (.cells #[.slice QS S2.length qS,.slice Q U.length q] 40):=⟨_,rfl⟩
     have hb4:Below w5.heap.size w5 w6:=by rw[hw6];exact(ar _ _).alloc (aq _) _
     have hk:w6.heap[ob]? =ag (.cells #[.slice QS S2.length qS,.slice Q U.length q] 40 (0,0)):=by rw[hw6,hob];exact aW _ _
     have H6:=aa (show Below w4.heap.size w4 w6/\w6.heap[ob]? =ag (.cells #[.slice QS S2.length qS,.slice Q U.length q] 40 (0,0))/\lE.C w6 Q U.length U from⟨hb.trans (hb4.mono hb.size),hk,Kd.aF hT hb4⟩);clear hb hb4 hk hT x0 x1 x2 x3 x4
     go_upto_region 14 with (fail)
     rw[←hob];rw[←hw6];clear hob hw6;have HX6:=aa (HX4.out.trans (H6.out.1.mono HX4.out.size));have HC6:=aa (aj (Kd.aF H4.out.2.2 H6.out.1) (aj H6.out.2.2 (aj (aB H4.out.2.1 H6.out.1) H6.out.2.1)));have a1:w6.cell? ⟨ab,1,ak⟩=ag (.slice P T.length p):=(aA HC6.out.2.2.1 1).trans rfl;have b1:w6.cell? ⟨ob,1,ak⟩=ag (.slice Q U.length q):=(aA HC6.out.2.2.2 1).trans rfl;obtain⟨⟨d1,d2⟩,hd⟩:∃r,r=difS T U:=⟨_,rfl⟩;have HDC:=aa (pG T U P Q p q w6 HC6.out.1 HC6.out.2.1 HSM.out.1 HSM.out.2 _ hd);have HD:=aa hd;clear hd;go_wp2_with fail;refine HDC.out.mono ?_;rintro _ w7 ⟨rfl,hb7⟩;have H7:=aa (show Below W.heap.size W w7/\lE.C w7 P T.length T/\lE.C w7 Q U.length U from⟨HX.out.1.trans ((HX6.out.trans (hb7.mono HX6.out.size)).mono HX.out.1.size),Kd.aF HC6.out.1 hb7,Kd.aF HC6.out.2.1 hb7⟩);clear a1 b1;have a1:w7.cell? ⟨ab,1,ak⟩=ag (.slice P T.length p):=(aA (aB HC6.out.2.2.1 hb7) 1).trans rfl;have b1:w7.cell? ⟨ob,1,ak⟩=ag (.slice Q U.length q):=(aA (aB HC6.out.2.2.2 hb7) 1).trans rfl;clear hb7
     rcases difS_cases T U with hdd | ⟨j,hdd⟩
     ·have hd2:=HD.out.trans hdd;injection hd2 with hd1 hd2;subst hd1 hd2;have HA:=aa (show r=(ac,0,0) from HR3.out.trans (pK hdd));clear hdd;go_wp2_with fail;go_ret3;exact⟨by rw[HA.out];rfl,H7.out.1⟩
     ·have hd2:=HD.out.trans hdd;injection hd2 with hd1 hd2;subst hd1 hd2;have HJ:=aa hdd;clear hdd
      by_cases h1:j<T.length
      ·have hi1:decide ((j:Int)<(T.length:Int))=af:=decide_eq_true (by omega)
       by_cases h2:j<U.length
       ·have hi2:decide ((j:Int)<(U.length:Int))=af:=decide_eq_true (by omega);obtain⟨ad1,e1,q0,-,-⟩:=lK H7.out.2.1 (j:Int) (by omega) (by omega);cases e1;obtain⟨ad2,e2,p0,-,-⟩:=lK H7.out.2.2 (j:Int) (by omega) (by omega);cases e2;rw[ax]at q0 p0;obtain⟨f,hf⟩:∃f,f=(fJ T (j:Int)).f0:=⟨_,rfl⟩;obtain⟨f',hf'⟩:∃f,f=(fJ U (j:Int)).f0:=⟨_,rfl⟩;rw[←hf]at q0;rw[←hf']at p0;have HFF:=aa (aj hf hf');clear hf hf'
        rcases aL (f==5)with h5 | h5
        ·rcases aL (f'==5)with h6 | h6
         ·have HA:=aa (show r=(ac,0,0) from HR3.out.trans (pT HJ.out ⟨h1,h2,by rw[←HFF.out.1];exact beq_iff_eq.1 h5,by rw[←HFF.out.2];exact beq_iff_eq.1 h6⟩));go_wp2_with fail;go_ret3;exact⟨by rw[HA.out];rfl,H7.out.1⟩
         ·have HA:=aa (show r=(af,(j:Int),0) from HR3.out.trans (eH HJ.out (fun h=>by have:=h.2.2.2;rw[←HFF.out.2]at this;rw[beq_iff_eq.2 this]at h6;exact absurd h6 (by decide))));go_wp2_with fail;go_ret3;exact⟨by rw[HA.out];rfl,H7.out.1⟩
        ·have HA:=aa (show r=(af,(j:Int),0) from HR3.out.trans (eH HJ.out (fun h=>by have:=h.2.2.1;rw[←HFF.out.1]at this;rw[beq_iff_eq.2 this]at h5;exact absurd h5 (by decide))));go_wp2_with fail;go_ret3;exact⟨by rw[HA.out];rfl,H7.out.1⟩
       ·have hi2:decide ((j:Int)<(U.length:Int))=ac:=decide_eq_false (by omega);have HA:=aa (show r=(af,(j:Int),0) from HR3.out.trans (eH HJ.out (fun h=>by exact h2 h.2.1)));go_wp2_with fail;go_ret3;exact⟨by rw[HA.out];rfl,H7.out.1⟩
      ·have hi1:decide ((j:Int)<(T.length:Int))=ac:=decide_eq_false (by omega);have HA:=aa (show r=(af,(j:Int),0) from HR3.out.trans (eH HJ.out (fun h=>by exact h1 h.1)));go_wp2_with fail;go_ret3;exact⟨by rw[HA.out];rfl,H7.out.1⟩
  ·have HA:=aa (show r=(ac,0,170) from by rw[HR.out,if_pos rfl,if_neg hn])
   by_cases hnx:x.length=l.length
   ·have hny:((y.length:Int)==(l.length:Int))=ac:=by
     rw[beq_eq_false_iff_ne];intro h;exact hn ⟨hnx,by omega⟩
    rw[hnx];clear hn hnx;go_wp2_with fail;go_ret3;exact⟨by rw[HA.out];rfl,HW1.out⟩
   ·have hnx':((x.length:Int)==(l.length:Int))=ac:=by
     rw[beq_eq_false_iff_ne];intro h;exact hnx (by omega)
    clear hn hnx;go_wp2_with fail;go_ret3;exact⟨by rw[HA.out];rfl,HW1.out⟩
 ·have HA:=aa (show r=(ac,0,er) from by rw[HR.out,if_neg he])
  have he0:(er==0)=ac:=by rw[beq_eq_false_iff_ne];exact he
  go_wp2_with fail;go_ret3;exact⟨by rw[HA.out];rfl,HW1.out⟩
end
section
set_option maxRecDepth 100000
theorem Row.keep {W W':World}{base b c:Nat}{l:List Int}(h:Row W base b c l)(hh:W'.heap[b]? =W.heap[b]?):Row W' base b c l:=Kd.R_step h (fun k hk _=>by rw[hk];exact hh)
end
noncomputable def partL (nm:ByteArray)(wd ln:Int)(ds:List S70)(bd:List S119)(x y:List Int):Bool × Int × Int:=iT (cN nm wd ln ds bd x).2.2 (cN nm wd ln ds bd y).2.2
structure S5 where
 is:Bool
 x:List Int
 y:List Int
 a:Int
 e:Int
def foundS:Option (List Int × List Int × Int)->S5
 |some (x,y,a)=>⟨af,x,y,a,0⟩
 |none=>⟨ac,[],[],0,0⟩
def jZ (wd:Int)(n:Nat):Nat:=(2 ^ wd.toNat) ^ n+1
noncomputable def lB (nm:ByteArray)(wd ln:Int)(ds:List S70)(bd:List S119)(most:Int):S5:=
 if(fS nm wd ln ds bd).2.2=0 then
  if most<0\/24<most then⟨ac,[],[],0,1⟩
  else if most<(fS nm wd ln ds bd).1+2*(fS nm wd ln ds bd).2.1 then⟨ac,[],[],0,290⟩
  else foundS (jF (partL nm wd ln ds bd) wd (fI ds ds.length).length (fI ds ds.length) (jZ wd (fI ds ds.length).length) (jZ wd (fI ds ds.length).length) (bg (fI ds ds.length).length 0))
 else⟨ac,[],[],0,(fS nm wd ln ds bd).2.2⟩
def rdRow (W:World)(A:Option Addr)(n:Nat):List Int:=(bu n).map fun k=>match A with
 |some a=>match W.cell? (a.add k)with
  |some (.int _ v)=>v
  |_=>0
 |none=>0
theorem iY {W:World}{A:Option Addr}{l:List Int}(h:bX W A l):rdRow W A l.length=l:=by
 unfold rdRow
 conv=>rhs;rw[←range_self l]
 refine List.map_congr_left fun k hk=> ?_;obtain⟨ad,e,q⟩:=h k (jg.1 hk);subst e;simp only[q]
theorem lY (n:Nat)(P:List Bool)(x:List Int):(dU n P x).length=n:=by simp[dU]
theorem startS_at {n:Nat}{P:List Bool}{x:List Int}{k:Nat}(h:k<n):(dU n P x).getD k 0=if P.getD k ac=af then x.getD k 0 else 0:=by
 unfold dU;rw[aw,jb,List.getElem?_range h];rfl
theorem startS_inw {w n:Nat}{P:List Bool}{x:List Int}(h:InW w x):InW w (dU n P x):=fun i=>by
 by_cases hi:i<n
 ·rw[startS_at hi]
  split
  ·exact h i
  ·exact⟨0,rfl,df w⟩
 ·refine⟨0,?_,df w⟩;rw[aw,dg (by rw[lY];omega)];rfl
theorem zeros_inw (w n:Nat):InW w (bg n (0:Int)):=fun i=>⟨0,by
 rw[aw,List.getElem?_replicate]
 split <;> rfl,df w⟩
def zerK (n:Nat)(P:List Bool)(x:List Int)(k:Nat):List Int:=(bu n).map fun i=>if i<k/\P.getD i ac=ac then 0 else x.getD i 0
theorem l8 (n:Nat)(P:List Bool)(x:List Int)(k:Nat):(zerK n P x k).length=n:=by simp[zerK]
theorem zerK_zero {n:Nat}(P:List Bool){x:List Int}(h:x.length=n):zerK n P x 0=x:=by
 subst h;unfold zerK;rw[show(fun i=>if i<0/\P.getD i ac=ac then 0 else x.getD i 0)=fun i=>x.getD i 0 from by funext i;simp];exact range_self x
theorem zerK_full (n:Nat)(P:List Bool)(x:List Int):zerK n P x n=dU n P x:=by
 unfold zerK dU;refine List.map_congr_left fun i hi=> ?_;have:=jg.1 hi
 cases h:P.getD i ac <;> simp[this]
theorem zerK_step {n:Nat}{P:List Bool}{x:List Int}{k:Nat}(hk:k<n):zerK n P x (k+1)=if P.getD k ac=ac then(zerK n P x k).set k 0 else zerK n P x k:=by
 have e:∀m i,i<n->(zerK n P x m)[i]? =ag (if i<m/\P.getD i ac=ac then 0 else x.getD i 0):=fun m i hi=>by
  unfold zerK;rw[jb,List.getElem?_range hi];rfl
 have e':∀m i,¬i<n->(zerK n P x m)[i]? =ak:=fun m i hi=>dg (by rw[l8];omega)
 by_cases hp:P.getD k ac=ac
 ·rw[if_pos hp];apply List.ext_getElem?;intro i;rw[jr]
  by_cases hi:i<n
  ·rw[e _ _ hi,e _ _ hi]
   by_cases hki:k=i
   ·subst hki;simp only[l8,hk,hp]
    simp
   ·have h2:i<k+1 ↔ i<k:=by omega
    rw[if_neg hki];simp only[h2]
  ·rw[e' _ _ hi,e' _ _ hi,if_neg (by omega)]
 ·rw[if_neg hp];apply List.ext_getElem?;intro i
  by_cases hi:i<n
  ·rw[e _ _ hi,e _ _ hi]
   by_cases hki:k=i
   ·subst hki;rw[if_neg (fun h=>hp h.2),if_neg (fun h=>hp h.2)]
   ·have h2:i<k+1 ↔ i<k:=by omega
    simp only[h2]
  ·rw[e' _ _ hi,e' _ _ hi]
theorem RowO.kb {W W':World}{base base' c:Nat}{A A':Option Addr}{l:List Int}(h:RowO W base A c l)(hk:Kb base' A' W W')(hne:∀b b',A=ag ⟨b,0,ak⟩->A'=ag ⟨b',0,ak⟩->b≠b'):RowO W' base A c l:=by
 have hh:∀b,A=ag ⟨b,0,ak⟩->W'.heap[b]? =W.heap[b]? :=fun b e=>by
  obtain⟨cs,hc⟩:=h.typed b e;exact hk.blk b (aX hc) (fun b' e'=>hne b b' e e')
 refine⟨fun b e=>(h.typed b e).imp fun cs k=>(hh b e).trans k,?_,?_⟩
 ·rcases h.row with rfl | ⟨b,rfl,hr⟩
  ·exact⟨rfl,by simp,fun h=>absurd h (Nat.lt_irrefl 0)⟩
  ·exact(hr.keep (hh b rfl)).C.2
 ·rcases h.row with h0 | ⟨b,e,hr⟩
  ·exact bc h0
  ·exact Or.inr ⟨b,e,hr.keep (hh b e)⟩
theorem TrR.kb {W W':World}{base':Nat}{A:Option Addr}{v:Value}{T:List S101}(h:TrR W v T)(hk:Kb base' A W W')(hA:∀b,A=ag ⟨b,0,Option.none⟩->∃cs,W.heap[b]? =ag (.cells cs 74 (0,0))):TrR W' v T:=by
 obtain⟨b,ok,hr⟩:=h;refine⟨b,_,Kd.R_step (Kd.d7 hr) fun k hk1 hk2=> ?_⟩;obtain⟨_,_,_,q,hq,cells,hc⟩:=hk1;rw[E101 hq]at hc;exact(hk.keep hA hc (by decide)).trans hc.symm
theorem TrR.C {W:World}{A:Option Addr}{c:Nat}{T:List S101}(h:TrR W (.slice A T.length c) T):lE.C W A T.length T:=by
 obtain⟨b,ok,hr⟩:=h;obtain⟨A',c',e,_,hC⟩:=Kd.cO hr;injection e with e1;subst e1;exact hC
theorem Kb.new {W W1 W2:World}{base:Nat}{A A':Option Addr}(h:Kb base A W W1)(k:Kb base A' W1 W2)(hA:∀b,A'=ag ⟨b,0,ak⟩->W.heap.size<=b):Kb base A W W2:=⟨h.low.trans k.low,bi h.size k.size,fun g hg hn=>(k.blk g (br hg h.size) fun b e=>by
 have:=hA b e
 omega).trans (h.blk g hg hn)⟩
theorem mS {L:List Int->List Int->Bool × Int × Int}{w:Int}{n:Nat}{may:List Bool}{x y:List Int}{f:Nat}:kJ L w n may x (f+1) y=if(L x y).1=af then ag (y,(L x y).2.1)else match dZ w may n y with
 |none=>ak
 |some y'=>kJ L w n may x f y':=rfl
theorem kR {L:List Int->List Int->Bool × Int × Int}{w:Int}{n:Nat}{P:List Bool}{G:Nat}{x:List Int}{f:Nat}:jF L w n P G (f+1) x=match kJ L w n (P.map (! ·)) x G (dU n P x)with
 |some (y,at_)=>ag (x,y,at_)
 |none=>match dZ w (P.map fun _=>af) n x with
  |none=>ak
  |some x'=>jF L w n P G f x':=rfl
end Go.Proofs.YtfigjpehecibeaaGreat.L
