/- Texts joined by a program of mine: Na Rh Xb Xc Xd Rl Xe. -/
import Derived.Test.YtfigjpehecibeaaGreatZf2
import Derived.Test.YtfigjpehecibeaaGreatZf5
import Derived.Test.YtfigjpehecibeaaGreatZf8
import Derived.Test.YtfigjpehecibeaaGreatZf9
import Derived.Test.YtfigjpehecibeaaGreatZf10
open And renaming intro -> ac
open Bool renaming true -> af, false -> J
open Go.Act renaming put -> aw
open Go.Proofs.Tryz renaming prog -> ar, underlying74 -> jp
open Go.Proofs.YtfigjpehecibeaaGreatW.PrintWords.Aside0 renaming mk -> I
open Go.RowKit.Below renaming refl -> ak, alloc -> ig, drew -> fz
open Go.Value renaming bool -> gr, int -> az
open Int renaming toNat_natCast -> au, eq_ofNat_of_zero_le -> dq
open List renaming length_replicate -> iy, replicate -> br, append_nil -> df, setIfInBounds_toArray -> aa, set_cons_zero -> ag, set_cons_succ -> ah
open Nat renaming le_refl -> aj, zero_le -> bg, min_eq_right -> ib, min_eq_left -> cq, le_trans -> bk, le_succ -> iw, not_lt_zero -> ck, mul_one -> gh, add_zero -> fe
open Option renaming some -> ae, none -> ai, map_eq_some_iff -> ik
open Or renaming inl -> bc
set_option linter.unusedVariables false
set_option linter.unusedSimpArgs false
set_option maxHeartbeats 8000000
namespace Go.Proofs.YtfigjpehecibeaaGreat.L
open Go.RowKit Bm C Go.Maps Go.Proofs.YtfigjpehecibeaaGreatW.PrintWords Go.Proofs.YtfigjpehecibeaaGreatW.PrintLast Go.Proofs.YtfigjpehecibeaaGreatW.PrintMore Go.Proofs.YtfigjpehecibeaaGreat.Gr
section
set_option maxRecDepth 100000
theorem bool_lit (W:World)(b:Bool):Kd.bool.C (W.alloc (.cells #[.bool b] 4)) (ae ⟨W.heap.size,0,ai⟩) 1 [b]:=
 (Kd.oT (n:=1) (c:=1) (show Kd.bool.R 4 (W.alloc (.cells #[.bool b] 4)) W.heap.size (fun _=>True) (.slice (ae ⟨W.heap.size,0,ai⟩) 1 1) [b] from⟨fun _ _=>trivial,[.bool b],own_lit_of (enc:=gr) W W.heap.size 4 [b] (aj _) (by simp),fX.one rfl (fX.none _ _)⟩)).2.2
theorem lE {a b c:World}(h:Below a.heap.size a b)(k:Below b.heap.size b c):Below a.heap.size a c:=h.trans (k.mono h.size)
theorem lit_at {W V U:World}{b:Bool}(h:Below (W.alloc (.cells #[.bool b] 4)).heap.size (W.alloc (.cells #[.bool b] 4)) V)(k:Below V.heap.size V U):Kd.bool.C U (ae ⟨W.heap.size,0,ai⟩) 1 [b]:=Kd.aF (bool_lit W b) (lE h k)
theorem n9 (nm:ByteArray)(wd ln:Int)(ds:List S70)(bd:List S119)(A3:Option Addr)(c3:Nat)(A4:Option Addr)(c4:Nat)(W:World)(hp:ProgAt W ds bd A3 c3 A4 c4)(hg:PGood nm wd ln ds bd):
 Calls ar 17 #[.agg #[.string nm,.int .i64 wd,.int .i64 ln,.slice A3 ds.length c3,.slice A4 bd.length c4]] W fun e W'=>∃v,e=.returned (.tuple #[v,.int .i64 (d6 nm wd ln ds bd).2])/\Kd.bool.R 4 W' W.heap.size (fun _=>True) v (d6 nm wd ln ds bd).1/\Below W.heap.size W W':=by
 obtain⟨xb,hxb⟩:∃b,b=W.heap.size:=⟨_,rfl⟩
 obtain⟨n,hn⟩:∃n,n=ds.length:=⟨_,rfl⟩
 obtain⟨X,hX⟩:∃X,X=W.alloc (.cells #[.string nm,.int .i64 wd,.int .i64 ln,.slice A3 ds.length c3,.slice A4 bd.length c4] 25):=⟨_,rfl⟩
 have hXB:Below W.heap.size W X:=by rw[hX];exact(ak _ _).alloc (aj _) _
 have hbx:X.heap[xb]? =ae (.cells #[.string nm,.int .i64 wd,.int .i64 ln,.slice A3 ds.length c3,.slice A4 bd.length c4] 25 (0,0)):=by rw[hX,hxb];exact aY _ _
 obtain⟨r,hr⟩:∃r,r=bF nm wd ln ds bd:=⟨_,rfl⟩
 have HCK:=I (qD nm wd ln ds bd A3 c3 A4 c4 X (hp.below hXB) hg r hr)
 have hn1:n<=1048576:=by rw[hn];exact hg.sizes.1
 have hd:=hp.hd
 rw[←hn]at HCK hbx hX hd ⊢
 have HX:=I (ac hXB (ac hbx (ac hd (ac hn (ac hr hxb)))))
 have HXE:=I (ac hX hxb)
 have x0:X.cell? ⟨xb,0,ai⟩=ae (.string nm):=(aA hbx 0).trans rfl
 have x1:X.cell? ⟨xb,1,ai⟩=ae (.int .i64 wd):=(aA hbx 1).trans rfl
 have x2:X.cell? ⟨xb,2,ai⟩=ae (.int .i64 ln):=(aA hbx 2).trans rfl
 have x3:X.cell? ⟨xb,3,ai⟩=ae (.slice A3 n c3):=(aA hbx 3).trans rfl
 have x4:X.cell? ⟨xb,4,ai⟩=ae (.slice A4 bd.length c4):=(aA hbx 4).trans rfl
 clear hp hg hX hxb hXB hbx hr hd hn
 go_enter Tryz.func17,Tryz.ntmps17
 go_upto_region 1 with (fail)
 rw[←HXE.out.1,←HXE.out.2]
 go_wp2_with fail
 refine HCK.out.mono ?_
 rintro _ w1 ⟨rfl,hb1⟩
 have H1:=I hb1
 clear x0 x1 x2 x3 x4 hb1
 by_cases he:r.e=0
 ·have HF:=I (show(bF nm wd ln ds bd).e=0 from by rw[←HX.out.2.2.2.2.1];exact he)
  have he0:(r.e==0)=af:=beq_iff_eq.2 he
  have x3:w1.cell? ⟨xb,3,ai⟩=ae (.slice A3 n c3):=(aA (aD HX.out.2.1 H1.out) 3).trans rfl
  go_wp2_with fail
  clear x3
  go_loopw [5,16] (fun o i W'=>∃(k:Nat) (vo:Value),vo=o/\i=.int .i64 k/\k<=n/\Aside0 (Below X.heap.size X W'/\Kd.bool.R 4 W' X.heap.size (fun _=>True) vo (gU ds k))) (fun _ i _=>n - (intOf i).toNat)
  case atStart=>exact⟨0,_,rfl,rfl,bg _,⟨H1.out,Kd.jN _ _ _ _ _⟩⟩
  case round=>
   obtain⟨k,vo,rfl,rfl,hk,HB⟩:=hrel
   by_cases hlt:k<n
   ·have hlt2:(k:Int)<(n:Int):=by omega
    have hw0:=HX.out.1.trans (HB.out.1.mono HX.out.1.size)
    obtain⟨ad,A9,c9,e1,q0,q1,q2,q3,l9,g9⟩:=dW HX.out.2.2.1 (k:Int) (by omega) (by omega)
    cases e1
    rw[au]at q0 q1 q2 q3
    have hkd:k<ds.length:=by rw[←HX.out.2.2.2.1];exact hlt
    have RD:=dO HF.out k hkd
    have PL:=lC (fun i hi=>dO HF.out i hi) k (Nat.le_of_lt hkd)
    obtain⟨d,hd⟩:∃d,d=aI ds (k:Int):=⟨_,rfl⟩
    have PS:gU ds (k+1)=gU ds k++pubD d:=by rw[hd];rfl
    rw[←hd]at q0 q1 q2 q3 l9 g9 RD
    have p0:=aE hw0 q0
    have p1:=aE hw0 q1
    have p2:=aE hw0 q2
    have p3:=aE hw0 q3
    obtain⟨wn,w2,w3⟩:=gT RD.2
    obtain⟨nw,hnw⟩:=dq (show 0<=cO d by omega)
    obtain⟨Wi,hWi⟩:∃Wi,Wi=wr.alloc (.cells #[.int .i64 d.f0,.string d.f1,.int .i64 d.f2,.slice A9 d.f3.length c9] 70):=⟨_,rfl⟩
    obtain⟨gb,hgb⟩:∃b,b=wr.heap.size:=⟨_,rfl⟩
    have hWB:Below wr.heap.size wr Wi:=by rw[hWi];exact(ak _ _).alloc (aj _) _
    have hbw:Wi.heap[gb]? =ae (.cells #[.int .i64 d.f0,.string d.f1,.int .i64 d.f2,.slice A9 d.f3.length c9] 70 (0,0)):=by rw[hWi,hgb];exact aY _ _
    have hXW:=HB.out.1.trans (hWB.mono HB.out.1.size)
    have HW:=I (ac hXW (ac hbw (ac (Kd.bK HB.out.2 hWB) (ac g9 (ac l9 (ac hnw.symm (ac RD.2 (ac PS PL))))))))
    have hk0:=RD.1
    have hnw1:nw<=256:=by omega
    have PLK:=I (show(gU ds k).length<=268435456 by omega)
    clear q0 q1 q2 q3 l9 g9 hd hkd RD PS PL wn w2 w3 hnw hWB hbw hXW hw0
    go_upto_region 8 with (fail)
    rw[←hgb]
    rw[←hWi]
    clear hWi hgb p0 p1 p2 p3
    have HBW:=I (show ∀g:G Wi,g.W.heap[gb]? =ae (.cells #[.int .i64 d.f0,.string d.f1,.int .i64 d.f2,.slice A9 d.f3.length c9] 70 (0,0)) from fun g=>aD HW.out.2.1 g.below)
    have b0:∀g:G Wi,g.W.cell? ⟨gb,0,ai⟩=ae (.int .i64 d.f0):=fun g=>(aA (HBW.out g) 0).trans rfl
    have b1:∀g:G Wi,g.W.cell? ⟨gb,1,ai⟩=ae (.string d.f1):=fun g=>(aA (HBW.out g) 1).trans rfl
    have b2:∀g:G Wi,g.W.cell? ⟨gb,2,ai⟩=ae (.int .i64 d.f2):=fun g=>(aA (HBW.out g) 2).trans rfl
    have b3:∀g:G Wi,g.W.cell? ⟨gb,3,ai⟩=ae (.slice A9 d.f3.length c9):=fun g=>(aA (HBW.out g) 3).trans rfl
    have HC9:=I (show ∀W',Below Wi.heap.size Wi W'->(Kd.int .u64).C W' A9 d.f3.length d.f3 from fun W' h=>Kd.aF HW.out.2.2.2.1 (HX.out.1.trans ((HW.out.1.trans (h.mono HW.out.1.size)).mono HX.out.1.size)))
    refine aG ?_
    intro gg
    obtain⟨inb,hin⟩:∃b,b=decide (d.f0=1\/d.f0=2):=⟨_,rfl⟩
    go_wp2_with fail
    refine(aC (g:=gg) (input_v hin A9 c9 gg.W (HC9.out _ gg.below) HW.out.2.2.2.2.1)).mono ?_
    rintro _ _ ⟨rfl,gg,rfl⟩
    by_cases hi1:d.f0=1\/d.f0=2
    ·have HI1:=I hi1
     rw[decide_eq_true hi1]at hin
     subst hin
     obtain⟨b,hbb⟩:∃b,(d.f0==1)=b:=⟨_,rfl⟩
     have HBB:=I hbb
     clear hi1
     have HNW:=I (show 1<=nw/\nw<=256 from⟨by have:=(gT HW.out.2.2.2.2.2.2.1).2;have:=HW.out.2.2.2.2.2.1;omega,hnw1⟩)
     have HVO:=I (show Kd.bool.R 4 gg.W X.heap.size (fun _=>True) vo (gU ds k)/\Below X.heap.size X gg.W from⟨Kd.bK HW.out.2.2.1 gg.below,HW.out.1.trans (gg.below.mono HW.out.1.size)⟩)
     have LEN:=I (show((gU ds k).length+nw)*1<=140737488355328 by have:=PLK.out;omega)
     have HBX:=I (HBW.out gg)
     have HC0:=I (HC9.out _ gg.below)
     have CF:=I (show ∀w':World,w'.heap[gb]? =ae (.cells #[.int .i64 d.f0,.string d.f1,.int .i64 d.f2,.slice A9 d.f3.length c9] 70 (0,0))->w'.cell? ⟨gb,0,ai⟩=ae (.int .i64 d.f0)/\w'.cell? ⟨gb,1,ai⟩=ae (.string d.f1)/\w'.cell? ⟨gb,2,ai⟩=ae (.int .i64 d.f2)/\w'.cell? ⟨gb,3,ai⟩=ae (.slice A9 d.f3.length c9) from fun w' h=>⟨(aA h 0).trans rfl,(aA h 1).trans rfl,(aA h 2).trans rfl,(aA h 3).trans rfl⟩)
     obtain⟨c0,c1,c2,c3⟩:=CF.out gg.W.drew HBX.out
     go_upto_region 9 with (fail)
     clear b0 b1 b2 b3
     go_region_held3 (fun w'=>w'.cell? ⟨gb,0,ai⟩=ae (.int .i64 d.f0)/\w'.cell? ⟨gb,1,ai⟩=ae (.string d.f1)/\w'.cell? ⟨gb,2,ai⟩=ae (.int .i64 d.f2)/\w'.cell? ⟨gb,3,ai⟩=ae (.slice A9 d.f3.length c9))
      (first | exact CF.out _ hx5 | exact CF.out _ hx4 | exact CF.out _ hx3 | exact CF.out _ HBX.out | exact CF.out _ (aD hx3 (by first | exact ak _ _ | exact ig (ak _ _) (aj _) _ | exact fz (ak _ _) | exact fz (ig (ak _ _) (aj _) _) | exact fz (ig (fz (ak _ _)) (aj _) _))) | exact CF.out _ (aD HBX.out (by first | exact ak _ _ | exact ig (ak _ _) (aj _) _ | exact fz (ak _ _) | exact fz (ig (ak _ _) (aj _) _) | exact fz (ig (fz (ak _ _)) (aj _) _))))
      (first | (go_at_call 63;refine(words_v HW.out.2.2.2.2.2.2.1 HW.out.2.2.2.2.2.1 A9 c9 _ (Kd.aF HC0.out (by first | exact ak _ _ | exact ig (ak _ _) (aj _) _ | exact fz (ak _ _) | exact fz (ig (ak _ _) (aj _) _) | exact fz (ig (fz (ak _ _)) (aj _) _))) HW.out.2.2.2.2.1).mono ?_;rintro _ w3 ⟨rfl,hb3⟩;have hB3:Below gg.W.heap.size gg.W w3:=lE (by first | exact ak _ _ | exact ig (ak _ _) (aj _) _ | exact fz (ak _ _) | exact fz (ig (ak _ _) (aj _) _) | exact fz (ig (fz (ak _ _)) (aj _) _)) hb3;have hx3:=aD HBX.out hB3;first | (have hl3:=lit_at (W:=gg.W) (b:=b) (fz (ak _ _)) hb3) | (have hl3:=lit_at (W:=gg.W) (b:=b) (ak _ _) hb3) | skip) | (go_at_call 62;(first | (refine(oA b nw HNW.out.1 HNW.out.2 (ae ⟨gg.W.heap.size,0,ai⟩) 1 w3 hl3 (by simp)).mono ?_) | (refine(oA b nw HNW.out.1 HNW.out.2 (ae ⟨w3.heap.size,0,ai⟩) 1 _ (lit_at (W:=w3) (b:=b) (by first | exact ak _ _ | exact ig (ak _ _) (aj _) _ | exact fz (ak _ _) | exact fz (ig (ak _ _) (aj _) _) | exact fz (ig (fz (ak _ _)) (aj _) _)) (ak _ _)) (by simp)).mono ?_));rintro _ w4 ⟨vr,rfl,hvr,hb4⟩;obtain⟨Ar,cr,hv,lr,hcr⟩:=Kd.dF hvr;subst hv;rw[iy]at lr hcr ⊢;have hB4:Below gg.W.heap.size gg.W w4:=lE hB3 (lE (by first | exact ak _ _ | exact ig (ak _ _) (aj _) _ | exact fz (ak _ _) | exact fz (ig (ak _ _) (aj _) _) | exact fz (ig (fz (ak _ _)) (aj _) _)) hb4);have hx4:=aD HBX.out hB4;clear hvr) | (refine Kd.dN Kd.bool (Rr:=Kd.bool.K w4) (w0:=X) X.heap.size (by rfl) (.tmp 22) (.tmp 29) 30 4 (.bool J) 1 rfl under30 info4 rfl (show 0<1 by decide) (by decide) vo (gU ds k) (br nw b) Ar nw cr (fun _=>True) (fun _=>False) (by rfl) (by rfl) (Kd.bK HVO.out.1 hB4) hcr (fun _ _ h=>h) (fun _ h=>h.elim) (fun _ _=>trivial) (lE HVO.out.2 hB4) (lE HVO.out.2 hB4).size LEN.out ?_;intro v1 u1 hr1 hb1 hg1 hat1;have hx5:=fH hx4 hg1 (Kd.R_ne (Kd.bK HVO.out.1 hB4) hx4 (by decide))))
     all_goals(
      have HN:=I (show Below X.heap.size X u1/\Kd.bool.R 4 u1 X.heap.size (fun _=>True) v1 (gU ds (k+1)) from⟨hb1,by rw[HW.out.2.2.2.2.2.2.2.1,pubD,if_pos HI1.out,←HW.out.2.2.2.2.2.1,au,HBB.out];exact hr1⟩)
      clear hr1 hb1 hg1 hat1 hbb
      go_wp2_with fail
      go_roundw
      case measure=>simp[intOf];omega
      case rel=>exact⟨k+1,_,rfl,show _ =az .i64 ((k+1:Nat):Int) from by go_num,by omega,HN⟩)
    ·have HN:=I (show Below X.heap.size X gg.W/\Kd.bool.R 4 gg.W X.heap.size (fun _=>True) vo (gU ds (k+1)) from⟨HW.out.1.trans (gg.below.mono HW.out.1.size),by rw[HW.out.2.2.2.2.2.2.2.1,pubD,if_neg hi1,df];exact Kd.bK HW.out.2.2.1 gg.below⟩)
     rw[decide_eq_false hi1]at hin
     subst hin
     clear hi1 b0 b1 b2 b3
     go_wp2_with fail
     go_roundw
     case measure=>simp[intOf];omega
     case rel=>exact⟨k+1,_,rfl,show _ =az .i64 ((k+1:Nat):Int) from by go_num,by omega,HN⟩
   ·have hkn:k=n:=by omega
    have HKN:=I hkn
    have hge:¬(k:Int)<(n:Int):=by omega
    clear hkn
    go_wp2_with fail
    go_ret2
    have ha:=(gL nm wd ln ds bd).1 HF.out
    refine⟨vo,?_,?_,HX.out.1.trans (HB.out.1.mono HX.out.1.size)⟩
    ·rw[ha];rfl
    ·rw[ha,←HX.out.2.2.2.1,←HKN.out];exact Kd.fJ HB.out.2 HX.out.1.size
 ·have HF:=I (show ¬(bF nm wd ln ds bd).e=0 from by rw[←HX.out.2.2.2.2.1];exact he)
  go_wp2_with fail
  go_ret2
  have ha:=(gL nm wd ln ds bd).2 HF.out
  refine⟨.slice ai 0 0,?_,?_,HX.out.1.trans (H1.out.mono HX.out.1.size)⟩
  ·rw[ha,←HX.out.2.2.2.2.1];rfl
  ·rw[ha];exact Kd.jN _ _ _ _ _
section
attribute [local go_sem] G.cell
theorem length_calls (nm:ByteArray)(wd ln:Int)(ds:List S70)(bd:List S119)(A3:Option Addr)(c3:Nat)(A4:Option Addr)(c4:Nat)(W:World)(hp:ProgAt W ds bd A3 c3 A4 c4)(hg:PGood nm wd ln ds bd):
 Calls ar 15 #[.agg #[.string nm,.int .i64 wd,.int .i64 ln,.slice A3 ds.length c3,.slice A4 bd.length c4]] W fun e W'=>e=.returned (.tuple #[.int .i64 ((d6 nm wd ln ds bd).1.length:Int),.int .i64 (d6 nm wd ln ds bd).2])/\Below W.heap.size W W':=by
 have gout:∀{o:Obj} (g:G (W.alloc o)),Below W.heap.size W g.W:=fun g=>((ak _ _).alloc (aj _) _).trans (g.below.mono (by simp))
 have HP:=I (fun W' (h:Below W.heap.size W W')=>n9 nm wd ln ds bd A3 c3 A4 c4 W' (hp.below h) hg)
 clear hp hg
 go_enter Tryz.func15,Tryz.ntmps15
 go_upto_region 1 with (fail)
 refine aG ?_
 intro gg
 go_wp2_with fail
 refine(HP.out gg.W (gout gg)).mono ?_
 rintro _ w1 ⟨v,rfl,hR,hB⟩
 obtain⟨Av,cv,hv⟩:=Kd.bY hR
 subst hv
 have HB:=I ((gout gg).trans (hB.mono (gout gg).size))
 clear hR hB
 go_wp2_with fail
 go_ret2
 exact⟨rfl,HB.out⟩
end
end
section
set_option maxRecDepth 100000
theorem min64 (ats:Array TypeId)(ty:TypeId)(m:Nat):Builtin.min_ ats ty #[.int .i64 (m:Int),.int .i64 64]=pure (.int .i64 ((min m 64:Nat):Int)):=by
 rw[iZ,gH]
 by_cases h:(64:Int)<(m:Int)
 ·rw[if_pos h,ib (by omega)];rfl
 ·rw[if_neg h,cq (by omega)];rfl
attribute [local go_sem high] min64
theorem k101_new {w:World}{base:Nat}{v:Value}(h:w.ownsRow base 101 3 v 0 []):kZ.R 101 w base (fun _=>True) v []:=⟨fun _ _=>trivial,[],h,fX.none _ _⟩
theorem info101':∃i,Tryz.prog.info? 101=ae i/\i.zero=ae (.agg #[.int .i64 0,.int .u64 0,.int .u64 0])/\i.size=3/\i.bytes=24:=by
 obtain⟨i,hi,hz⟩:=ik.1 info101
 simp only[Prod.mk.injEq]at hz
 exact⟨i,hi,hz⟩
theorem sizeTop_calls (nm:ByteArray)(wd ln:Int)(ds:List S70)(bd:List S119)(A3:Option Addr)(c3:Nat)(A4:Option Addr)(c4:Nat)(w:World)(hp:ProgAt w ds bd A3 c3 A4 c4)(hg:PGood nm wd ln ds bd)(r:Int × Int)(hr:r=sizeS 1099511627776 nm wd ln ds bd):
 Calls ar 65 #[.agg #[.string nm,.int .i64 wd,.int .i64 ln,.slice A3 ds.length c3,.slice A4 bd.length c4]] w fun e w'=>e=.returned (.tuple #[.int .i64 r.1,.int .i64 r.2])/\Below w.heap.size w w':=size_calls nm wd ln ds bd A3 c3 A4 c4 w hp hg r hr
theorem run_calls (nm:ByteArray)(wd ln:Int)(ds:List S70)(bd:List S119)(A3:Option Addr)(c3:Nat)(A4:Option Addr)(c4:Nat)(W:World)(hp:ProgAt W ds bd A3 c3 A4 c4)(hg:PGood nm wd ln ds bd)(inp:List Int)(A:Option Addr)(cI:Nat)(hI:dG W A inp)(hu:∀v∈inp,U64 v)(hcI:inp.length<=cI):
 Calls ar 23 #[.agg #[.string nm,.int .i64 wd,.int .i64 ln,.slice A3 ds.length c3,.slice A4 bd.length c4],.slice A inp.length cI] W fun e W'=>∃vS vT,e=.returned (.tuple #[.agg #[vS,vT],.int .i64 (d7 nm wd ln ds bd inp).1])/\EndAt W' vS vT (d7 nm wd ln ds bd inp).2.1 (d7 nm wd ln ds bd inp).2.2/\Below W.heap.size W W':=by
 obtain⟨X,hX⟩:∃X,X=(W.alloc (.cells #[.string nm,.int .i64 wd,.int .i64 ln,.slice A3 ds.length c3,.slice A4 bd.length c4] 25)).alloc (.cells #[.slice ai 0 0,.slice ai 0 0] 40):=⟨_,rfl⟩
 have hX1:Below W.heap.size W (W.alloc (.cells #[.string nm,.int .i64 wd,.int .i64 ln,.slice A3 ds.length c3,.slice A4 bd.length c4] 25)):=(ak _ _).alloc (aj _) _
 have hXB:Below W.heap.size W X:=by rw[hX];exact hX1.alloc (by simp) _
 have hbx:X.heap[W.heap.size]? =ae (.cells #[.string nm,.int .i64 wd,.int .i64 ln,.slice A3 ds.length c3,.slice A4 bd.length c4] 25 (0,0)):=by
  rw[hX];exact aD (aY _ _) ((ak _ _).alloc (aj _) _)
 have hbr:X.heap[W.heap.size+1]? =ae (.cells #[.slice ai 0 0,.slice ai 0 0] 40 (0,0)):=by
  rw[hX]
  have:=aY (W.alloc (.cells #[.string nm,.int .i64 wd,.int .i64 ln,.slice A3 ds.length c3,.slice A4 bd.length c4] 25)) (.cells #[.slice ai 0 0,.slice ai 0 0] 40)
  simpa using this
 obtain⟨⟨l,er⟩,hle⟩:∃r,r=d6 nm wd ln ds bd:=⟨_,rfl⟩
 have HL2:=I (show Calls ar 15 #[.agg #[.string nm,.int .i64 wd,.int .i64 ln,.slice A3 ds.length c3,.slice A4 bd.length c4]] X fun e W'=>e=.returned (.tuple #[.int .i64 (l.length:Int),.int .i64 er])/\Below X.heap.size X W' from by
  have h:=length_calls nm wd ln ds bd A3 c3 A4 c4 X (hp.below hXB) hg
  rw[←hle]at h;exact h)
 have HX:=I (ac hXB (ac hbx (ac hbr (hp.below hXB))))
 have HI:=I (ac hI (ac hu (ac hcI hp)))
 have HG:=I hg
 have HLE:=I hle
 have x0:X.cell? ⟨W.heap.size,0,ai⟩=ae (.string nm):=(aA hbx 0).trans rfl
 have x1:X.cell? ⟨W.heap.size,1,ai⟩=ae (.int .i64 wd):=(aA hbx 1).trans rfl
 have x2:X.cell? ⟨W.heap.size,2,ai⟩=ae (.int .i64 ln):=(aA hbx 2).trans rfl
 have x3:X.cell? ⟨W.heap.size,3,ai⟩=ae (.slice A3 ds.length c3):=(aA hbx 3).trans rfl
 have x4:X.cell? ⟨W.heap.size,4,ai⟩=ae (.slice A4 bd.length c4):=(aA hbx 4).trans rfl
 clear hp hg hI hu hcI hXB hX1 hbx hbr hle
 go_enter Tryz.func23,Tryz.ntmps23
 go_upto_region 1 with (fail)
 rw[←hX]
 clear hX
 go_wp2_with fail
 refine HL2.out.mono ?_
 rintro _ w1 ⟨rfl,hb1⟩
 have H1:=I hb1
 by_cases he:er=0
 ·by_cases hn:inp.length=l.length
  ·have HE:=I (show(bF nm wd ln ds bd).e=0/\l=gU ds ds.length from by
    have h:=HLE.out
    unfold d6 at h
    by_cases h0:(bF nm wd ln ds bd).e=0
    ·rw[if_pos h0]at h
     injection h with h _
     exact⟨h0,h⟩
    ·rw[if_neg h0]at h
     injection h with _ h
     exact absurd (h.symm.trans he) h0)
   subst he
   rw[hn]
   have HN:=I hn
   clear x0 x1 x2 x3 x4 hb1 hn
   have hx1:=aD HX.out.2.1 H1.out
   have x0:w1.cell? ⟨W.heap.size,0,ai⟩=ae (.string nm):=(aA hx1 0).trans rfl
   have x1:w1.cell? ⟨W.heap.size,1,ai⟩=ae (.int .i64 wd):=(aA hx1 1).trans rfl
   have x2:w1.cell? ⟨W.heap.size,2,ai⟩=ae (.int .i64 ln):=(aA hx1 2).trans rfl
   have x3:w1.cell? ⟨W.heap.size,3,ai⟩=ae (.slice A3 ds.length c3):=(aA hx1 3).trans rfl
   have x4:w1.cell? ⟨W.heap.size,4,ai⟩=ae (.slice A4 bd.length c4):=(aA hx1 4).trans rfl
   go_wp2_with fail
   have SZ:=I (size_right HE.out.1)
   refine(sizeTop_calls nm wd ln ds bd A3 c3 A4 c4 w1 (HX.out.2.2.2.below H1.out) HG.out _ SZ.out).mono ?_
   rintro _ w2 ⟨rfl,hb2⟩
   have H2:=I (H1.out.trans (hb2.mono H1.out.size))
   have HSZ:=I (size_le HE.out.1)
   obtain⟨most,hmost⟩:∃m:Nat,m=bS bd:=⟨_,rfl⟩
   rw[←hmost]
   have HMO:=I hmost
   have hm1:(most:Int)<=65536:=by have:=HSZ.out;omega
   clear hmost
   obtain⟨eb,heb⟩:∃b,b=w2.heap.size:=⟨_,rfl⟩
   obtain⟨w3,hw3⟩:∃w,w=w2.alloc (.cells #[.slice ai 0 0,.int .i64 (most:Int)] 84):=⟨_,rfl⟩
   have H3:=I (show Below w2.heap.size w2 w3/\w3.heap[eb]? =ae (.cells #[.slice ai 0 0,.int .i64 (most:Int)] 84 (0,0))/\eb=w2.heap.size/\eb<w3.heap.size from⟨by rw[hw3];exact(ak _ _).alloc (aj _) _,by rw[hw3,heb];exact aY _ _,heb,by rw[hw3,heb];simp⟩)
   clear x0 x1 x2 x3 x4 hx1 hb2
   go_upto_region 8 with (fail)
   rw[←heb]
   rw[←hw3]
   clear heb hw3
   have hm0:(0:Int)<=(most:Int):=by omega
   have e1:w3.cell? ⟨eb,1,ai⟩=ae (.int .i64 (most:Int)):=(aA H3.out.2.1 1).trans rfl
   obtain⟨ii,hi1,hi2,hi3,hi4⟩:=info101'
   have HII:=I (ac hi1 (ac hi2 (ac hi3 hi4)))
   clear hi1 hi2 hi3 hi4
   have HBA:=I (show W.heap.size<=w3.heap.size from bk (bk HX.out.1.size H2.out.size) H3.out.1.size)
   go_wp2_with (at_make;refine wpList_make_own w3 rfl (.const (.int .i64 0)) (.tmp 42) 38 rfl W.heap.size 101 ii (.agg #[.int .i64 0,.int .u64 0,.int .u64 0]) 3 under38 HII.out.1 HII.out.2.1 HII.out.2.2.1 .i64 .i64 _ (min most 64) rfl rfl rfl (by rw[HII.out.2.2.2];omega) (by unfold maxLen;omega) HBA.out ?_)
   intro w4 ho4 hg4
   have H4:=I (ac (k101_new ho4) hg4)
   clear ho4 hg4
   have he0:w4.cell? ⟨eb,0,ai⟩=ae (.slice ai 0 0):=(aA (fH H3.out.2.1 H4.out.2 (by simp)) 0).trans rfl
   have he1:w4.frozen? ⟨eb,0,ai⟩=J:=aH (fH H3.out.2.1 H4.out.2 (by simp)) 0
   go_upto_region 9 with (fail)
   obtain⟨w5,hw5⟩:∃w,w=w4.setCell ⟨eb,0,ai⟩ (.slice (ae ⟨w3.heap.size,0,ai⟩) 0 (min most 64)):=⟨_,rfl⟩
   have hb4:=fH H3.out.2.1 H4.out.2 (by simp)
   have hk5:Kt [84] ai X w5:=by
    rw[hw5]
    exact(((Kt.of_below H2.out [84] ai).trans (Kt.of_below H3.out.1 [84] ai)).grown H4.out.2 (fun k e=>by cases e)).set hb4 (by simp) 0 _
   have hB5:Below W.heap.size W w5:=by
    rw[hw5]
    have h1:=HX.out.1.trans (H2.out.mono HX.out.1.size)
    have h2:=h1.trans (H3.out.1.mono h1.size)
    exact(h2.grown H4.out.2 h2.size (fun k e=>by cases e)).setCell (p:=⟨eb,0,ai⟩) (by show W.heap.size<=eb;rw[H3.out.2.2.1];exact h1.size) _
   have hE5:∃vt,w5.heap[eb]? =ae (.cells #[vt,.int .i64 (most:Int)] 84 (0,0))/\kZ.R 101 w5 W.heap.size (fun _=>True) vt []:=by
    rw[hw5]
    exact⟨_,by simpa using bT hb4 0 (.slice (ae ⟨w3.heap.size,0,ai⟩) 0 (min most 64)),Kd.R_set H4.out.1 hb4 (fun q hq=>by rw[E101 hq];decide) 0 _⟩
   have hx5:=hk5.blk _ _ _ _ HX.out.2.1 (by simp)
   have HST:=I (start_calls nm wd ln ds bd A3 c3 A4 c4 W w5 eb most HI.out.2.2.2 HG.out HE.out.1 inp A cI HI.out.1 HI.out.2.2.1 HI.out.2.1 (by rw[HN.out,HE.out.2]) hB5 (by rw[H3.out.2.2.1];exact bk HX.out.1.size H2.out.size) hE5)
   rw[HN.out]at HST
   have H5:=I (ac hk5 hB5)
   rw[←hw5]
   clear he0 he1 hw5 hb4 hk5 hB5 hE5 e1
   have x0:w5.cell? ⟨W.heap.size,0,ai⟩=ae (.string nm):=(aA hx5 0).trans rfl
   have x1:w5.cell? ⟨W.heap.size,1,ai⟩=ae (.int .i64 wd):=(aA hx5 1).trans rfl
   have x2:w5.cell? ⟨W.heap.size,2,ai⟩=ae (.int .i64 ln):=(aA hx5 2).trans rfl
   have x3:w5.cell? ⟨W.heap.size,3,ai⟩=ae (.slice A3 ds.length c3):=(aA hx5 3).trans rfl
   have x4:w5.cell? ⟨W.heap.size,4,ai⟩=ae (.slice A4 bd.length c4):=(aA hx5 4).trans rfl
   clear hx5
   go_wp2_with fail
   refine HST.out.mono ?_
   rintro _ w6 ⟨mb,ab,lb,rfl,hM6,hk6⟩
   obtain⟨c,hc⟩:∃c:Cfg,c=⟨W,nm,wd,ln,ds,bd,A3,c3,A4,c4,mb,eb,ab,lb,most⟩:=⟨_,rfl⟩
   rw[←hc]at hM6
   have HC:=I hc
   have hX6:=hk6.blk _ _ _ _ (H5.out.1.blk _ _ _ _ HX.out.2.1 (by simp)) (by simp)
   have hR6:=hk6.blk _ _ _ _ (H5.out.1.blk _ _ _ _ HX.out.2.2.1 (by simp)) (by simp)
   have hmb2:c.mb=mb:=by rw[hc]
   have hS:=fR HE.out.1
   have HBD:=I (show BodyM c bd from body_calls c (by rw[hc];exact hS) _ bd (aj _))
   have hRK:=rok_right (wd:=wd) HG.out HE.out.1 HI.out.2.1
   have hTK:=tok_right HG.out HE.out.1
   have HCB:=I (show dE.C c.w0 A4 bd.length bd/\bd.length<=c4/\ROK c.ds (fN wd ds inp ds.length)/\(∀x∈bd,TOK c.ds [] x)/\c.eb=eb/\c.w0=W/\ds.length<=256 from by rw[hc];exact⟨HI.out.2.2.2.hb,HI.out.2.2.2.hlb,hRK,hTK,rfl,rfl,hS.few⟩)
   have H6:=I (ac hM6 (ac hX6 hR6))
   have x4':w6.cell? ⟨W.heap.size,4,ai⟩=ae (.slice A4 bd.length c4):=(aA hX6 4).trans rfl
   rw[←hmb2]
   clear x0 x1 x2 x3 x4 hk6 hM6 hX6 hR6 hRK hTK hS hmb2 hc
   go_wp2_with fail
   refine(HBD.out w6 _ [] [] A4 c4 H6.out.1 HCB.out.2.2.1 (fun p hp=>absurd hp List.not_mem_nil) HCB.out.2.2.2.1 (by rw[List.length_nil];have:=HSZ.out;omega) HCB.out.1 HCB.out.2.1).mono ?_
   rintro _ w7 ⟨rfl,hM7,hk7,hr7⟩
   have HEN:=I (show eK c.wd c.ln c.ds bd [] (fN wd ds inp ds.length,[])=endOf wd ln ds bd inp from by rw[HC.out];rfl)
   rw[HEN.out]at hM7 hr7
   obtain⟨E,hE⟩:∃E,E=endOf wd ln ds bd inp:=⟨_,rfl⟩
   rw[←hE]at hM7 hr7
   obtain⟨vt,heb7,hT7⟩:=hM7.he
   obtain⟨At,ct,hvt⟩:=Kd.bY hT7
   subst hvt
   obtain⟨vr,hmb7,ts,hrt⟩:=hM7.hm
   obtain⟨Ar,cr,hvr,hsl⟩:=hrt.slot
   subst hvr
   have hlen:E.1.length=ds.length:=by have:=hr7.len;rw[HC.out]at this;exact this
   rw[HCB.out.2.2.2.2.1]at heb7
   have hx7:=hk7.blk _ _ _ _ H6.out.2.1 (by simp)
   have hr70:=hk7.blk _ _ _ _ H6.out.2.2 (by simp)
   have hlow:Below W.heap.size W w7:=by have:=hM7.low;rwa [HCB.out.2.2.2.2.2.1]at this
   have t0:w7.cell? ⟨eb,0,ai⟩=ae (.slice At E.2.length ct):=(aA heb7 0).trans rfl
   obtain⟨n,hn⟩:∃n,n=ds.length:=⟨_,rfl⟩
   obtain⟨ob,hob⟩:∃b,b=w7.heap.size:=⟨_,rfl⟩
   obtain⟨w8,hw8⟩:∃w,w=w7.alloc (.cells #[.slice ai 0 0,.slice At E.2.length ct] 40):=⟨_,rfl⟩
   have hb8:Below w7.heap.size w7 w8:=by rw[hw8];exact(ak _ _).alloc (aj _) _
   have ho8:w8.heap[ob]? =ae (.cells #[.slice ai 0 0,.slice At E.2.length ct] 40 (0,0)):=by rw[hw8,hob];exact aY _ _
   have HD3:=HI.out.2.2.2.hd
   rw[hlen]at hsl hmb7 hrt
   rw[←hn]at hsl hmb7 hrt hx7 HD3
   have H7:=I (ac hx7 (ac hr70 (ac hmb7 (ac hrt (ac hsl (ac hT7 (ac hlow (ac hlen (ac hn (ac hE HD3))))))))))
   have H8:=I (ac hb8 (ac ho8 hob))
   have hn256:n<=256:=by rw[hn];exact HCB.out.2.2.2.2.2.2
   have hx8:w8.cell? ⟨W.heap.size,3,ai⟩=ae (.slice A3 n c3):=(aA (aD hx7 hb8) 3).trans rfl
   clear x4' hM7 hk7 hr7 heb7 hT7 hmb7 hrt hsl hlen hx7 hr70 hlow hn hE HD3 hb8 ho8
   go_upto_region 12 with (fail)
   rw[←hob]
   rw[←hw8]
   clear hob hw8 t0
   go_wp2_with fail
   clear hx8
   go_loopw [65] (fun i W'=>∃(k:Nat) (vo:Value),i=.int .i64 k/\k<=n/\Aside0 (Below w7.heap.size w7 W'/\kSl.R 36 W' w7.heap.size (fun _=>True) vo (cW ds ts k)/\W'.heap[ob]? =ae (.cells #[vo,.slice At E.2.length ct] 40 (0,0)))) (fun i _=>n - (intOf i).toNat)
   case atStart=>exact⟨0,_,rfl,bg _,⟨H8.out.1,Kd.jN _ _ _ _ _,H8.out.2.1⟩⟩
   case round=>
    obtain⟨k,vo,rfl,hk,HK⟩:=hrel
    by_cases hlt:k<n
    ·have hlt2:(k:Int)<(n:Int):=by omega
     have hw0:Below W.heap.size W wr:=H7.out.2.2.2.2.2.2.1.trans (HK.out.1.mono H7.out.2.2.2.2.2.2.1.size)
     obtain⟨ad,A9,c9,e1,q0,q1,q2,q3,l9,g9⟩:=dW H7.out.2.2.2.2.2.2.2.2.2.2 (k:Int) (by omega) (by omega)
     cases e1
     rw[au]at q0 q1 q2 q3
     obtain⟨d,hd⟩:∃d,d=aI ds (k:Int):=⟨_,rfl⟩
     have TS:=toldT_succ ds ts k
     rw[←hd]at q0 q1 q2 q3 TS
     have p0:=aE hw0 q0
     have p1:=aE hw0 q1
     have p2:=aE hw0 q2
     have p3:=aE hw0 q3
     obtain⟨gb,hgb⟩:∃b,b=wr.heap.size:=⟨_,rfl⟩
     obtain⟨Wi,hWi⟩:∃Wi,Wi=wr.alloc (.cells #[.int .i64 d.f0,.string d.f1,.int .i64 d.f2,.slice A9 d.f3.length c9] 70):=⟨_,rfl⟩
     have hWB:Below wr.heap.size wr Wi:=by rw[hWi];exact(ak _ _).alloc (aj _) _
     have hbw:Wi.heap[gb]? =ae (.cells #[.int .i64 d.f0,.string d.f1,.int .i64 d.f2,.slice A9 d.f3.length c9] 70 (0,0)):=by rw[hWi,hgb];exact aY _ _
     have d0:Wi.cell? ⟨gb,0,ai⟩=ae (.int .i64 d.f0):=(aA hbw 0).trans rfl
     have HW:=I (ac (HK.out.1.trans (hWB.mono HK.out.1.size)) (ac hWB TS))
     clear q0 q1 q2 q3 l9 g9 hd TS hw0 hbw hWB
     go_upto_region 15 with (fail)
     rw[←hgb]
     rw[←hWi]
     clear hWi hgb p0 p1 p2 p3
     by_cases h3:d.f0=3
     ·have HN2:=I (show Below w7.heap.size w7 Wi/\kSl.R 36 Wi w7.heap.size (fun _=>True) vo (cW ds ts (k+1))/\Wi.heap[ob]? =ae (.cells #[vo,.slice At E.2.length ct] 40 (0,0)) from⟨HW.out.1,by rw[HW.out.2.2,if_pos h3];exact Kd.bK HK.out.2.1 HW.out.2.1,aD HK.out.2.2 HW.out.2.1⟩)
      have k3:(d.f0==3)=af:=beq_iff_eq.2 h3
      have k4:(d.f0 != 3)=J:=by rw[bne,k3];rfl
      clear h3
      go_wp2_with fail
      go_roundw
      case measure=>simp[intOf];omega
      case rel=>exact⟨k+1,_,show _ =az .i64 ((k+1:Nat):Int) from by go_num,by omega,HN2⟩
     ·obtain⟨ad2,eA,qs⟩:=H7.out.2.2.2.2.1 k hlt
      subst eA
      obtain⟨⟨t1,t2,t3⟩,ht⟩:∃t,t=ts.getD k zSl:=⟨_,rfl⟩
      rw[←ht]at qs
      replace qs:w7.cell? (ad2.add k)=ae (.slice (ae ⟨t1,0,ai⟩) t2 t3):=qs
      have HT:=I (show cW ds ts (k+1)=cW ds ts k++[(t1,t2,t3)] from by rw[HW.out.2.2,if_neg h3,ht])
      have TL:=I (show((cW ds ts k).length+1)*24<=140737488355328 by have:=toldIx_len ds k;simp[cW];omega)
      have HD:=I (show ∀g:G Wi,Below w7.heap.size w7 g.W/\kSl.R 36 g.W w7.heap.size (fun _=>True) vo (cW ds ts k)/\g.W.heap[ob]? =ae (.cells #[vo,.slice At E.2.length ct] 40 (0,0)) from fun g=>⟨HW.out.1.trans (g.below.mono HW.out.1.size),Kd.bK (Kd.bK HK.out.2.1 HW.out.2.1) g.below,aD (aD HK.out.2.2 HW.out.2.1) g.below⟩)
      have m6:∀g:G Wi,g.W.cell? ⟨c.mb,6,ai⟩=ae (.slice (ae ad2) n cr):=fun g=>(aA (aD H7.out.2.2.1 (HD.out g).1) 6).trans rfl
      have o0:∀g:G Wi,g.W.cell? ⟨ob,0,ai⟩=ae vo:=fun g=>(aA (HD.out g).2.2 0).trans rfl
      have rk:∀g:G Wi,g.W.cell? (ad2.add k)=ae (.slice (ae ⟨t1,0,ai⟩) t2 t3):=fun g=>aE (HD.out g).1 qs
      clear ht qs
      go_upto_region 16 with (fail)
      clear d0
      refine aG ?_
      intro gg
      refine fU (n:=13) (S:=fun w'=>∃g':G _,w'=g'.W) (ds:=[10,12]) #[J,J,J,J,J,J,J,J,J,J,J,J,J] (by kernel_rfl) rfl rfl ⟨mkG (gg.2.drew),rfl⟩ (fun hHeld=> ?_)
      obtain⟨gd,hgd⟩:=hHeld
      rw[hgd]
      clear hgd
      refine bB (i:=0) (N:=ae 73) (v:= ?_) (a':= ?_) #[af,J,J,J,J,J,J,J,J,J,J,J,J] rfl rfl (by kernel_rfl) (fun _ _ _ h=>h) (bc ⟨by rfl,?_⟩) ?_ ?_
      rotate_left
      ·intro w'
       go_simp
       with_reducible rfl
      rotate_left
      ·simp only[aw,aa,ag,ah,aO,aN]
       rfl
      refine dU (i:=1) (N:=ae 74) (v:= ?_) (a':= ?_) #[af,af,J,J,J,J,J,J,J,J,J,J,J] rfl rfl (by kernel_rfl) (fun _ _ _ h=>h) (bc ⟨by rfl,?_⟩) ⟨gd,rfl⟩ ?_ ?_
      rotate_left
      ·rintro w' ⟨g',rfl⟩
       go_simp
       with_reducible rfl
      rotate_left
      ·simp only[aw,aa,ag,ah,aO,aN]
       rfl
      refine bB (i:=2) (N:=ae 75) (v:= ?_) (a':= ?_) #[af,af,af,J,J,J,J,J,J,J,J,J,J] rfl rfl (by kernel_rfl) (fun _ _ _ h=>h) (bc ⟨by rfl,?_⟩) ?_ ?_
      rotate_left
      ·intro w'
       go_simp
       with_reducible rfl
      rotate_left
      ·simp only[aw,aa,ag,ah,aO,aN]
       rfl
      refine bB (i:=3) (N:=ae 76) (v:= ?_) (a':= ?_) #[af,af,af,af,J,J,J,J,J,J,J,J,J] rfl rfl (by kernel_rfl) (fun _ _ _ h=>h) (bc ⟨by rfl,?_⟩) ?_ ?_
      rotate_left
      ·intro w'
       go_simp
       with_reducible rfl
      rotate_left
      ·simp only[aw,aa,ag,ah,aO,aN]
       rfl
      refine bB (i:=4) (N:=ae 77) (v:= ?_) (a':= ?_) #[af,af,af,af,af,J,J,J,J,J,J,J,J] rfl rfl (by kernel_rfl) (fun _ _ _ h=>h) (bc ⟨by rfl,?_⟩) ?_ ?_
      rotate_left
      ·intro w'
       go_simp
       with_reducible rfl
      rotate_left
      ·simp only[aw,aa,ag,ah,aO,aN]
       rfl
      refine dU (i:=5) (N:=ae 78) (v:= ?_) (a':= ?_) #[af,af,af,af,af,af,J,J,J,J,J,J,J] rfl rfl (by kernel_rfl) (fun _ _ _ h=>h) (bc ⟨by rfl,?_⟩) ⟨gd,rfl⟩ ?_ ?_
      rotate_left
      ·rintro w' ⟨g',rfl⟩
       go_simp
       with_reducible rfl
      rotate_left
      ·simp only[aw,aa,ag,ah,aO,aN]
       rfl
      refine bB (i:=6) (N:=ae 79) (v:= ?_) (a':= ?_) #[af,af,af,af,af,af,af,J,J,J,J,J,J] rfl rfl (by kernel_rfl) (fun _ _ _ h=>h) (bc ⟨by rfl,?_⟩) ?_ ?_
      rotate_left
      ·intro w'
       go_simp
       with_reducible rfl
      rotate_left
      ·simp only[aw,aa,ag,ah,aO,aN]
       rfl
      refine bB (i:=7) (N:=ae 80) (v:= ?_) (a':= ?_) #[af,af,af,af,af,af,af,af,J,J,J,J,J] rfl rfl (by kernel_rfl) (fun _ _ _ h=>h) (bc ⟨by rfl,?_⟩) ?_ ?_
      rotate_left
      ·intro w'
       go_simp
       with_reducible rfl
      rotate_left
      ·simp only[aw,aa,ag,ah,aO,aN]
       rfl
      refine dU (i:=8) (N:=ae 81) (v:= ?_) (a':= ?_) #[af,af,af,af,af,af,af,af,af,J,J,J,J] rfl rfl (by kernel_rfl) (fun _ _ _ h=>h) (bc ⟨by rfl,?_⟩) ⟨gd,rfl⟩ ?_ ?_
      rotate_left
      ·rintro w' ⟨g',rfl⟩
       go_simp
       with_reducible rfl
      rotate_left
      ·simp only[aw,aa,ag,ah,aO,aN]
       rfl
      refine kI (i:=9) (N:=ae 82) #[af,af,af,af,af,af,af,af,af,af,J,J,J] rfl rfl (by kernel_rfl) (by simp) (fun Kr hKr=> ?_)
      refine d5 (v:=.slice (ae ⟨gd.W.heap.size,0,ai⟩) 1 1) (w1:=gd.W.alloc (.cells #[.slice (ae ⟨t1,0,ai⟩) t2 t3] 36)) (by rfl) (by first | (go_simp;done) | (go_simp;rfl)) ?_
      refine hKr.out _ _ ⟨mkG (G.ball gd _),rfl⟩ (fun _=> ?_)
      clear hKr Kr
      refine cS (a':= ?_) ?_ ?_
      rotate_left
      ·show aw _ (ae 82) _ = _
       simp only[aw,aa,ag,ah,aO,aN]
       rfl
      refine oK (i:=10) (N:=ae 83) #[af,af,af,af,af,af,af,af,af,af,af,J,J] rfl rfl (by kernel_rfl) (by simp) (fun Kr hKr=> ?_)
      refine Kd.gW kSl (w0:=w7) w7.heap.size (by rfl) (.tmp 74) (.tmp 82) 37 36 (.slice ai 0 0) 24 rfl nC info36 rfl (show 0<1 by decide) (by decide) vo (cW ds ts k) (t1,t2,t3) [.slice (ae ⟨t1,0,ai⟩) t2 t3] (fun _=>True) (fun _=>False) (by rfl) (by rfl) rfl (fun _ h=>h.elim) (fun _ _=>trivial) (HD.out gd).2.1 (HD.out gd).1 (HD.out gd).1.size TL.out ?_
      intro v1 u1 hr1 hb1 hg1 hat1
      have hob1:=fH (HD.out gd).2.2 hg1 (Kd.R_ne (HD.out gd).2.1 (HD.out gd).2.2 (by decide))
      have y0:=aA hob1 0
      have y1:=aH hob1 0
      obtain⟨A1,k1,hv1⟩:=Kd.bY hr1
      subst hv1
      have HE1:=I (ac hr1 (ac hb1 hob1))
      clear hr1 hb1 hg1 hat1 hob1
      refine hKr.out _ _ ?_
      clear hKr Kr
      refine cS (a':= ?_) ?_ ?_
      rotate_left
      ·show aw _ (ae 83) _ = _
       simp only[aw,aa,ag,ah,aO,aN]
       rfl
      refine bB (i:=11) (N:=ae 84) (v:= ?_) (a':= ?_) #[af,af,af,af,af,af,af,af,af,af,af,af,J] rfl rfl (by kernel_rfl) (fun _ _ _ h=>h) (bc ⟨by rfl,?_⟩) ?_ ?_
      rotate_left
      ·intro w'
       go_simp
       with_reducible rfl
      rotate_left
      ·simp only[aw,aa,ag,ah,aO,aN]
       rfl
      refine oK (i:=12) (N:=ai) #[af,af,af,af,af,af,af,af,af,af,af,af,af] rfl rfl (by kernel_rfl) (by simp) (fun Kr hKr=> ?_)
      refine skip_ (w1:=u1.setCell ⟨ob,0,ai⟩ (.slice A1 (cW ds ts k++[(t1,t2,t3)]).length k1)) (by rfl) rfl (by first | (go_simp;done) | (go_simp;rfl)) ?_
      refine hKr.out _ _ ?_
      clear hKr Kr
      refine kF (by kernel_rfl) ?_
      have hle:w7.heap.size<=ob:=by rw[H8.out.2.2];exact aj _
      have hrs:=Kd.R_set HE1.out.1 HE1.out.2.2 (fun q hq=>by
       have:q=36:=by simpa[kSl,Kd.scalar]using hq
       rw[this];decide) 0 (.slice A1 (cW ds ts k++[(t1,t2,t3)]).length k1)
      rw[←HT.out]at hrs
      have hbs:=bT HE1.out.2.2 0 (.slice A1 (cW ds ts k++[(t1,t2,t3)]).length k1)
      rw[←HT.out]at hbs
      have hbl:=HE1.out.2.1.setCell (p:=⟨ob,0,ai⟩) hle (.slice A1 (cW ds ts k++[(t1,t2,t3)]).length k1)
      rw[←HT.out]at hbl
      have HN2:=I (show Below w7.heap.size w7 (u1.setCell ⟨ob,0,ai⟩ (.slice A1 (cW ds ts (k+1)).length k1))/\kSl.R 36 (u1.setCell ⟨ob,0,ai⟩ (.slice A1 (cW ds ts (k+1)).length k1)) w7.heap.size (fun _=>True) (.slice A1 (cW ds ts (k+1)).length k1) (cW ds ts (k+1))/\(u1.setCell ⟨ob,0,ai⟩ (.slice A1 (cW ds ts (k+1)).length k1)).heap[ob]? =ae (.cells #[.slice A1 (cW ds ts (k+1)).length k1,.slice At E.2.length ct] 40 (0,0)) from⟨hbl,hrs,by simpa using hbs⟩)
      rw[←HT.out]
      clear hle hrs hbs hbl
      clear y0 y1 m6 o0 rk
      go_wp2_with fail
      go_roundw
      case measure=>simp[intOf];omega
      case rel=>exact⟨k+1,_,show _ =az .i64 ((k+1:Nat):Int) from by go_num,by omega,HN2⟩
    ·have hkn:k=n:=by omega
     have hge:¬(k:Int)<(n:Int):=by omega
     have HKN:=I hkn
     obtain⟨Ao,ko,hvo⟩:=Kd.bY HK.out.2.1
     subst hvo
     have o0:wr.cell? ⟨ob,0,ai⟩=ae (.slice Ao (cW ds ts k).length ko):=(aA HK.out.2.2 0).trans rfl
     have o1:wr.cell? ⟨ob,1,ai⟩=ae (.slice At E.2.length ct):=(aA HK.out.2.2 1).trans rfl
     have hrE:=aD H7.out.2.1 HK.out.1
     have r0:wr.cell? ⟨W.heap.size+1,0,ai⟩=ae (.slice ai 0 0):=(aA hrE 0).trans rfl
     have r1:wr.cell? ⟨W.heap.size+1,1,ai⟩=ae (.slice ai 0 0):=(aA hrE 1).trans rfl
     have f0:wr.frozen? ⟨W.heap.size+1,0,ai⟩=J:=aH hrE 0
     have f1:wr.frozen? ⟨W.heap.size+1,1,ai⟩=J:=aH hrE 1
     have hkt:Kt [40] ai wr ((wr.setCell ⟨W.heap.size+1,0,ai⟩ (.slice Ao (cW ds ts k).length ko)).setCell ⟨W.heap.size+1,1,ai⟩ (.slice At E.2.length ct)):=((Kt.refl _ _ _).set hrE (by simp) 0 _).set (bT hrE 0 _) (by simp) 1 _
     have hR1:=(H7.out.2.2.2.1.below HK.out.1).kt hkt (by simp) (by simp)
     have hV1:=hkt.row HK.out.2.1 (fun q hq=>by
      have:q=36:=by simpa[kSl,Kd.scalar]using hq
      rw[this];simp)
     have hke:cW ds ts k=cW ds ts ds.length:=by rw[hkn,H7.out.2.2.2.2.2.2.2.2.1]
     rw[hke]at hV1 hkt hR1
     obtain⟨A1,k1,e1,hra⟩:=told_rows hR1 H7.out.2.2.2.2.2.2.2.1 (ak _ _) hV1
     obtain⟨A2,k2,e2,-,hC2⟩:=Kd.dF (hkt.row (Kd.bK H7.out.2.2.2.2.2.1 HK.out.1) (fun q hq=>by rw[E101 hq];simp))
     rw[←hke]at e1 hra hC2
     have HEA:=I (ac e1 (ac hra (ac e2 hC2)))
     have HA:=I (show d7 nm wd ln ds bd inp=(0,told ds E.1,E.2) from by unfold d7;rw[if_pos HE.out.1,if_pos (by rw[HN.out,HE.out.2]),H7.out.2.2.2.2.2.2.2.2.2.1])
     have hlow:=H7.out.2.2.2.2.2.2.1.trans (HK.out.1.mono H7.out.2.2.2.2.2.2.1.size)
     have HBE:=I ((hlow.setCell (p:=⟨W.heap.size+1,0,ai⟩) (iw _) (.slice Ao (cW ds ts k).length ko)).setCell (p:=⟨W.heap.size+1,1,ai⟩) (iw _) (.slice At E.2.length ct))
     obtain⟨wE,hwE⟩:∃w,w=(wr.setCell ⟨W.heap.size+1,0,ai⟩ (.slice Ao (cW ds ts k).length ko)).setCell ⟨W.heap.size+1,1,ai⟩ (.slice At E.2.length ct):=⟨_,rfl⟩
     have z0:wE.cell? ⟨W.heap.size+1,0,ai⟩=ae (.slice Ao (cW ds ts k).length ko):=by rw[hwE];exact(aA (bT (bT hrE 0 _) 1 _) 0).trans rfl
     have z1:wE.cell? ⟨W.heap.size+1,1,ai⟩=ae (.slice At E.2.length ct):=by rw[hwE];exact(aA (bT (bT hrE 0 _) 1 _) 1).trans rfl
     rw[←hwE]at HEA HBE
     have HWE:=I hwE
     have HZ:=I (ac z0 z1)
     clear hke e1 hra e2 hC2 hwE hrE hlow hkn z0 z1
     go_wp2_with fail
     rw[←HWE.out]
     refine bodyPost_ret (fV rfl rfl rfl HZ.out.1 HZ.out.2) rfl ?_
     refine⟨.slice Ao (cW ds ts k).length ko,.slice At E.2.length ct,?_,?_,?_⟩
     ·rw[HA.out];rfl
     ·rw[HA.out]
      exact⟨⟨A1,k1,HEA.out.1,HEA.out.2.1⟩,A2,k2,HEA.out.2.2.1,HEA.out.2.2.2⟩
     ·exact HBE.out
  ·have hx:=aD HX.out.2.2.1 H1.out
   have HXX:=I hx
   have r0:w1.cell? ⟨W.heap.size+1,0,ai⟩=ae (.slice ai 0 0):=(aA hx 0).trans rfl
   have r1:w1.cell? ⟨W.heap.size+1,1,ai⟩=ae (.slice ai 0 0):=(aA hx 1).trans rfl
   have f0:w1.frozen? ⟨W.heap.size+1,0,ai⟩=J:=aH hx 0
   have f1:w1.frozen? ⟨W.heap.size+1,1,ai⟩=J:=aH hx 1
   have hn2:¬(inp.length:Int)=(l.length:Int):=fun h=>hn (by omega)
   have HA:=I (show d7 nm wd ln ds bd inp=(170,[],[]) from by
    have h:=HLE.out
    unfold d6 at h
    by_cases h0:(bF nm wd ln ds bd).e=0
    ·rw[if_pos h0]at h
     injection h with h _
     unfold d7;rw[if_pos h0,if_neg (by rw[←h];exact hn)]
    ·rw[if_neg h0]at h
     injection h with _ h
     exact absurd (h.symm.trans he) h0)
   subst he
   clear hx x0 x1 x2 x3 x4 hb1
   go_wp2_with fail
   refine bodyPost_ret (fV (b:=W.heap.size+1) (vS:=.slice ai 0 0) (vT:=.slice ai 0 0) rfl rfl rfl ((aA (bT (bT HXX.out 0 (.slice ai 0 0)) 1 (.slice ai 0 0)) 0).trans rfl) ((aA (bT (bT HXX.out 0 (.slice ai 0 0)) 1 (.slice ai 0 0)) 1).trans rfl)) rfl ?_
   refine⟨.slice ai 0 0,.slice ai 0 0,?_,?_,?_⟩
   ·rw[HA.out];rfl
   ·rw[HA.out];exact EndAt.none _
   ·exact((HX.out.1.trans (H1.out.mono HX.out.1.size)).setCell (p:=⟨W.heap.size+1,0,ai⟩) (iw _) _).setCell (p:=⟨W.heap.size+1,1,ai⟩) (iw _) _
 ·have hx:=aD HX.out.2.2.1 H1.out
  have HXX:=I hx
  have r0:w1.cell? ⟨W.heap.size+1,0,ai⟩=ae (.slice ai 0 0):=(aA hx 0).trans rfl
  have r1:w1.cell? ⟨W.heap.size+1,1,ai⟩=ae (.slice ai 0 0):=(aA hx 1).trans rfl
  have f0:w1.frozen? ⟨W.heap.size+1,0,ai⟩=J:=aH hx 0
  have f1:w1.frozen? ⟨W.heap.size+1,1,ai⟩=J:=aH hx 1
  have HA:=I (show d7 nm wd ln ds bd inp=(er,[],[]) from by
   have h:=HLE.out
   unfold d6 at h
   by_cases h0:(bF nm wd ln ds bd).e=0
   ·rw[if_pos h0]at h
    injection h with _ h
    exact absurd h he
   ·rw[if_neg h0]at h
    injection h with _ h
    unfold d7;rw[if_neg h0,h])
  clear hx x0 x1 x2 x3 x4 hb1
  go_wp2_with fail
  refine bodyPost_ret (fV (b:=W.heap.size+1) (vS:=.slice ai 0 0) (vT:=.slice ai 0 0) rfl rfl rfl ((aA (bT (bT HXX.out 0 (.slice ai 0 0)) 1 (.slice ai 0 0)) 0).trans rfl) ((aA (bT (bT HXX.out 0 (.slice ai 0 0)) 1 (.slice ai 0 0)) 1).trans rfl)) rfl ?_
  refine⟨.slice ai 0 0,.slice ai 0 0,?_,?_,?_⟩
  ·rw[HA.out];rfl
  ·rw[HA.out];exact EndAt.none _
  ·exact((HX.out.1.trans (H1.out.mono HX.out.1.size)).setCell (p:=⟨W.heap.size+1,0,ai⟩) (iw _) _).setCell (p:=⟨W.heap.size+1,1,ai⟩) (iw _) _
end
def jB (wd:Int)(P:List Bool)(x y:List Int)(k:Nat):Prop:=∀i,i<k->P.getD i J=af->trnI wd (x.getD i 0)=trnI wd (y.getD i 0)
theorem jB.zero (wd:Int)(P:List Bool)(x y:List Int):jB wd P x y 0:=fun i h=>absurd h (ck i)
theorem jB.step {wd:Int}{P:List Bool}{x y:List Int}{k:Nat}(h:jB wd P x y k)(e:P.getD k J=af->trnI wd (x.getD k 0)=trnI wd (y.getD k 0)):jB wd P x y (k+1):=fun i hi=>by
 rcases Nat.lt_or_eq_of_le (Nat.le_of_lt_succ hi)with h' | rfl
 ·exact h i h'
 ·exact e
def Told2 (T U:List S101)(k:Nat):Prop:=k<T.length/\k<U.length/\(fB T (k:Int)).f0=5/\(fB U (k:Int)).f0=5
open Classical in
noncomputable def lZ (T U:List S101):Bool × Int × Int:=if(difS T U).2=J\/Told2 T U (difS T U).1.toNat then(J,0,0)else(af,(difS T U).1,0)
open Classical in
noncomputable def pV (nm:ByteArray)(wd ln:Int)(ds:List S70)(bd:List S119)(x y:List Int):Bool × Int × Int:=
 if(d6 nm wd ln ds bd).2=0 then
  if x.length=(d6 nm wd ln ds bd).1.length/\y.length=(d6 nm wd ln ds bd).1.length then
   if jB wd (d6 nm wd ln ds bd).1 x y (d6 nm wd ln ds bd).1.length then lZ (d7 nm wd ln ds bd x).2.2 (d7 nm wd ln ds bd y).2.2
   else(J,0,1)
  else(J,0,170)
 else(J,0,(d6 nm wd ln ds bd).2)
theorem nT {T U:List S101}(h:difS T U=(0,J)):lZ T U=(J,0,0):=by unfold lZ;rw[if_pos (bc (by rw[h]))]
theorem oG {T U:List S101}{k:Nat}(h:difS T U=((k:Int),af))(ht:Told2 T U k):lZ T U=(J,0,0):=by unfold lZ;rw[if_pos (Or.inr (by rw[h];simpa using ht))]
theorem eC {T U:List S101}{k:Nat}(h:difS T U=((k:Int),af))(ht:¬Told2 T U k):lZ T U=(af,(k:Int),0):=by
 unfold lZ
 rw[if_neg,h]
 rintro(h' | h')
 ·rw[h]at h';exact absurd h' (by simp)
 ·rw[h]at h';exact ht (by simpa using h')
theorem difS_cases (T U:List S101):difS T U=(0,J)\/∃k:Nat,difS T U=((k:Int),af):=by
 unfold difS
 split
 ·exact Or.inr ⟨_,rfl⟩
 ·exact bc rfl
def BoolsAt (W:World)(A:Option Addr)(l:List Bool):Prop:=∀k,k<l.length->∃ad,A=ae ad/\W.cell? (ad.add k)=ae (.bool (l.getD k J))
theorem boolsAt_C {W:World}{A:Option Addr}{l:List Bool}(h:Kd.bool.C W A l.length l):BoolsAt W A l:=fun k hk=>by
 obtain⟨ad,cc,e,_,hK,hc⟩:=Kd.nK h J (k:Int) (by omega) (by omega)
 refine⟨ad,e,?_⟩
 have h:=hc 0 _ (by rw[hK];rfl)
 rw[show Kd.bool.sz=1 from rfl,gh,fe,au]at h
 exact h
theorem jX (nm:ByteArray)(wd ln:Int)(ds:List S70)(bd:List S119)(inp:List Int):(d7 nm wd ln ds bd inp).2.2.length<=1073741824:=by
 unfold d7
 split
 ·rename_i h
  split
  ·have h1:=gK wd ln ds bd [] (fN wd ds inp ds.length,[])
   have h2:=size_le h
   show(endOf wd ln ds bd inp).2.length<=_
   unfold endOf
   simp only[List.length_nil]at h1
   omega
  ·simp
 ·simp
section
set_option maxRecDepth 100000
theorem leaks_calls (nm:ByteArray)(wd ln:Int)(ds:List S70)(bd:List S119)(A3:Option Addr)(c3:Nat)(A4:Option Addr)(c4:Nat)(W:World)(hp:ProgAt W ds bd A3 c3 A4 c4)(hg:PGood nm wd ln ds bd)(x y:List Int)(A B:Option Addr)(cA cB:Nat)(hx:dG W A x)(hy:dG W B y)(ux:∀v∈x,U64 v)(uy:∀v∈y,U64 v)(hcx:x.length<=cA)(hcy:y.length<=cB)(r:Bool × Int × Int)(hr:r=pV nm wd ln ds bd x y):
 Calls ar 29 #[.agg #[.string nm,.int .i64 wd,.int .i64 ln,.slice A3 ds.length c3,.slice A4 bd.length c4],.slice A x.length cA,.slice B y.length cB] W fun e W'=>e=.returned (.tuple #[.bool r.1,.int .i64 r.2.1,.int .i64 r.2.2])/\Below W.heap.size W W':=by
 obtain⟨xb,hxb⟩:∃b,b=W.heap.size:=⟨_,rfl⟩
 obtain⟨X,hX⟩:∃X,X=W.alloc (.cells #[.string nm,.int .i64 wd,.int .i64 ln,.slice A3 ds.length c3,.slice A4 bd.length c4] 25):=⟨_,rfl⟩
 have hXB:Below W.heap.size W X:=by rw[hX];exact(ak _ _).alloc (aj _) _
 have hbx:X.heap[xb]? =ae (.cells #[.string nm,.int .i64 wd,.int .i64 ln,.slice A3 ds.length c3,.slice A4 bd.length c4] 25 (0,0)):=by rw[hX,hxb];exact aY _ _
 unfold pV at hr
 obtain⟨⟨l,er⟩,hle⟩:∃r,r=d6 nm wd ln ds bd:=⟨_,rfl⟩
 have hpu:=n9 nm wd ln ds bd A3 c3 A4 c4 X (hp.below hXB) hg
 rw[←hle]at hr hpu
 have HPU:=I hpu
 have HLE:=I hle
 have HR:=I hr
 have HX:=I (ac hXB (ac hbx (hp.below hXB)))
 have HI:=I (ac (hx.below hXB) (ac (hy.below hXB) (ac ux uy)))
 have HRX:=I (fun(W':World) (h:Below X.heap.size X W')=>run_calls nm wd ln ds bd A3 c3 A4 c4 W' ((hp.below hXB).below h) hg x A cA ((hx.below hXB).below h) ux hcx)
 have HRY:=I (fun(W':World) (h:Below X.heap.size X W')=>run_calls nm wd ln ds bd A3 c3 A4 c4 W' ((hp.below hXB).below h) hg y B cB ((hy.below hXB).below h) uy hcy)
 have HSM:=I (ac (jX nm wd ln ds bd x) (jX nm wd ln ds bd y))
 have HXE:=I (ac hX hxb)
 have x0:X.cell? ⟨xb,0,ai⟩=ae (.string nm):=(aA hbx 0).trans rfl
 have x1:X.cell? ⟨xb,1,ai⟩=ae (.int .i64 wd):=(aA hbx 1).trans rfl
 have x2:X.cell? ⟨xb,2,ai⟩=ae (.int .i64 ln):=(aA hbx 2).trans rfl
 have x3:X.cell? ⟨xb,3,ai⟩=ae (.slice A3 ds.length c3):=(aA hbx 3).trans rfl
 have x4:X.cell? ⟨xb,4,ai⟩=ae (.slice A4 bd.length c4):=(aA hbx 4).trans rfl
 clear hp hg hx hy ux uy hX hxb hXB hbx hr hle hpu hcx hcy
 go_enter Tryz.func29,Tryz.ntmps29
 go_upto_region 1 with (fail)
 rw[←HXE.out.1,←HXE.out.2]
 go_wp2_with fail
 refine HPU.out.mono ?_
 rintro _ w1 ⟨v,rfl,hR,hb1⟩
 obtain⟨Av,cv,hv⟩:=Kd.bY hR
 subst hv
 have hbo:BoolsAt w1 Av l:=by
  obtain⟨A',c',e',-,hC⟩:=Kd.dF hR
  injection e' with e'
  rw[e'];exact boolsAt_C hC
 have H1:=I (ac hb1 hbo)
 have HW1:=I (HX.out.1.trans (hb1.mono HX.out.1.size))
 clear hR hb1 hbo x0 x1 x2 x3 x4
 by_cases he:er=0
 ·have HF:=I (show(bF nm wd ln ds bd).e=0 from by
   by_cases h0:(bF nm wd ln ds bd).e=0
   ·exact h0
   ·have h:=HLE.out
    rw[(gL nm wd ln ds bd).2 h0]at h
    injection h with _ h
    exact absurd (h.symm.trans he) h0)
  have HWD:=I (show 1<=wd from by
   obtain⟨m,e,h⟩:=(fR HF.out).wd
   rw[e];unfold d8 at h;omega)
  subst he
  by_cases hn:x.length=l.length/\y.length=l.length
  ·obtain⟨hnx,hny⟩:=hn
   have HN:=I (ac hnx hny)
   have hr2:=HR.out
   rw[if_pos rfl,if_pos HN.out]at hr2
   have HR2:=I hr2
   have hl1:l.length<=65536:=by
    have h:=HLE.out
    rw[(gL nm wd ln ds bd).1 HF.out]at h
    injection h with h _
    have h2:=lC (fun i hi=>dO HF.out i hi) ds.length (aj _)
    have h3:=(fR HF.out).few
    rw[h];omega
   rw[hnx]at HRX ⊢
   rw[hny]at HRY ⊢
   clear hnx hny hr2
   go_wp2_with fail
   go_loopw [41] (fun i W'=>∃k:Nat,i=.int .i64 k/\k<=l.length/\Aside0 (Below w1.heap.size w1 W'/\jB wd l x y k)) (fun i _=>l.length - (intOf i).toNat)
   case atStart=>exact⟨0,rfl,bg _,⟨ak _ _,jB.zero _ _ _ _⟩⟩
   case round=>
    obtain⟨k,rfl,hk,HB⟩:=hrel
    have HXR:=I (show Below X.heap.size X wr from H1.out.1.trans (HB.out.1.mono H1.out.1.size))
    by_cases hlt:k<l.length
    ·have hi1:(k:Int)<(l.length:Int):=by omega
     obtain⟨ad0,e0,q0⟩:=H1.out.2 k hlt
     cases e0
     obtain⟨ad1,e1,q1⟩:=HI.out.1 k (by rw[HN.out.1];exact hlt)
     cases e1
     obtain⟨ad2,e2,q2⟩:=HI.out.2.1 k (by rw[HN.out.2];exact hlt)
     cases e2
     replace q0:=aE HB.out.1 q0
     replace q1:=aE HXR.out q1
     replace q2:=aE HXR.out q2
     have pw:∀g:G wr,g.W.cell? ⟨xb,1,ai⟩=ae (.int .i64 wd):=fun g=>(aA (aD (aD HX.out.2.1 HXR.out) g.below) 1).trans rfl
     have HU:=I (ac (iV HI.out.2.2.1 k) (iV HI.out.2.2.2 k))
     obtain⟨b,hb⟩:∃b,b=l.getD k J:=⟨_,rfl⟩
     obtain⟨u,hu⟩:∃b,b=x.getD k 0:=⟨_,rfl⟩
     obtain⟨v,hv⟩:∃b,b=y.getD k 0:=⟨_,rfl⟩
     rw[←hb]at q0
     rw[←hu]at q1 HU
     rw[←hv]at q2 HU
     have HEQ:=I (ac hb (ac hu hv))
     have p0:∀g:G wr,g.W.cell? (ad0.add k)=ae (.bool b):=fun g=>aE g.below q0
     have p1:∀g:G wr,g.W.cell? (ad1.add k)=ae (.int .u64 u):=fun g=>aE g.below q1
     have p2:∀g:G wr,g.W.cell? (ad2.add k)=ae (.int .u64 v):=fun g=>aE g.below q2
     clear hb hu hv q1 q2
     cases b with
     |false=>
      go_wp2_with fail
      refine aG ?_
      intro gg
      refine bJ (by kernel_rfl) (by kernel_rfl) ?_
      repeat(go_big_quiet_step (first | (go_at_call 72;exact aC (trimI HWD.out (by first | exact HU.out.1 | exact HU.out.2) _))))
      refine wpQuiet_nil ?_
      rintro _ ⟨gg,rfl⟩
      go_wp2_with fail
      refine⟨⟨k+1,by go_num,by omega,⟨HB.out.1.trans (gg.below.mono HB.out.1.size),HB.out.2.step fun h=> ?_⟩⟩,by simp[intOf];omega⟩
      rw[←HEQ.out.1]at h;exact absurd h (by decide)
     |true=>
      rcases aJ (trnI wd u==trnI wd v)with ht | ht
      ·go_wp2_with fail
       refine aG ?_
       intro gg
       refine bJ (by kernel_rfl) (by kernel_rfl) ?_
       repeat(go_big_quiet_step (first | (go_at_call 72;exact aC (trimI HWD.out (by first | exact HU.out.1 | exact HU.out.2) _))))
       refine wpQuiet_nil ?_
       rintro _ ⟨gg,rfl⟩
       go_wp2_with fail
       refine⟨⟨k+1,by go_num,by omega,⟨HB.out.1.trans (gg.below.mono HB.out.1.size),HB.out.2.step fun h=> ?_⟩⟩,by simp[intOf];omega⟩
       rw[←HEQ.out.2.1,←HEQ.out.2.2];exact beq_iff_eq.1 ht
      ·have HA:=I (show r=(J,0,1) from by
        rw[HR2.out,if_neg]
        intro h
        have:=h k (by omega) HEQ.out.1.symm
        rw[←HEQ.out.2.1,←HEQ.out.2.2]at this
        rw[beq_iff_eq.2 this]at ht;exact absurd ht (by decide))
       go_wp2_with fail
       refine aG ?_
       intro gg
       refine bJ (by kernel_rfl) (by kernel_rfl) ?_
       repeat(go_big_quiet_step (first | (go_at_call 72;exact aC (trimI HWD.out (by first | exact HU.out.1 | exact HU.out.2) _))))
       refine wpQuiet_nil ?_
       rintro _ ⟨gg,rfl⟩
       go_wp2_with fail
       go_ret3
       exact⟨by rw[HA.out];rfl,HW1.out.trans ((HB.out.1.trans (gg.below.mono HB.out.1.size)).mono HW1.out.size)⟩
    ·have hkl:k=l.length:=by omega
     subst hkl
     have hr3:=HR2.out
     rw[if_pos HB.out.2]at hr3
     have HR3:=I hr3
     obtain⟨⟨er1,S,T⟩,hansx⟩:∃r,r=d7 nm wd ln ds bd x:=⟨_,rfl⟩
     obtain⟨⟨er2,S2,U⟩,hansy⟩:∃r,r=d7 nm wd ln ds bd y:=⟨_,rfl⟩
     rw[←hansx]at HRX HSM HR3
     rw[←hansy]at HRY HSM HR3
     clear hr3 hansx hansy
     have x0:wr.cell? ⟨xb,0,ai⟩=ae (.string nm):=(aA (aD HX.out.2.1 HXR.out) 0).trans rfl
     have x1:wr.cell? ⟨xb,1,ai⟩=ae (.int .i64 wd):=(aA (aD HX.out.2.1 HXR.out) 1).trans rfl
     have x2:wr.cell? ⟨xb,2,ai⟩=ae (.int .i64 ln):=(aA (aD HX.out.2.1 HXR.out) 2).trans rfl
     have x3:wr.cell? ⟨xb,3,ai⟩=ae (.slice A3 ds.length c3):=(aA (aD HX.out.2.1 HXR.out) 3).trans rfl
     have x4:wr.cell? ⟨xb,4,ai⟩=ae (.slice A4 bd.length c4):=(aA (aD HX.out.2.1 HXR.out) 4).trans rfl
     go_wp2_with fail
     refine(HRX.out wr HXR.out).mono ?_
     rintro _ w3 ⟨vS,vT,rfl,hE,hb⟩
     obtain⟨⟨PS,pS,eS,-⟩,P,p,eT,hT⟩:=hE
     replace eS:vS=.slice PS S.length pS:=eS
     replace eT:vT=.slice P T.length p:=eT
     subst eS eT
     obtain⟨ab,hab⟩:∃b,b=w3.heap.size:=⟨_,rfl⟩
     obtain⟨w4,hw4⟩:∃w',w'=w3.alloc (.cells #[.slice PS S.length pS,.slice P T.length p] 40):=⟨_,rfl⟩
     have hb4:Below w3.heap.size w3 w4:=by rw[hw4];exact(ak _ _).alloc (aj _) _
     have hk:w4.heap[ab]? =ae (.cells #[.slice PS S.length pS,.slice P T.length p] 40 (0,0)):=by rw[hw4,hab];exact aY _ _
     have H4:=I (show Below wr.heap.size wr w4/\w4.heap[ab]? =ae (.cells #[.slice PS S.length pS,.slice P T.length p] 40 (0,0))/\kZ.C w4 P T.length T from⟨hb.trans (hb4.mono hb.size),hk,Kd.aF hT hb4⟩)
     clear hb hb4 hk hT x0 x1 x2 x3 x4
     go_upto_region 13 with (fail)
     rw[←hab]
     rw[←hw4]
     clear hab hw4
     have HX4:=I (HXR.out.trans (H4.out.1.mono HXR.out.size))
     have x0:w4.cell? ⟨xb,0,ai⟩=ae (.string nm):=(aA (aD HX.out.2.1 HX4.out) 0).trans rfl
     have x1:w4.cell? ⟨xb,1,ai⟩=ae (.int .i64 wd):=(aA (aD HX.out.2.1 HX4.out) 1).trans rfl
     have x2:w4.cell? ⟨xb,2,ai⟩=ae (.int .i64 ln):=(aA (aD HX.out.2.1 HX4.out) 2).trans rfl
     have x3:w4.cell? ⟨xb,3,ai⟩=ae (.slice A3 ds.length c3):=(aA (aD HX.out.2.1 HX4.out) 3).trans rfl
     have x4:w4.cell? ⟨xb,4,ai⟩=ae (.slice A4 bd.length c4):=(aA (aD HX.out.2.1 HX4.out) 4).trans rfl
     go_wp2_with fail
     refine(HRY.out w4 HX4.out).mono ?_
     rintro _ w5 ⟨vS,vT,rfl,hE,hb⟩
     obtain⟨⟨QS,qS,eS,-⟩,Q,q,eT,hT⟩:=hE
     replace eS:vS=.slice QS S2.length qS:=eS
     replace eT:vT=.slice Q U.length q:=eT
     subst eS eT
     obtain⟨ob,hob⟩:∃b,b=w5.heap.size:=⟨_,rfl⟩
     obtain⟨w6,hw6⟩:∃w',w'=w5.alloc (.cells #[.slice QS S2.length qS,.slice Q U.length q] 40):=⟨_,rfl⟩
     have hb4:Below w5.heap.size w5 w6:=by rw[hw6];exact(ak _ _).alloc (aj _) _
     have hk:w6.heap[ob]? =ae (.cells #[.slice QS S2.length qS,.slice Q U.length q] 40 (0,0)):=by rw[hw6,hob];exact aY _ _
     have H6:=I (show Below w4.heap.size w4 w6/\w6.heap[ob]? =ae (.cells #[.slice QS S2.length qS,.slice Q U.length q] 40 (0,0))/\kZ.C w6 Q U.length U from⟨hb.trans (hb4.mono hb.size),hk,Kd.aF hT hb4⟩)
     clear hb hb4 hk hT x0 x1 x2 x3 x4
     go_upto_region 14 with (fail)
     rw[←hob]
     rw[←hw6]
     clear hob hw6
     have HX6:=I (HX4.out.trans (H6.out.1.mono HX4.out.size))
     have HC6:=I (ac (Kd.aF H4.out.2.2 H6.out.1) (ac H6.out.2.2 (ac (aD H4.out.2.1 H6.out.1) H6.out.2.1)))
     have a1:w6.cell? ⟨ab,1,ai⟩=ae (.slice P T.length p):=(aA HC6.out.2.2.1 1).trans rfl
     have b1:w6.cell? ⟨ob,1,ai⟩=ae (.slice Q U.length q):=(aA HC6.out.2.2.2 1).trans rfl
     obtain⟨⟨d1,d2⟩,hd⟩:∃r,r=difS T U:=⟨_,rfl⟩
     have HDC:=I (differ_calls T U P Q p q w6 HC6.out.1 HC6.out.2.1 HSM.out.1 HSM.out.2 _ hd)
     have HD:=I hd
     clear hd
     go_wp2_with fail
     refine HDC.out.mono ?_
     rintro _ w7 ⟨rfl,hb7⟩
     have H7:=I (show Below W.heap.size W w7/\kZ.C w7 P T.length T/\kZ.C w7 Q U.length U from⟨HX.out.1.trans ((HX6.out.trans (hb7.mono HX6.out.size)).mono HX.out.1.size),Kd.aF HC6.out.1 hb7,Kd.aF HC6.out.2.1 hb7⟩)
     clear a1 b1
     have a1:w7.cell? ⟨ab,1,ai⟩=ae (.slice P T.length p):=(aA (aD HC6.out.2.2.1 hb7) 1).trans rfl
     have b1:w7.cell? ⟨ob,1,ai⟩=ae (.slice Q U.length q):=(aA (aD HC6.out.2.2.2 hb7) 1).trans rfl
     clear hb7
     rcases difS_cases T U with hdd | ⟨j,hdd⟩
     ·have hd2:=HD.out.trans hdd
      injection hd2 with hd1 hd2
      subst hd1 hd2
      have HA:=I (show r=(J,0,0) from HR3.out.trans (nT hdd))
      clear hdd
      go_wp2_with fail
      go_ret3
      exact⟨by rw[HA.out];rfl,H7.out.1⟩
     ·have hd2:=HD.out.trans hdd
      injection hd2 with hd1 hd2
      subst hd1 hd2
      have HJ:=I hdd
      clear hdd
      by_cases h1:j<T.length
      ·have hi1:decide ((j:Int)<(T.length:Int))=af:=decide_eq_true (by omega)
       by_cases h2:j<U.length
       ·have hi2:decide ((j:Int)<(U.length:Int))=af:=decide_eq_true (by omega)
        obtain⟨ad1,e1,q0,-,-⟩:=kL H7.out.2.1 (j:Int) (by omega) (by omega)
        cases e1
        obtain⟨ad2,e2,p0,-,-⟩:=kL H7.out.2.2 (j:Int) (by omega) (by omega)
        cases e2
        rw[au]at q0 p0
        obtain⟨f,hf⟩:∃f,f=(fB T (j:Int)).f0:=⟨_,rfl⟩
        obtain⟨f',hf'⟩:∃f,f=(fB U (j:Int)).f0:=⟨_,rfl⟩
        rw[←hf]at q0
        rw[←hf']at p0
        have HFF:=I (ac hf hf')
        clear hf hf'
        rcases aJ (f==5)with h5 | h5
        ·rcases aJ (f'==5)with h6 | h6
         ·have HA:=I (show r=(J,0,0) from HR3.out.trans (oG HJ.out ⟨h1,h2,by rw[←HFF.out.1];exact beq_iff_eq.1 h5,by rw[←HFF.out.2];exact beq_iff_eq.1 h6⟩))
          go_wp2_with fail
          go_ret3
          exact⟨by rw[HA.out];rfl,H7.out.1⟩
         ·have HA:=I (show r=(af,(j:Int),0) from HR3.out.trans (eC HJ.out (fun h=>by have:=h.2.2.2;rw[←HFF.out.2]at this;rw[beq_iff_eq.2 this]at h6;exact absurd h6 (by decide))))
          go_wp2_with fail
          go_ret3
          exact⟨by rw[HA.out];rfl,H7.out.1⟩
        ·have HA:=I (show r=(af,(j:Int),0) from HR3.out.trans (eC HJ.out (fun h=>by have:=h.2.2.1;rw[←HFF.out.1]at this;rw[beq_iff_eq.2 this]at h5;exact absurd h5 (by decide))))
         go_wp2_with fail
         go_ret3
         exact⟨by rw[HA.out];rfl,H7.out.1⟩
       ·have hi2:decide ((j:Int)<(U.length:Int))=J:=decide_eq_false (by omega)
        have HA:=I (show r=(af,(j:Int),0) from HR3.out.trans (eC HJ.out (fun h=>by exact h2 h.2.1)))
        go_wp2_with fail
        go_ret3
        exact⟨by rw[HA.out];rfl,H7.out.1⟩
      ·have hi1:decide ((j:Int)<(T.length:Int))=J:=decide_eq_false (by omega)
       have HA:=I (show r=(af,(j:Int),0) from HR3.out.trans (eC HJ.out (fun h=>by exact h1 h.1)))
       go_wp2_with fail
       go_ret3
       exact⟨by rw[HA.out];rfl,H7.out.1⟩
  ·have HA:=I (show r=(J,0,170) from by rw[HR.out,if_pos rfl,if_neg hn])
   by_cases hnx:x.length=l.length
   ·have hny:((y.length:Int)==(l.length:Int))=J:=by
     rw[beq_eq_false_iff_ne];intro h;exact hn ⟨hnx,by omega⟩
    rw[hnx]
    clear hn hnx
    go_wp2_with fail
    go_ret3
    exact⟨by rw[HA.out];rfl,HW1.out⟩
   ·have hnx':((x.length:Int)==(l.length:Int))=J:=by
     rw[beq_eq_false_iff_ne];intro h;exact hnx (by omega)
    clear hn hnx
    go_wp2_with fail
    go_ret3
    exact⟨by rw[HA.out];rfl,HW1.out⟩
 ·have HA:=I (show r=(J,0,er) from by rw[HR.out,if_neg he])
  have he0:(er==0)=J:=by rw[beq_eq_false_iff_ne];exact he
  go_wp2_with fail
  go_ret3
  exact⟨by rw[HA.out];rfl,HW1.out⟩
end
section
set_option maxRecDepth 100000
theorem refLeaks_calls (nm:ByteArray)(wd ln:Int)(ds:List S70)(bd:List S119)(A3:Option Addr)(c3:Nat)(A4:Option Addr)(c4:Nat)(W:World)(hp:ProgAt W ds bd A3 c3 A4 c4)(hg:PGood nm wd ln ds bd)(x y:List Int)(A B:Option Addr)(cA cB:Nat)(hx:dG W A x)(hy:dG W B y)(ux:∀v∈x,U64 v)(uy:∀v∈y,U64 v)(r:Bool × Int × Int)(hr:r=pV nm wd ln ds bd x y):
 Calls ar 30 #[.agg #[.string nm,.int .i64 wd,.int .i64 ln,.slice A3 ds.length c3,.slice A4 bd.length c4],.slice A x.length cA,.slice B y.length cB] W fun e W'=>e=.returned (.tuple #[.bool r.1,.int .i64 r.2.1,.int .i64 r.2.2])/\Below W.heap.size W W':=by
 obtain⟨xb,hxb⟩:∃b,b=W.heap.size:=⟨_,rfl⟩
 obtain⟨X,hX⟩:∃X,X=W.alloc (.cells #[.string nm,.int .i64 wd,.int .i64 ln,.slice A3 ds.length c3,.slice A4 bd.length c4] 25):=⟨_,rfl⟩
 have hXB:Below W.heap.size W X:=by rw[hX];exact(ak _ _).alloc (aj _) _
 have hbx:X.heap[xb]? =ae (.cells #[.string nm,.int .i64 wd,.int .i64 ln,.slice A3 ds.length c3,.slice A4 bd.length c4] 25 (0,0)):=by rw[hX,hxb];exact aY _ _
 unfold pV at hr
 obtain⟨⟨l,er⟩,hle⟩:∃r,r=d6 nm wd ln ds bd:=⟨_,rfl⟩
 have hpu:=kS nm wd ln ds bd A3 c3 A4 c4 X (hp.below hXB) hg
 rw[←hle]at hr hpu
 have HPU:=I hpu
 have HLE:=I hle
 have HR:=I hr
 have HX:=I (ac hXB (ac hbx (hp.below hXB)))
 have HI:=I (ac (hx.below hXB) (ac (hy.below hXB) (ac ux uy)))
 have HRX:=I (fun(W':World) (h:Below X.heap.size X W')=>nR nm wd ln ds bd A3 c3 A4 c4 W' ((hp.below hXB).below h) hg x A cA ((hx.below hXB).below h) ux)
 have HRY:=I (fun(W':World) (h:Below X.heap.size X W')=>nR nm wd ln ds bd A3 c3 A4 c4 W' ((hp.below hXB).below h) hg y B cB ((hy.below hXB).below h) uy)
 have HSM:=I (ac (jX nm wd ln ds bd x) (jX nm wd ln ds bd y))
 have HXE:=I (ac hX hxb)
 have x0:X.cell? ⟨xb,0,ai⟩=ae (.string nm):=(aA hbx 0).trans rfl
 have x1:X.cell? ⟨xb,1,ai⟩=ae (.int .i64 wd):=(aA hbx 1).trans rfl
 have x2:X.cell? ⟨xb,2,ai⟩=ae (.int .i64 ln):=(aA hbx 2).trans rfl
 have x3:X.cell? ⟨xb,3,ai⟩=ae (.slice A3 ds.length c3):=(aA hbx 3).trans rfl
 have x4:X.cell? ⟨xb,4,ai⟩=ae (.slice A4 bd.length c4):=(aA hbx 4).trans rfl
 clear hp hg hx hy ux uy hX hxb hXB hbx hr hle hpu
 go_enter Tryz.func30,Tryz.ntmps30
 go_upto_region 1 with (fail)
 rw[←HXE.out.1,←HXE.out.2]
 go_wp2_with fail
 refine HPU.out.mono ?_
 rintro _ w1 ⟨v,rfl,hR,hb1⟩
 obtain⟨Av,cv,hv⟩:=Kd.bY hR
 subst hv
 have hbo:BoolsAt w1 Av l:=by
  obtain⟨A',c',e',-,hC⟩:=Kd.dF hR
  injection e' with e'
  rw[e'];exact boolsAt_C hC
 have H1:=I (ac hb1 hbo)
 have HW1:=I (HX.out.1.trans (hb1.mono HX.out.1.size))
 clear hR hb1 hbo x0 x1 x2 x3 x4
 by_cases he:er=0
 ·have HF:=I (show(bF nm wd ln ds bd).e=0 from by
   by_cases h0:(bF nm wd ln ds bd).e=0
   ·exact h0
   ·have h:=HLE.out
    rw[(gL nm wd ln ds bd).2 h0]at h
    injection h with _ h
    exact absurd (h.symm.trans he) h0)
  have HWD:=I (show 1<=wd from by
   obtain⟨m,e,h⟩:=(fR HF.out).wd
   rw[e];unfold d8 at h;omega)
  subst he
  by_cases hn:x.length=l.length/\y.length=l.length
  ·obtain⟨hnx,hny⟩:=hn
   have HN:=I (ac hnx hny)
   have hr2:=HR.out
   rw[if_pos rfl,if_pos HN.out]at hr2
   have HR2:=I hr2
   have hl1:l.length<=65536:=by
    have h:=HLE.out
    rw[(gL nm wd ln ds bd).1 HF.out]at h
    injection h with h _
    have h2:=lC (fun i hi=>dO HF.out i hi) ds.length (aj _)
    have h3:=(fR HF.out).few
    rw[h];omega
   rw[hnx]at HRX ⊢
   rw[hny]at HRY ⊢
   clear hnx hny hr2
   go_wp2_with fail
   go_loopw [11] (fun i W'=>∃k:Nat,i=.int .i64 k/\k<=l.length/\Aside0 (Below w1.heap.size w1 W'/\jB wd l x y k)) (fun i _=>l.length - (intOf i).toNat)
   case atStart=>exact⟨0,rfl,bg _,⟨ak _ _,jB.zero _ _ _ _⟩⟩
   case round=>
    obtain⟨k,rfl,hk,HB⟩:=hrel
    have HXR:=I (show Below X.heap.size X wr from H1.out.1.trans (HB.out.1.mono H1.out.1.size))
    by_cases hlt:k<l.length
    ·have hi1:(k:Int)<(l.length:Int):=by omega
     obtain⟨ad0,e0,q0⟩:=H1.out.2 k hlt
     cases e0
     obtain⟨ad1,e1,q1⟩:=HI.out.1 k (by rw[HN.out.1];exact hlt)
     cases e1
     obtain⟨ad2,e2,q2⟩:=HI.out.2.1 k (by rw[HN.out.2];exact hlt)
     cases e2
     replace q0:=aE HB.out.1 q0
     replace q1:=aE HXR.out q1
     replace q2:=aE HXR.out q2
     have pw:∀g:G wr,g.W.cell? ⟨xb,1,ai⟩=ae (.int .i64 wd):=fun g=>(aA (aD (aD HX.out.2.1 HXR.out) g.below) 1).trans rfl
     have HU:=I (ac (iV HI.out.2.2.1 k) (iV HI.out.2.2.2 k))
     obtain⟨b,hb⟩:∃b,b=l.getD k J:=⟨_,rfl⟩
     obtain⟨u,hu⟩:∃b,b=x.getD k 0:=⟨_,rfl⟩
     obtain⟨v,hv⟩:∃b,b=y.getD k 0:=⟨_,rfl⟩
     rw[←hb]at q0
     rw[←hu]at q1 HU
     rw[←hv]at q2 HU
     have HEQ:=I (ac hb (ac hu hv))
     have p0:∀g:G wr,g.W.cell? (ad0.add k)=ae (.bool b):=fun g=>aE g.below q0
     have p1:∀g:G wr,g.W.cell? (ad1.add k)=ae (.int .u64 u):=fun g=>aE g.below q1
     have p2:∀g:G wr,g.W.cell? (ad2.add k)=ae (.int .u64 v):=fun g=>aE g.below q2
     clear hb hu hv q1 q2
     cases b with
     |false=>
      go_wp2_with fail
      refine aG ?_
      intro gg
      refine bJ (by kernel_rfl) (by kernel_rfl) ?_
      repeat(go_big_quiet_step (first | (go_at_call 73;exact aC (oQ HWD.out (by first | exact HU.out.1 | exact HU.out.2) _))))
      refine wpQuiet_nil ?_
      rintro _ ⟨gg,rfl⟩
      go_wp2_with fail
      refine⟨⟨k+1,by go_num,by omega,⟨HB.out.1.trans (gg.below.mono HB.out.1.size),HB.out.2.step fun h=> ?_⟩⟩,by simp[intOf];omega⟩
      rw[←HEQ.out.1]at h;exact absurd h (by decide)
     |true=>
      rcases aJ (trnI wd u==trnI wd v)with ht | ht
      ·go_wp2_with fail
       refine aG ?_
       intro gg
       refine bJ (by kernel_rfl) (by kernel_rfl) ?_
       repeat(go_big_quiet_step (first | (go_at_call 73;exact aC (oQ HWD.out (by first | exact HU.out.1 | exact HU.out.2) _))))
       refine wpQuiet_nil ?_
       rintro _ ⟨gg,rfl⟩
       go_wp2_with fail
       refine⟨⟨k+1,by go_num,by omega,⟨HB.out.1.trans (gg.below.mono HB.out.1.size),HB.out.2.step fun h=> ?_⟩⟩,by simp[intOf];omega⟩
       rw[←HEQ.out.2.1,←HEQ.out.2.2];exact beq_iff_eq.1 ht
      ·have HA:=I (show r=(J,0,1) from by
        rw[HR2.out,if_neg]
        intro h
        have:=h k (by omega) HEQ.out.1.symm
        rw[←HEQ.out.2.1,←HEQ.out.2.2]at this
        rw[beq_iff_eq.2 this]at ht;exact absurd ht (by decide))
       go_wp2_with fail
       refine aG ?_
       intro gg
       refine bJ (by kernel_rfl) (by kernel_rfl) ?_
       repeat(go_big_quiet_step (first | (go_at_call 73;exact aC (oQ HWD.out (by first | exact HU.out.1 | exact HU.out.2) _))))
       refine wpQuiet_nil ?_
       rintro _ ⟨gg,rfl⟩
       go_wp2_with fail
       go_ret3
       exact⟨by rw[HA.out];rfl,HW1.out.trans ((HB.out.1.trans (gg.below.mono HB.out.1.size)).mono HW1.out.size)⟩
    ·have hkl:k=l.length:=by omega
     subst hkl
     have hr3:=HR2.out
     rw[if_pos HB.out.2]at hr3
     have HR3:=I hr3
     obtain⟨⟨er1,S,T⟩,hansx⟩:∃r,r=d7 nm wd ln ds bd x:=⟨_,rfl⟩
     obtain⟨⟨er2,S2,U⟩,hansy⟩:∃r,r=d7 nm wd ln ds bd y:=⟨_,rfl⟩
     rw[←hansx]at HRX HSM HR3
     rw[←hansy]at HRY HSM HR3
     clear hr3 hansx hansy
     have x0:wr.cell? ⟨xb,0,ai⟩=ae (.string nm):=(aA (aD HX.out.2.1 HXR.out) 0).trans rfl
     have x1:wr.cell? ⟨xb,1,ai⟩=ae (.int .i64 wd):=(aA (aD HX.out.2.1 HXR.out) 1).trans rfl
     have x2:wr.cell? ⟨xb,2,ai⟩=ae (.int .i64 ln):=(aA (aD HX.out.2.1 HXR.out) 2).trans rfl
     have x3:wr.cell? ⟨xb,3,ai⟩=ae (.slice A3 ds.length c3):=(aA (aD HX.out.2.1 HXR.out) 3).trans rfl
     have x4:wr.cell? ⟨xb,4,ai⟩=ae (.slice A4 bd.length c4):=(aA (aD HX.out.2.1 HXR.out) 4).trans rfl
     go_wp2_with fail
     refine(HRX.out wr HXR.out).mono ?_
     rintro _ w3 ⟨vS,vT,rfl,hE,hb⟩
     obtain⟨⟨PS,pS,eS,-⟩,P,p,eT,hT⟩:=hE
     replace eS:vS=.slice PS S.length pS:=eS
     replace eT:vT=.slice P T.length p:=eT
     subst eS eT
     obtain⟨ab,hab⟩:∃b,b=w3.heap.size:=⟨_,rfl⟩
     obtain⟨w4,hw4⟩:∃w',w'=w3.alloc (.cells #[.slice PS S.length pS,.slice P T.length p] 40):=⟨_,rfl⟩
     have hb4:Below w3.heap.size w3 w4:=by rw[hw4];exact(ak _ _).alloc (aj _) _
     have hk:w4.heap[ab]? =ae (.cells #[.slice PS S.length pS,.slice P T.length p] 40 (0,0)):=by rw[hw4,hab];exact aY _ _
     have H4:=I (show Below wr.heap.size wr w4/\w4.heap[ab]? =ae (.cells #[.slice PS S.length pS,.slice P T.length p] 40 (0,0))/\kZ.C w4 P T.length T from⟨hb.trans (hb4.mono hb.size),hk,Kd.aF hT hb4⟩)
     clear hb hb4 hk hT x0 x1 x2 x3 x4
     go_upto_region 12 with (fail)
     rw[←hab]
     rw[←hw4]
     clear hab hw4
     have HX4:=I (HXR.out.trans (H4.out.1.mono HXR.out.size))
     have x0:w4.cell? ⟨xb,0,ai⟩=ae (.string nm):=(aA (aD HX.out.2.1 HX4.out) 0).trans rfl
     have x1:w4.cell? ⟨xb,1,ai⟩=ae (.int .i64 wd):=(aA (aD HX.out.2.1 HX4.out) 1).trans rfl
     have x2:w4.cell? ⟨xb,2,ai⟩=ae (.int .i64 ln):=(aA (aD HX.out.2.1 HX4.out) 2).trans rfl
     have x3:w4.cell? ⟨xb,3,ai⟩=ae (.slice A3 ds.length c3):=(aA (aD HX.out.2.1 HX4.out) 3).trans rfl
     have x4:w4.cell? ⟨xb,4,ai⟩=ae (.slice A4 bd.length c4):=(aA (aD HX.out.2.1 HX4.out) 4).trans rfl
     go_wp2_with fail
     refine(HRY.out w4 HX4.out).mono ?_
     rintro _ w5 ⟨vS,vT,rfl,hE,hb⟩
     obtain⟨⟨QS,qS,eS,-⟩,Q,q,eT,hT⟩:=hE
     replace eS:vS=.slice QS S2.length qS:=eS
     replace eT:vT=.slice Q U.length q:=eT
     subst eS eT
     obtain⟨ob,hob⟩:∃b,b=w5.heap.size:=⟨_,rfl⟩
     obtain⟨w6,hw6⟩:∃w',w'=w5.alloc (.cells #[.slice QS S2.length qS,.slice Q U.length q] 40):=⟨_,rfl⟩
     have hb4:Below w5.heap.size w5 w6:=by rw[hw6];exact(ak _ _).alloc (aj _) _
     have hk:w6.heap[ob]? =ae (.cells #[.slice QS S2.length qS,.slice Q U.length q] 40 (0,0)):=by rw[hw6,hob];exact aY _ _
     have H6:=I (show Below w4.heap.size w4 w6/\w6.heap[ob]? =ae (.cells #[.slice QS S2.length qS,.slice Q U.length q] 40 (0,0))/\kZ.C w6 Q U.length U from⟨hb.trans (hb4.mono hb.size),hk,Kd.aF hT hb4⟩)
     clear hb hb4 hk hT x0 x1 x2 x3 x4
     go_upto_region 13 with (fail)
     rw[←hob]
     rw[←hw6]
     clear hob hw6
     have HX6:=I (HX4.out.trans (H6.out.1.mono HX4.out.size))
     have HC6:=I (ac (Kd.aF H4.out.2.2 H6.out.1) (ac H6.out.2.2 (ac (aD H4.out.2.1 H6.out.1) H6.out.2.1)))
     have a1:w6.cell? ⟨ab,1,ai⟩=ae (.slice P T.length p):=(aA HC6.out.2.2.1 1).trans rfl
     have b1:w6.cell? ⟨ob,1,ai⟩=ae (.slice Q U.length q):=(aA HC6.out.2.2.2 1).trans rfl
     obtain⟨⟨d1,d2⟩,hd⟩:∃r,r=difS T U:=⟨_,rfl⟩
     have HDC:=I (pK T U P Q p q w6 HC6.out.1 HC6.out.2.1 HSM.out.1 HSM.out.2 _ hd)
     have HD:=I hd
     clear hd
     go_wp2_with fail
     refine HDC.out.mono ?_
     rintro _ w7 ⟨rfl,hb7⟩
     have H7:=I (show Below W.heap.size W w7/\kZ.C w7 P T.length T/\kZ.C w7 Q U.length U from⟨HX.out.1.trans ((HX6.out.trans (hb7.mono HX6.out.size)).mono HX.out.1.size),Kd.aF HC6.out.1 hb7,Kd.aF HC6.out.2.1 hb7⟩)
     clear a1 b1
     have a1:w7.cell? ⟨ab,1,ai⟩=ae (.slice P T.length p):=(aA (aD HC6.out.2.2.1 hb7) 1).trans rfl
     have b1:w7.cell? ⟨ob,1,ai⟩=ae (.slice Q U.length q):=(aA (aD HC6.out.2.2.2 hb7) 1).trans rfl
     clear hb7
     rcases difS_cases T U with hdd | ⟨j,hdd⟩
     ·have hd2:=HD.out.trans hdd
      injection hd2 with hd1 hd2
      subst hd1 hd2
      have HA:=I (show r=(J,0,0) from HR3.out.trans (nT hdd))
      clear hdd
      go_wp2_with fail
      go_ret3
      exact⟨by rw[HA.out];rfl,H7.out.1⟩
     ·have hd2:=HD.out.trans hdd
      injection hd2 with hd1 hd2
      subst hd1 hd2
      have HJ:=I hdd
      clear hdd
      by_cases h1:j<T.length
      ·have hi1:decide ((j:Int)<(T.length:Int))=af:=decide_eq_true (by omega)
       by_cases h2:j<U.length
       ·have hi2:decide ((j:Int)<(U.length:Int))=af:=decide_eq_true (by omega)
        obtain⟨ad1,e1,q0,-,-⟩:=kL H7.out.2.1 (j:Int) (by omega) (by omega)
        cases e1
        obtain⟨ad2,e2,p0,-,-⟩:=kL H7.out.2.2 (j:Int) (by omega) (by omega)
        cases e2
        rw[au]at q0 p0
        obtain⟨f,hf⟩:∃f,f=(fB T (j:Int)).f0:=⟨_,rfl⟩
        obtain⟨f',hf'⟩:∃f,f=(fB U (j:Int)).f0:=⟨_,rfl⟩
        rw[←hf]at q0
        rw[←hf']at p0
        have HFF:=I (ac hf hf')
        clear hf hf'
        rcases aJ (f==5)with h5 | h5
        ·rcases aJ (f'==5)with h6 | h6
         ·have HA:=I (show r=(J,0,0) from HR3.out.trans (oG HJ.out ⟨h1,h2,by rw[←HFF.out.1];exact beq_iff_eq.1 h5,by rw[←HFF.out.2];exact beq_iff_eq.1 h6⟩))
          go_wp2_with fail
          go_ret3
          exact⟨by rw[HA.out];rfl,H7.out.1⟩
         ·have HA:=I (show r=(af,(j:Int),0) from HR3.out.trans (eC HJ.out (fun h=>by have:=h.2.2.2;rw[←HFF.out.2]at this;rw[beq_iff_eq.2 this]at h6;exact absurd h6 (by decide))))
          go_wp2_with fail
          go_ret3
          exact⟨by rw[HA.out];rfl,H7.out.1⟩
        ·have HA:=I (show r=(af,(j:Int),0) from HR3.out.trans (eC HJ.out (fun h=>by have:=h.2.2.1;rw[←HFF.out.1]at this;rw[beq_iff_eq.2 this]at h5;exact absurd h5 (by decide))))
         go_wp2_with fail
         go_ret3
         exact⟨by rw[HA.out];rfl,H7.out.1⟩
       ·have hi2:decide ((j:Int)<(U.length:Int))=J:=decide_eq_false (by omega)
        have HA:=I (show r=(af,(j:Int),0) from HR3.out.trans (eC HJ.out (fun h=>by exact h2 h.2.1)))
        go_wp2_with fail
        go_ret3
        exact⟨by rw[HA.out];rfl,H7.out.1⟩
      ·have hi1:decide ((j:Int)<(T.length:Int))=J:=decide_eq_false (by omega)
       have HA:=I (show r=(af,(j:Int),0) from HR3.out.trans (eC HJ.out (fun h=>by exact h1 h.1)))
       go_wp2_with fail
       go_ret3
       exact⟨by rw[HA.out];rfl,H7.out.1⟩
  ·have HA:=I (show r=(J,0,170) from by rw[HR.out,if_pos rfl,if_neg hn])
   by_cases hnx:x.length=l.length
   ·have hny:((y.length:Int)==(l.length:Int))=J:=by
     rw[beq_eq_false_iff_ne];intro h;exact hn ⟨hnx,by omega⟩
    rw[hnx]
    clear hn hnx
    go_wp2_with fail
    go_ret3
    exact⟨by rw[HA.out];rfl,HW1.out⟩
   ·have hnx':((x.length:Int)==(l.length:Int))=J:=by
     rw[beq_eq_false_iff_ne];intro h;exact hnx (by omega)
    clear hn hnx
    go_wp2_with fail
    go_ret3
    exact⟨by rw[HA.out];rfl,HW1.out⟩
 ·have HA:=I (show r=(J,0,er) from by rw[HR.out,if_neg he])
  have he0:(er==0)=J:=by rw[beq_eq_false_iff_ne];exact he
  go_wp2_with fail
  go_ret3
  exact⟨by rw[HA.out];rfl,HW1.out⟩
end
end Go.Proofs.YtfigjpehecibeaaGreat.L
namespace Go.Proofs.YtfigjpehecibeaaGreat.Ot
open Go.RowKit Go.Proofs.YtfigjpehecibeaaGreat.L Go.Proofs.YtfigjpehecibeaaGreatW.PrintWords Go.Proofs.YtfigjpehecibeaaGreat.Op
abbrev oW (w:World):List Int->List Value->Prop:=(Kd.slice 74 (Kd.int .u64)).K w
abbrev iC (xs:List Int):Prop:=xs.length*8<=140737488351232/\∀v∈xs,okU v
abbrev iG (xs:List Int):Nat:=xs.length+1
theorem opensW {H:Type}{enc:TypeId × Value->H}{w:World}(n:Nat):iN enc ar w Rows.uptoBulk n 36 (Kd.slice 74 (Kd.int .u64)) iC iG:=
 gM (fA bulk (bytes:=8) Tryz.underlying36 (by kernel_rfl) (by kernel_rfl) (by decide) fun m _=>eU bulk jp) (fun _ h=>h) (fun xs=>by rw[sum_ones];exact aj _)
theorem slice_of_K {α:Type}{d:Kd α}{e:Nat}{w:World}{xs:List α}{v:Value}(hs:∃a l c,v=.slice a l c)(h:(Kd.slice e d).K w xs v.cells.toList):∃A c,v=.slice A xs.length c/\xs.length<=c/\d.C w A xs.length xs:=by
 obtain⟨a,l,c,rfl⟩:=hs
 obtain⟨A,c',e1,hl,hc⟩:=h
 simp[Value.cells]at e1
 obtain⟨rfl,rfl,rfl⟩:=e1
 exact⟨a,c,rfl,hl,hc⟩
end Go.Proofs.YtfigjpehecibeaaGreat.Ot
namespace Go.Proofs.YtfigjpehecibeaaGreat.L
open Go.RowKit Bm C Go.Maps Go.Proofs.YtfigjpehecibeaaGreatW.PrintWords Go.Proofs.YtfigjpehecibeaaGreatW.PrintLast Go.Proofs.YtfigjpehecibeaaGreatW.PrintMore Go.Proofs.YtfigjpehecibeaaGreat.Gr
section
set_option maxRecDepth 100000
theorem runLeaks_walk (nm:ByteArray)(wd ln:Int)(ds:List S70)(bd:List S119)(A3:Option Addr)(c3:Nat)(A4:Option Addr)(c4:Nat)(x y:List Int)(A B:Option Addr)(cA cB:Nat)(w:World)(hp:ProgAt w ds bd A3 c3 A4 c4)(hg:PGood nm wd ln ds bd)(hI:(Kd.int .u64).C w A x.length x)(hJ:(Kd.int .u64).C w B y.length y)(hc:x.length<=cA)(hd:y.length<=cB)(ux:∀v∈x,U64 v)(uy:∀v∈y,U64 v)(hl:x.length<=1073741824)(hm:y.length<=1073741824):
 Calls ar 6 #[.agg #[.string nm,.int .i64 wd,.int .i64 ln,.slice A3 ds.length c3,.slice A4 bd.length c4],.slice A x.length cA,.slice B y.length cB] w fun e w'=>e=.returned (.bool af)/\Below w.heap.size w w':=by
 obtain⟨xb,hxb⟩:∃b,b=w.heap.size:=⟨_,rfl⟩
 obtain⟨X,hX⟩:∃X,X=w.alloc (.cells #[.string nm,.int .i64 wd,.int .i64 ln,.slice A3 ds.length c3,.slice A4 bd.length c4] 25):=⟨_,rfl⟩
 have hXB:Below w.heap.size w X:=by rw[hX];exact(ak _ _).alloc (aj _) _
 have hbx:X.heap[xb]? =ae (.cells #[.string nm,.int .i64 wd,.int .i64 ln,.slice A3 ds.length c3,.slice A4 bd.length c4] 25 (0,0)):=by rw[hX,hxb];exact aY _ _
 have PAt:=I (ac hp (ac hXB (ac hbx (ac (ac hI hJ) (ac (ac hc hd) (ac ux uy))))))
 have HG:=I hg
 have HXE:=I (ac hX hxb)
 have x0:X.cell? ⟨xb,0,ai⟩=ae (.string nm):=(aA hbx 0).trans rfl
 have x1:X.cell? ⟨xb,1,ai⟩=ae (.int .i64 wd):=(aA hbx 1).trans rfl
 have x2:X.cell? ⟨xb,2,ai⟩=ae (.int .i64 ln):=(aA hbx 2).trans rfl
 have x3:X.cell? ⟨xb,3,ai⟩=ae (.slice A3 ds.length c3):=(aA hbx 3).trans rfl
 have x4:X.cell? ⟨xb,4,ai⟩=ae (.slice A4 bd.length c4):=(aA hbx 4).trans rfl
 clear hp hg hI hJ hc hd ux uy hX hxb hXB hbx
 go_enter Tryz.func6,Tryz.ntmps6
 go_upto_region 1 with (fail)
 rw[←HXE.out.1,←HXE.out.2]
 go_wp2_with fail
 refine(own_calls nm wd ln ds bd A3 c3 A4 c4 X (PAt.out.1.below PAt.out.2.1) HG.out).mono ?_
 rintro _ V ⟨A31,c31,A41,c41,rfl,hp1,hb1⟩
 have P1:=I (ac hp1 (ac hb1 (PAt.out.2.1.trans (hb1.mono PAt.out.2.1.size))))
 clear hp1 hb1 x0 x1 x2 x3 x4
 have HO:=I (show(Kd.int .u64).R 74 (V.alloc (.cells #[] 74)) V.heap.size (fun _=>True) (.slice (ae ⟨V.heap.size,0,ai⟩) 0 0) ([]:List Int) from⟨fun _ _=>trivial,[],own_lit V V.heap.size 74 .u64 [] (aj _) (bg _),fX.none _ _⟩)
 have hba:Below V.heap.size V (V.alloc (.cells #[] 74)):=(ak _ _).alloc (aj _) _
 have HBA:=I hba
 have HIC:=I (Kd.aF (Kd.aF PAt.out.2.2.2.1.1 P1.out.2.2) hba)
 have HL8:=I (show(([]:List Int).length+x.length)*8<=140737488355328 from by simp;omega)
 clear hba
 go_wp2_with (at_builtin;refine Kd.R_append_row (az .u64) (0:Int) (w0:=V) V.heap.size rfl (.tmp 16) (.tmp 17) 36 74 (.int .u64 0) 8 rfl jZ oF rfl (by decide) (.slice (ae ⟨V.heap.size,0,ai⟩) 0 0) [] x A x.length cA (ok:=fun _=>True) rfl rfl (fun _ _=>trivial) HO.out HIC.out HBA.out HBA.out.size HL8.out ?_)
 intro v2 u2 hr2 hb2 hg2 hat2
 obtain⟨Ax,cx,hv2,lx,gx⟩:=Kd.dF hr2
 subst hv2
 have H2:=I (show Below w.heap.size w u2/\u2.heap[xb]? =ae (.cells #[.string nm,.int .i64 wd,.int .i64 ln,.slice A3 ds.length c3,.slice A4 bd.length c4] 25 (0,0))/\ProgAt u2 ds bd A31 c31 A41 c41/\dG u2 Ax x/\x.length<=cx from⟨P1.out.2.2.trans (hb2.mono P1.out.2.2.size),aD (aD PAt.out.2.2.1 P1.out.2.1) hb2,P1.out.1.below hb2,kN gx,lx⟩)
 clear hr2 hb2 hg2 hat2 lx gx HO HBA HIC HL8
 have HO:=I (show(Kd.int .u64).R 74 (u2.alloc (.cells #[] 74)) u2.heap.size (fun _=>True) (.slice (ae ⟨u2.heap.size,0,ai⟩) 0 0) ([]:List Int) from⟨fun _ _=>trivial,[],own_lit u2 u2.heap.size 74 .u64 [] (aj _) (bg _),fX.none _ _⟩)
 have hba:Below u2.heap.size u2 (u2.alloc (.cells #[] 74)):=(ak _ _).alloc (aj _) _
 have HBA:=I hba
 have HIC:=I (Kd.aF (Kd.aF PAt.out.2.2.2.1.2 H2.out.1) hba)
 have HL8:=I (show(([]:List Int).length+y.length)*8<=140737488355328 from by simp;omega)
 clear hba
 go_wp2_with (at_builtin;refine Kd.R_append_row (az .u64) (0:Int) (w0:=u2) u2.heap.size rfl (.tmp 19) (.tmp 20) 36 74 (.int .u64 0) 8 rfl jZ oF rfl (by decide) (.slice (ae ⟨u2.heap.size,0,ai⟩) 0 0) [] y B y.length cB (ok:=fun _=>True) rfl rfl (fun _ _=>trivial) HO.out HIC.out HBA.out HBA.out.size HL8.out ?_)
 intro v3 u3 hr3 hb3 hg3 hat3
 obtain⟨Ay,cy,hv3,ly,gy⟩:=Kd.dF hr3
 subst hv3
 have H3:=I (show Below w.heap.size w u3/\u3.heap[xb]? =ae (.cells #[.string nm,.int .i64 wd,.int .i64 ln,.slice A3 ds.length c3,.slice A4 bd.length c4] 25 (0,0)) from⟨H2.out.1.trans (hb3.mono H2.out.1.size),aD H2.out.2.1 hb3⟩)
 have hwy:=kN gy
 obtain⟨r,hr⟩:∃r,r=pV nm wd ln ds bd x y:=⟨_,rfl⟩
 have HL1:=I (leaks_calls nm wd ln ds bd A31 c31 A41 c41 u3 (H2.out.2.2.1.below hb3) HG.out x y Ax Ay cx cy (H2.out.2.2.2.1.below hb3) hwy PAt.out.2.2.2.2.2.1 PAt.out.2.2.2.2.2.2 H2.out.2.2.2.2 ly r hr)
 have HL2:=I (fun(W:World) (hW:Below w.heap.size w W)=>refLeaks_calls nm wd ln ds bd A3 c3 A4 c4 W (PAt.out.1.below hW) HG.out x y A B cA cB (kN (Kd.aF PAt.out.2.2.2.1.1 hW)) (kN (Kd.aF PAt.out.2.2.2.1.2 hW)) PAt.out.2.2.2.2.2.1 PAt.out.2.2.2.2.2.2 r hr)
 clear hr3 hb3 hg3 hat3 ly gy hwy hr HO HBA HIC HL8
 go_wp2_with fail
 refine HL1.out.mono ?_
 rintro _ w4 ⟨rfl,hb4⟩
 have H4:=I (ac (H3.out.1.trans (hb4.mono H3.out.1.size)) (aD H3.out.2 hb4))
 have x0:w4.cell? ⟨xb,0,ai⟩=ae (.string nm):=(aA H4.out.2 0).trans rfl
 have x1:w4.cell? ⟨xb,1,ai⟩=ae (.int .i64 wd):=(aA H4.out.2 1).trans rfl
 have x2:w4.cell? ⟨xb,2,ai⟩=ae (.int .i64 ln):=(aA H4.out.2 2).trans rfl
 have x3:w4.cell? ⟨xb,3,ai⟩=ae (.slice A3 ds.length c3):=(aA H4.out.2 3).trans rfl
 have x4:w4.cell? ⟨xb,4,ai⟩=ae (.slice A4 bd.length c4):=(aA H4.out.2 4).trans rfl
 clear hb4
 go_wp2_with fail
 refine(HL2.out w4 H4.out.1).mono ?_
 rintro _ w5 ⟨rfl,hb5⟩
 have H5:=I (H4.out.1.trans (hb5.mono H4.out.1.size))
 clear hb5 x0 x1 x2 x3 x4
 go_wp2_with fail
 go_ret
 exact⟨by simp,H5.out⟩
theorem runLeaks_law (v0:Value)(x0:Ot.Prog)(v1:Value)(x1:List Int)(v2:Value)(x2:List Int)(w:World)(s0:∃cs,v0=.agg cs/\cs.size=Tryz.prog.cellsOf 25)(k0:Ot.opensP_K w x0 v0.cells.toList)(g0:Ot.pE x0){m0:Nat}(b0:Ot.rD x0<=m0)(s1:∃a l c,v1=.slice a l c)(k1:Ot.oW w x1 v1.cells.toList)(g1:Ot.iC x1){m1:Nat}(b1:Ot.iG x1<=m1)(s2:∃a l c,v2=.slice a l c)(k2:Ot.oW w x2 v2.cells.toList)(g2:Ot.iC x2){m2:Nat}(b2:Ot.iG x2<=m2)(hb:m0+m1+m2<=1048576):
 Calls ar 6 #[v0,v1,v2] w fun e w'=>e=.returned (.bool af)/\Below w.heap.size w w':=by
 obtain⟨A3,c3,A4,c4,rfl,l3,g3,l4,g4⟩:=Ot.prog_of_K (s0.imp fun _ h=>h.1) k0
 obtain⟨A,c,rfl,l5,g5⟩:=Ot.slice_of_K s1 k1
 obtain⟨B,d,rfl,l6,g6⟩:=Ot.slice_of_K s2 k2
 have hx1:x1.length+1<=m1:=b1
 have hx2:x2.length+1<=m2:=b2
 refine runLeaks_walk x0.nm x0.wd x0.ln x0.ds x0.bd A3 c3 A4 c4 x1 x2 A B c d w ⟨g3,l3,g4,l4⟩ ⟨g0,bk b0 (by omega)⟩ g5 g6 l5 l6 (fun v hv=> ?_) (fun v hv=> ?_) (by omega) (by omega)
 ·obtain⟨n,e,h⟩:=wf_u64 (g1.2 v hv)
  rw[e];exact mA h
 ·obtain⟨n,e,h⟩:=wf_u64 (g2.2 v hv)
  rw[e];exact mA h
end
end Go.Proofs.YtfigjpehecibeaaGreat.L
