/- Texts joined by a program of mine: Dm Dk Tk Dl. -/
import Derived.Shelf.RegionOpen
import Derived.OwnWalkIn
import Derived.TacticsInMore
import Derived.LoopNIn
import Derived.LoopIn
import Derived.Test.YtfigjpehecibeaaGreatZh2
import Derived.Test.YtfigjpehecibeaaGreatZh5
import Derived.Test.YtfigjpehecibeaaGreatZh7
import Derived.Test.YtfigjpehecibeaaGreatZh8
import Derived.Test.YtfigjpehecibeaaGreatZh9
import Derived.Test.YtfigjpehecibeaaGreatZh11
import Derived.Test.YtfigjpehecibeaaGreatZh12
set_option maxRecDepth 100000
open And renaming intro -> aj
open Array renaming getElem?_eq_some_iff -> ck
open Bool renaming false -> ac, true -> af
open Go.Act renaming put -> ay
open Go.Proofs.Tryz renaming prog -> au
open Go.Proofs.YtfigjpehecibeaaGreatW.PrintWords.Aside0 renaming mk -> aa
open Go.RowKit.Below renaming refl -> ar
open Int renaming natCast_nonneg -> bo, toNat_natCast -> ax
open List renaming length_cons -> jn, cons_append -> gp, replicate -> bg, length_replicate -> dx, setIfInBounds_toArray -> ae, set_cons_zero -> ah, set_cons_succ -> ai, map_toArray -> cd, map_cons -> cg, map_nil -> db, mem_append -> fk
open Nat renaming le_refl -> aq, le_trans -> bi, zero_le -> bk
open Option renaming some -> ag, none -> ak
open Or renaming inl -> bc
set_option linter.unusedVariables false
set_option linter.unusedSimpArgs false
set_option maxHeartbeats 8000000
namespace Go.Proofs.YtfigjpehecibeaaGreat.L
open Go.RowKit Bm C Rg Go.Maps Go.Proofs.YtfigjpehecibeaaGreatW.PrintWords Go.Proofs.YtfigjpehecibeaaGreatW.PrintLast Go.Proofs.YtfigjpehecibeaaGreatW.PrintMore Go.Proofs.YtfigjpehecibeaaGreat.Gr
section
set_option maxRecDepth 100000
attribute [local go_sem] Oper.semAt_some
def noP (Q:Exit->Act->World->Prop):Exit->Act->World->Prop
 | .panic _,_,_=>False
 |e,a,w=>Q e a w
theorem noP_wp {P:Program}{c:Code}{Q:Exit->Act->World->Prop}{a:Act}{w:World}(h:c.wp P (noP Q) a w):c.wp P Q a w:=wp_mono h fun e a w h=>by
 cases e <;> first | exact h | exact h.elim
theorem decide_in (nm:ByteArray)(wd ln:Int)(ds:List S70)(bd:List S119)(A3:Option Addr)(c3:Nat)(A4:Option Addr)(c4:Nat)(most:Int)(W:World)(hp:ProgAt W ds bd A3 c3 A4 c4)(hg:PGood nm wd ln ds bd)(r:S5)(hr:r=lB nm wd ln ds bd most):
 Calls au 40 #[.agg #[.string nm,.int .i64 wd,.int .i64 ln,.slice A3 ds.length c3,.slice A4 bd.length c4],.int .i64 most] W (R40 W r):=by
 obtain⟨pb,hpb⟩:∃b,b=W.heap.size:=⟨_,rfl⟩;obtain⟨X,hX⟩:∃X,X=made6 W #[.string nm,.int .i64 wd,.int .i64 ln,.slice A3 ds.length c3,.slice A4 bd.length c4]:=⟨_,rfl⟩
 have hXB:Below W.heap.size W X:=by rw[hX];exact made6_below W _
 have hbp:X.heap[pb]? =ag (.cells #[.string nm,.int .i64 wd,.int .i64 ln,.slice A3 ds.length c3,.slice A4 bd.length c4] 25 (0,0)):=by rw[hX,hpb];exact made6_prog W _
 have hrs:Res pb X (.bool ac) (.slice ak 0 0) (.slice ak 0 0) (.int .i64 0) (.int .i64 0):=by rw[hX,hpb];exact made6_res W _
 obtain⟨⟨b1,b2,er⟩,hbi⟩:∃r,r=fS nm wd ln ds bd:=⟨_,rfl⟩;have HPU:=aa (fun(W':World) (h:Below X.heap.size X W')=>jL nm wd ln ds bd A3 c3 A4 c4 W' ((hp.below hXB).below h) hg);have HBI:=aa (inBits_calls nm wd ln ds bd A3 c3 A4 c4 X (hp.below hXB) hg _ hbi);have HX:=aa (aj hXB (aj hbp hrs));have HP:=aa (aj (hp.below hXB) hg);unfold lB at hr;rw[←hbi]at hr;have HR:=aa hr;have HBE:=aa hbi;have HXE:=aa (aj (show _ =made6 W #[.string nm,.int .i64 wd,.int .i64 ln,.slice A3 ds.length c3,.slice A4 bd.length c4] from hX) hpb);have HLE:=aa (show W.heap.size<=pb from Nat.le_of_eq hpb.symm);have x0:X.cell? ⟨pb,0,ak⟩=ag (.string nm):=(aA hbp 0).trans rfl;have x1:X.cell? ⟨pb,1,ak⟩=ag (.int .i64 wd):=(aA hbp 1).trans rfl;have x2:X.cell? ⟨pb,2,ak⟩=ag (.int .i64 ln):=(aA hbp 2).trans rfl;have x3:X.cell? ⟨pb,3,ak⟩=ag (.slice A3 ds.length c3):=(aA hbp 3).trans rfl;have x4:X.cell? ⟨pb,4,ak⟩=ag (.slice A4 bd.length c4):=(aA hbp 4).trans rfl;clear hp hg hX hpb hXB hbp hrs hr hbi;refine(callsIn_wide (n:=9)).1 ?_;refine callsIn_of_wp_marks Tryz.func40 rfl trivial ?_ rfl;simp only[Tryz.ntmps40,List.size_toArray,jn,List.length_nil,Nat.reduceAdd,Nat.reduceSub,Array.replicate_succ,Array.replicate_zero,List.push_toArray,List.append_toArray,List.nil_append,gp];refine wpIn_wide.2 ?_;refine noP_wp ?_;obtain⟨Q,hQ⟩:∃Q,Q=bodyPostM Fence.wide 9 au Tryz.f40 (R40 W r):=⟨_,rfl⟩;rw[←hQ];have HQE:=aa hQ;clear hQ
 go_upto_region 1 with (fail)
 have hxe:=HXE.out.1;unfold made6 at hxe;rw[←hxe,←HXE.out.2];clear hxe;go_wp2_with fail;refine HBI.out.mono ?_;rintro _ w1 ⟨rfl,hb1⟩;have H1:=aa (aj hb1 (HX.out.1.trans (hb1.mono HX.out.1.size)));have HR1:=aa (HX.out.2.2.below hb1);have bc4:=HR1.out.b4.cell;have bf4:=HR1.out.b4.frozen;have bc5:=HR1.out.b5.cell;have bf5:=HR1.out.b5.frozen;have bc6:=HR1.out.b6.cell;have bf6:=HR1.out.b6.frozen;have bc7:=HR1.out.b7.cell;have bf7:=HR1.out.b7.frozen;have bc8:=HR1.out.b8.cell;have bf8:=HR1.out.b8.frozen;clear hb1 x0 x1 x2 x3 x4
 by_cases he:er=0
 ·have HF:=aa (show(bC nm wd ln ds bd).e=0 from by
   by_cases h0:(bC nm wd ln ds bd).e=0
   ·exact h0
   ·have h:=HBE.out;unfold fS at h;rw[(dE nm wd ln ds bd).2 h0]at h;injection h with _ h;injection h with _ h
    exact absurd (h.symm.trans he) h0)
  subst he;obtain⟨w,hwm,hwd⟩:=(cZ HF.out).wd
  have hw1:1<=w/\w<=64:=by unfold dP at hwd;omega
  have hq:=(dE nm wd ln ds bd).1 HF.out;obtain⟨P,hP⟩:∃P,P=fI ds ds.length:=⟨_,rfl⟩;obtain⟨n,hn⟩:∃n,n=P.length:=⟨_,rfl⟩
  have hn1:n<=65536:=by
   have h2:=fU (fun i hi=>cJ HF.out i hi) ds.length (aq _);have h3:=(cZ HF.out).few;rw[hn,hP];omega
  obtain⟨hb1,hb2⟩:(0<=b1/\b1<=4194304)/\0<=b2/\b2<=4194304:=by
   have h:=HBE.out;unfold fS at h;rw[hq,←hP]at h;dsimp only at h;injection h with h1 h;injection h with h2 _;have k1:=lS af P P.length;have k2:=lS ac P P.length;rw[h1,h2];exact⟨fC (by omega) (by omega) k1.1 (by omega),fC (by omega) (by omega) k2.1 (by omega)⟩
  have HN:=aa (aj hn (aj hP hn1));have HWD:=aa (aj hwm hw1);rw[←hP,←hn]at HR;rw[←hP]at hq;have HQ:=aa hq;clear hP hn hwm hwd hw1 hq
  by_cases hm:most<0\/24<most
  ·have HA:=aa (show r=⟨ac,[],[],0,1⟩ from by rw[HR.out,if_pos rfl,if_pos hm])
   by_cases h0:most<0
   ·go_wp2_with fail
    show Q _ _ _
    rw[HQE.out,HA.out];exact out40 rfl rfl rfl rfl rfl (HR1.out.put _ _ _ _ _) (Out.none _) (Out.none _) (H1.out.2.trans (iO (Nat.le_succ_of_le HLE.out) _ _ _ _ _ _))
   ·have h24:24<most:=by omega
    go_wp2_with fail
    show Q _ _ _
    rw[HQE.out,HA.out];exact out40 rfl rfl rfl rfl rfl (HR1.out.put _ _ _ _ _) (Out.none _) (Out.none _) (H1.out.2.trans (iO (Nat.le_succ_of_le HLE.out) _ _ _ _ _ _))
  ·have h0:¬most<0:=by omega
   have h24:¬24<most:=by omega
   by_cases hbm:most<b1+2*b2
   ·have HA:=aa (show r=⟨ac,[],[],0,290⟩ from by rw[HR.out,if_pos rfl,if_neg hm,if_pos hbm]);go_wp2_with fail
    show Q _ _ _
    rw[HQE.out,HA.out];exact out40 rfl rfl rfl rfl rfl (HR1.out.put _ _ _ _ _) (Out.none _) (Out.none _) (H1.out.2.trans (iO (Nat.le_succ_of_le HLE.out) _ _ _ _ _ _))
   ·have HA:=aa (show r=foundS (jF (partL nm wd ln ds bd) wd n P (jZ wd n) (jZ wd n) (bg n 0)) from by rw[HR.out,if_pos rfl,if_neg hm,if_neg hbm]);have hbp:=aB HX.out.2.1 H1.out.1;have x0:w1.cell? ⟨pb,0,ak⟩=ag (.string nm):=(aA hbp 0).trans rfl;have x1:w1.cell? ⟨pb,1,ak⟩=ag (.int .i64 wd):=(aA hbp 1).trans rfl;have x2:w1.cell? ⟨pb,2,ak⟩=ag (.int .i64 ln):=(aA hbp 2).trans rfl;have x3:w1.cell? ⟨pb,3,ak⟩=ag (.slice A3 ds.length c3):=(aA hbp 3).trans rfl;have x4:w1.cell? ⟨pb,4,ak⟩=ag (.slice A4 bd.length c4):=(aA hbp 4).trans rfl;have HPB:=aa (HPU.out w1 H1.out.1);rw[HQ.out]at HPB;clear hbp hm bc4 bc5 bc6 bc7 bc8 bf4 bf5 bf6 bf7 bf8;go_wp2_with fail;refine HPB.out.mono ?_;rintro _ P0 ⟨v,rfl,hR,hb2⟩;obtain⟨Av,cv,hv⟩:=Kd.bN hR;subst hv;obtain⟨ob,hob⟩:∃b,b=P0.heap.size:=⟨_,rfl⟩;obtain⟨w2,hw2⟩:∃w',w'=P0.alloc (.cells #[.slice Av P.length cv] 30):=⟨_,rfl⟩
    have hb3:Below P0.heap.size P0 w2:=by rw[hw2];exact(ar _ _).alloc (aq _) _
    have HO:=aa (show Below X.heap.size X w2/\fA w2 Av P/\w2.heap[ob]? =ag (.cells #[.slice Av P.length cv] 30 (0,0)) from⟨H1.out.1.trans ((hb2.trans (hb3.mono hb2.size)).mono H1.out.1.size),(show fA P0 Av P from by
     obtain⟨A',c',e',-,hC⟩:=Kd.cO hR;injection e' with e'
     rw[e'];exact iW hC).below hb3,by rw[hw2,hob];exact aW _ _⟩)
    rw[←HN.out.1]at HO;have HWP:=aa (HX.out.1.trans (HO.out.1.mono HX.out.1.size));have hw9:(0:Int)<=(n:Int):=bo _
    have hw8:(n:Int).toNat*1<=281474976710656:=by have:=HN.out.2.2;omega
    have o0:w2.cell? ⟨ob,0,ak⟩=ag (.slice Av n cv):=(aA HO.out.2.2 0).trans rfl;rw[←HN.out.1];rw[←HN.out.1]at hw2;have HW2:=aa (aj hw2 hob);clear hR hb2 hb3 hw2 hob x0 x1 x2 x3 x4 hb1 h0 h24 hbm
    go_upto_region 9 with (fail)
    rw[←HW2.out.1,←HW2.out.2];clear HW2
    go_wp2_with (at_make;refine Kd.R_make Kd.bool (w0:=w2) w2.heap.size 4 rfl rfl 30 (.tmp 56) (.tmp 56) rfl (n:Int) rfl rfl rI (.bool ac) 1 info4 rfl (by decide) (by decide) ac (ok:=fun _=>True) (okp:=fun _=>True) rfl (fun _ h=>h) trivial hw9 hw8 (ar _ _) (aq _) ?_)
    intro vn u1 hrn hbn hgn bn0 hatn hlen
    try rw[ax]at hrn
    obtain⟨An,cn,hv⟩:=Kd.bN hrn;subst hv;rw[dx]
    have HNN:=aa (show Below w2.heap.size w2 u1/\fA u1 An (bg n ac) from⟨hbn,by
     obtain⟨A',c',e',-,hC⟩:=Kd.cO hrn;injection e' with e'
     rw[e'];exact iW hC⟩)
    have HU1:=aa (show Below X.heap.size X u1 from HO.out.1.trans (hbn.mono HO.out.1.size));have hbp:=aB HX.out.2.1 HU1.out;have HOB:=aa (aB HO.out.2.2 hbn);clear hrn hbn hgn hatn hlen o0 hw8;go_wp2_with fail;have p1:∀g:G u1,g.W.cell? ⟨pb,1,ak⟩=ag (.int .i64 wd):=fun g=>(aA (aB hbp g.below) 1).trans rfl;have p2:∀g:G u1,g.W.cell? ⟨ob,0,ak⟩=ag (.slice Av n cv):=fun g=>(aA (aB HOB.out g.below) 0).trans rfl
    have hw8:(n:Int).toNat*8<=281474976710656:=by have:=HN.out.2.2;omega
    clear hbp;refine aG ?_;intro gg;refine eP (n:=7) (S:=fun w'=>∃g':G _,w'=g'.W) (ds:=[]) #[ac,ac,ac,ac,ac,ac,ac] (by kernel_rfl) rfl rfl ⟨mkG (gg.2.drew),rfl⟩ (fun hHeld=> ?_);obtain⟨gd,hgd⟩:=hHeld;rw[hgd];clear hgd;refine aP (i:=0) (N:=ag 58) (v:= ?_) (a':= ?_) #[af,ac,ac,ac,ac,ac,ac] rfl rfl (by kernel_rfl) (fun _ _ _ h=>h) (bc ⟨by rfl,?_⟩) ?_ ?_;rotate_left
    ·intro w';go_simp;with_reducible rfl
    rotate_left
    ·simp only[ay,ae,ah,ai,aJ,aK];rfl
    refine cY (i:=1) (N:=ag 59) (v:= ?_) (a':= ?_) #[af,af,ac,ac,ac,ac,ac] rfl rfl (by kernel_rfl) (fun _ _ _ h=>h) (bc ⟨by rfl,?_⟩) ⟨gd,rfl⟩ ?_ ?_;rotate_left
    ·rintro w' ⟨g',rfl⟩;go_simp;with_reducible rfl
    rotate_left
    ·simp only[ay,ae,ah,ai,aJ,aK];rfl
    refine cY (i:=2) (N:=ag 60) (v:= ?_) (a':= ?_) #[af,af,af,ac,ac,ac,ac] rfl rfl (by kernel_rfl) (fun _ _ _ h=>h) (bc ⟨by rfl,?_⟩) ⟨gd,rfl⟩ ?_ ?_;rotate_left
    ·rintro w' ⟨g',rfl⟩;go_simp;with_reducible rfl
    rotate_left
    ·simp only[ay,ae,ah,ai,aJ,aK];rfl
    refine aP (i:=3) (N:=ag 61) (v:= ?_) (a':= ?_) #[af,af,af,af,ac,ac,ac] rfl rfl (by kernel_rfl) (fun _ _ _ h=>h) (bc ⟨by rfl,?_⟩) ?_ ?_;rotate_left
    ·intro w';go_simp;with_reducible rfl
    rotate_left
    ·simp only[ay,ae,ah,ai,aJ,aK];rfl
    refine aP (i:=5) (N:=ag 63) (v:= ?_) (a':= ?_) #[af,af,af,af,ac,af,ac] rfl rfl (by kernel_rfl) (fun _ _ _ h=>h) (bc ⟨by rfl,?_⟩) ?_ ?_;rotate_left
    ·intro w';go_simp;with_reducible rfl
    rotate_left
    ·simp only[ay,ae,ah,ai,aJ,aK];rfl
    refine kH (i:=4) (N:=ag 62) #[af,af,af,af,af,af,ac] rfl rfl (by kernel_rfl) (by simp) (fun Kr hKr=> ?_);refine Kd.R_make_step (Kd.int .u64) (w0:=gd.W) gd.W.heap.size 74 (by rfl) rfl 36 (.tmp 61) (.tmp 61) rfl (n:Int) (by rfl) (by rfl) gM (.int .u64 0) 8 mL rfl (by decide) (by decide) (0:Int) (ok:=fun _=>True) (okp:=fun _=>False) rfl (fun _ h=>h.elim) trivial hw9 hw8 (ar _ _) (aq _) ?_;rintro vx ux hrx hbx hgx ⟨bx,hatx,hlex⟩;rw[ax]at hrx;obtain⟨Ax,cx,hv⟩:=Kd.bN hrx;subst hv;rw[dx]
    have HXR:=aa (show(Kd.int .u64).C ux Ax n (bg n 0) from by
     have h:=(RowO.of_R hrx).rd
     rwa [dx]at h)
    obtain⟨gx,rfl⟩:∃g':G u1,ux=g'.W:=⟨mkG (gd.below.trans (hbx.mono gd.below.size)),rfl⟩;refine hKr.out _ _ ⟨gx,rfl⟩ (fun _=> ?_);clear hrx hbx hgx hatx hlex;clear hKr Kr;refine cW (a':= ?_) ?_ ?_;rotate_left
    ·show ay _ (ag 62) _ = _
     simp only[ay,ae,ah,ai,aJ,aK];rfl
    refine kH (i:=6) (N:=ag 64) #[af,af,af,af,af,af,af] rfl rfl (by kernel_rfl) (by simp) (fun Kr hKr=> ?_);refine iP Tryz.func99 (by kernel_rfl) rfl #[.int .i64 wd,.slice Ax n cx,.slice An n cn] (by rfl) rfl rfl (by(try simp only[cd,cg,db]);first | done | rfl) ?_;refine(rows_calls wd Ax An n cx cn gx.W).mono ?_;rintro _ w9 ⟨rfl,hw9'⟩;refine⟨_,rfl,?_⟩;obtain⟨hb9,k1,k2,k3⟩:=rows_facts hw9';obtain⟨sz,hsz⟩:∃s,s=gx.W.heap.size:=⟨_,rfl⟩;rw[←hsz]at k1 k2 k3 ⊢;have HIT:=aa (aj k1 (aj k2 (aj k3 (Kd.aF HXR.out hb9))));obtain⟨gz,rfl⟩:∃g':G u1,w9=g'.W:=⟨mkG (gx.below.trans (hb9.mono gx.below.size)),rfl⟩;refine hKr.out _ _ ⟨gz,rfl⟩ (fun _=> ?_);clear hb9 k1 k2 k3 hsz hw9';clear hKr Kr;refine cW (a':= ?_) ?_ ?_;rotate_left
    ·show ay _ (ag 64) _ = _
     simp only[ay,ae,ah,ai,aJ,aK];rfl
    refine iF (by kernel_rfl) ?_;obtain⟨w0,hw0⟩:∃w0,w0=gz.W:=⟨_,rfl⟩;have HB0:=aa (show Below u1.heap.size u1 w0 from by rw[hw0];exact gz.below);rw[←hw0]at HIT ⊢;clear hw0 p1 p2 HXR hw8 hw9;go_wp2_with fail;have HB:=aa (show Below X.heap.size X w0 from HU1.out.trans (HB0.out.mono HU1.out.size));have HBW:=aa (show Below W.heap.size W w0 from HX.out.1.trans (HB.out.mono HX.out.1.size));have HRW:=aa (HX.out.2.2.below HB.out);have HPW:=aa (aB HX.out.2.1 HB.out);have HOW:=aa (show w0.heap[ob]? =ag (.cells #[.slice Av n cv] 30 (0,0))/\fA w0 Av P from⟨aB HOB.out HB0.out,(HO.out.2.1.below HNN.out.1).below HB0.out⟩);have HPR:=aa (show ProgAt w0 ds bd A3 c3 A4 c4/\PGood nm wd ln ds bd from⟨HP.out.1.below HB.out,HP.out.2⟩);obtain⟨L,hL⟩:∃L,L=partL nm wd ln ds bd:=⟨_,rfl⟩;rw[←hL]at HA;have HLL:=aa hL;have HG:=aa (iter_gives (n:=n) HWD.out.1 HWD.out.2.1 HWD.out.2.2 HN.out.2.2 (x:=bg n 0) (P:=bg n ac) dx dx (zeros_inw w n) 8 w0 HIT.out.1 HIT.out.2.1 HIT.out.2.2.1 (by rw[dx];exact HIT.out.2.2.2) (HNN.out.2.below HB0.out));clear hL HPU HBI HIT HB0 HNN HO HU1 HOB HPB HR HBE HB HX HP HR1 H1 HWP;refine(wpIn_wide (n:=9)).1 ?_
    refine range_outer (F:=Fence.wide) (n:=9) rfl (by decide) (gf:=132) (lb:= #[.pointer (ag ⟨sz+1,0,ak⟩),.pointer (ag ⟨sz+1+1,0,ak⟩),.pointer (ag ⟨sz,0,ak⟩)]) rfl trivial (enters_of Tryz.func132 (by kernel_rfl) rfl) HG.out (fun _=>rfl) (fun x A C h k=>h.kc k)
     (I40 w0 (rowR L wd n P)) (X40 W pb (rowR L wd n P)) (fun s A C h k=>h.kept k) (fun c s A C h k k2=>h.kept HBW.out.size k k2) ⟨ar _ _,fun x hx=>by cases hx⟩
     (fun x a' W'=>∃Bx,(W'.heap[Bx]? =ag (.cells #[.slice x.1 n x.2.1] 36 (0,0))/\a'={ tmps:= #[.agg #[.string nm,.int .i64 wd,.int .i64 ln,.slice A3 ds.length c3,.slice A4 bd.length c4],.int .i64 most,.pointer (ag ⟨pb,0,ak⟩),undef,.pointer (ag ⟨pb+1,0,ak⟩),.pointer (ag ⟨pb+1+1,0,ak⟩),.pointer (ag ⟨pb+1+1+1,0,ak⟩),.pointer (ag ⟨pb+1+1+1+1,0,ak⟩),.pointer (ag ⟨pb+1+1+1+1+1,0,ak⟩),.int .i64 b1,.int .i64 b2,.int .i64 0,.pointer (ag ⟨ob,0,ak⟩),.int .i64 0,.slice An n cn,.pointer (ag ⟨Bx,0,ak⟩),undef,undef,undef,undef,undef,undef,undef,undef,undef,undef,.tuple #[.int .i64 b1,.int .i64 b2,.int .i64 0],.agg #[.string nm,.int .i64 wd,.int .i64 ln,.slice A3 ds.length c3,.slice A4 bd.length c4],.tuple #[.int .i64 b1,.int .i64 b2,.int .i64 0],.int .i64 b1,.int .i64 b2,.int .i64 0,.bool ac,.int .i64 0,.bool ac,undef,.bool (decide (most<0)||decide (24<most)),.int .i64 most,.bool (decide (most<0)),.bool (decide (most<0)),.int .i64 most,.bool (decide (24<most)),.bool (decide (most<0)||decide (24<most)),.bool (decide (most<b1+2*b2)),.int .i64 b1,.int .i64 b2,.int .i64 (2*b2),.int .i64 (b1+2*b2),.int .i64 most,.bool (decide (most<b1+2*b2)),.tuple #[.slice Av n cv,.int .i64 0],.agg #[.string nm,.int .i64 wd,.int .i64 ln,.slice A3 ds.length c3,.slice A4 bd.length c4],.tuple #[.slice Av n cv,.int .i64 0],.slice Av n cv,.int .i64 0,.slice Av n cv,.int .i64 (n:Int),.slice An n cn,.pointer (ag ⟨pb,1,ak⟩),.int .i64 wd,.slice Av n cv,.int .i64 (n:Int),.slice Ax n cx,.slice An n cn,.func (.func 132) #[] #[.pointer (ag ⟨sz+1,0,ak⟩),.pointer (ag ⟨sz+1+1,0,ak⟩),.pointer (ag ⟨sz,0,ak⟩)],.slice x.1 n x.2.1,undef,undef,undef,undef,undef,undef,undef,undef,undef,undef,undef,undef,undef,undef,undef,undef,undef,undef,undef,undef,undef,undef,undef,undef,undef,undef,undef,undef,undef,undef,undef,undef,undef,undef,undef,undef,undef,undef,undef,undef,undef,undef],defers:=[] }))
     (fun x a' A C h k=>h.imp fun Bx h=>⟨o8 k h.1,h.2⟩)
     ?assign ?body ?done ?stop
    case assign=>
     intro l pre x W1 K hi hat hK;have HK:=aa hK;clear hK;unfold encH;gi_wp2_with fail;exact HK.out _ _ ((ar _ _).alloc (aq _) _) ⟨_,aW _ _,rfl⟩
    case done=>
     as_aux_lemma=>
      rintro D xs W2 hD hS hI hK;have HAL:=aa (hI.all HN.out.1 hS);have HRS:=aa (HRW.out.below hI.below);have HKD:=aa (aj hK (aj (bi HBW.out.size hD) (HBW.out.trans (hI.below.mono HBW.out.size))));have bc4:=HRS.out.b4.cell;have bf4:=HRS.out.b4.frozen;have bc5:=HRS.out.b5.cell;have bf5:=HRS.out.b5.frozen;have bc6:=HRS.out.b6.cell;have bf6:=HRS.out.b6.frozen;have bc7:=HRS.out.b7.cell;have bf7:=HRS.out.b7.frozen;have bc8:=HRS.out.b8.cell;have bf8:=HRS.out.b8.frozen;clear hS hI hK hD;gi_wp2_with fail;go_wp2_with fail
      show Q _ _ _
      rw[HQE.out,HA.out,HAL.out];exact out40D HKD.out.2.1 ((oP 0 W2 _ _ _ _ _).same D _ (bk _) HKD.out.1 rfl) rfl rfl rfl rfl rfl (HRS.out.put _ _ _ _ _) (Out.none _) (Out.none _) (HKD.out.2.2.trans (iO (Nat.le_succ_of_le HLE.out) _ _ _ _ _ _))
    case stop=>
     as_aux_lemma=>
      rintro D c pre W2 hD hS hX hK;obtain⟨x,y,a,vu,vv,hf,hr,hu,hv⟩:=hX.all HN.out.1 hS;have HXX:=aa (aj hX.below (aj hr (aj hu hv)));have HAL:=aa hf;have HKD:=aa (aj hK (bi HBW.out.size hD));obtain rfl:=hX.ret;clear hS hX hK hD hr hu hv hf;gi_wp2_with fail;go_wp2_with fail
      show Q _ _ _
      rw[HQE.out,HA.out,HAL.out];exact out40D HKD.out.2 HKD.out.1 rfl rfl rfl rfl rfl HXX.out.2.1 HXX.out.2.2.1 HXX.out.2.2.2 HXX.out.1
    case body=>
     as_aux_lemma=>
      rintro l pre x a' W1 hl ⟨rr,hrr⟩ hI hat ⟨Bx,hBx,rfl⟩ hlt;obtain⟨xA,xc,xl⟩:=x;have hxn:=hat.len;have hxi:=hat.inw;obtain⟨xb,hxr⟩:=hat.row;dsimp only at hxn hxi hxr hBx ⊢;obtain⟨⟨er1,S,T⟩,hansx⟩:∃r,r=cN nm wd ln ds bd xl:=⟨_,rfl⟩;have HRX:=aa (oI nm wd ln ds bd A3 c3 A4 c4 W1 (HPR.out.1.below hI.below) HPR.out.2 xl xA xc hxr.words (hxi.u64 HWD.out.2.2) hxr.cap);have HTS:=aa (gK nm wd ln ds bd xl);rw[hxn,←hansx]at HRX;rw[←hansx]at HTS;have HAX:=aa hansx;have HI:=aa hI;have HXT:=aa (show xl.length=n/\InW w xl/\RowO W1 xb xA xc xl from⟨hxn,hxi,hxr⟩);have HRR:=aa (aj hl hrr);have HBX:=aa hBx;have hbp:=aB HPW.out hI.below;have x0:W1.cell? ⟨pb,0,ak⟩=ag (.string nm):=(aA hbp 0).trans rfl;have x1:W1.cell? ⟨pb,1,ak⟩=ag (.int .i64 wd):=(aA hbp 1).trans rfl;have x2:W1.cell? ⟨pb,2,ak⟩=ag (.int .i64 ln):=(aA hbp 2).trans rfl;have x3:W1.cell? ⟨pb,3,ak⟩=ag (.slice A3 ds.length c3):=(aA hbp 3).trans rfl;have x4:W1.cell? ⟨pb,4,ak⟩=ag (.slice A4 bd.length c4):=(aA hbp 4).trans rfl;have y0:W1.cell? ⟨Bx,0,ak⟩=ag (.slice xA n xc):=(aA hBx 0).trans rfl;clear hxn hxi hxr hansx hI hl hrr hBx hbp hat hlt;gi_wp2_with fail;refine⟨trivial,((CallsIn.inRound l (callsIn_wide.2 HRX.out)).mono ?_)⟩;rintro _ w3 ⟨vS,vT,rfl,hE,hTR,hb⟩;obtain⟨⟨PS,pS,eS,-⟩,Q1,q,eT,hT⟩:=hE;replace eS:vS=.slice PS S.length pS:=eS;replace eT:vT=.slice Q1 T.length q:=eT;subst eS eT;obtain⟨ab,hab⟩:∃b,b=w3.heap.size:=⟨_,rfl⟩;obtain⟨w4,hw4⟩:∃w',w'=w3.alloc (.cells #[.slice PS S.length pS,.slice Q1 T.length q] 40):=⟨_,rfl⟩
      have hb4:Below w3.heap.size w3 w4:=by rw[hw4];exact(ar _ _).alloc (aq _) _
      have hk4:w4.heap[ab]? =ag (.cells #[.slice PS S.length pS,.slice Q1 T.length q] 40 (0,0)):=by rw[hw4,hab];exact aW _ _
      have hbw:Below W1.heap.size W1 w4:=hb.trans (hb4.mono hb.size);have H4:=aa (show Below W1.heap.size W1 w4/\w4.heap[ab]? =ag (.cells #[.slice PS S.length pS,.slice Q1 T.length q] 40 (0,0))/\TrR w4 (.slice Q1 T.length q) T from⟨hbw,hk4,hTR.below hb4⟩);have HP4:=aa (show Below w0.heap.size w0 w4 from HI.out.below.trans (hbw.mono HI.out.below.size));have HB4:=aa (aB HBX.out hbw)
      have z1:(w3.alloc (.cells #[.slice PS S.length pS,.slice Q1 T.length q] 40)).cell? ⟨pb,1,ak⟩=ag (.int .i64 wd):=by rw[←hw4];exact(aA (aB HPW.out HP4.out) 1).trans rfl
      have z2:(w3.alloc (.cells #[.slice PS S.length pS,.slice Q1 T.length q] 40)).cell? ⟨Bx,0,ak⟩=ag (.slice xA n xc):=by rw[←hw4];exact(aA HB4.out 0).trans rfl
      have z3:(w3.alloc (.cells #[.slice PS S.length pS,.slice Q1 T.length q] 40)).cell? ⟨ob,0,ak⟩=ag (.slice Av n cv):=by rw[←hw4];exact(aA (aB HOW.out.1 HP4.out) 0).trans rfl
      have HW4:=aa (aj hw4 hab);clear hb hb4 hk4 hT hTR x0 x1 x2 x3 x4 y0 hbw hw4 hab;gi_wp2_with fail;rw[←HW4.out.1,←HW4.out.2];refine⟨trivial,((CallsIn.inRound l (callsIn_wide.2 (rows_calls wd xA Av n xc cv w4))).mono ?_)⟩;rintro _ w5 ⟨rfl,hw5⟩;obtain⟨hb5,k1,k2,k3⟩:=rows_facts hw5;obtain⟨s2,hs2⟩:∃s,s=w4.heap.size:=⟨_,rfl⟩;rw[←hs2]at k1 k2 k3 ⊢;have H5:=aa (show Below W1.heap.size W1 w5 from H4.out.1.trans (hb5.mono H4.out.1.size));have HP5:=aa (show Below w0.heap.size w0 w5 from HP4.out.trans (hb5.mono HP4.out.size));have HK5:=aa (show w5.heap[ab]? =ag (.cells #[.slice PS S.length pS,.slice Q1 T.length q] 40 (0,0))/\w5.heap[Bx]? =ag (.cells #[.slice xA n xc] 36 (0,0))/\TrR w5 (.slice Q1 T.length q) T/\RowO w5 xb xA xc xl from⟨aB H4.out.2.1 hb5,aB HB4.out hb5,H4.out.2.2.below hb5,HXT.out.2.2.below H5.out⟩);have HL5:=aa (show w5.heap[l]? =ag (.loop rr) from(H5.out.block l (ck.1 HRR.out.2).1).trans HRR.out.2);have HG5:=aa (iter_gives (n:=n) HWD.out.1 HWD.out.2.1 HWD.out.2.2 HN.out.2.2 (x:=xl) (P:=P) HXT.out.1 HN.out.1.symm HXT.out.2.1 6 w5 k1 k2 k3 (by rw[HXT.out.1];have h:=HK5.out.2.2.2.rd;rwa [HXT.out.1]at h) (HOW.out.2.below HP5.out));have HSZ:=aa (show W.heap.size<=w5.heap.size/\W1.heap.size<=w5.heap.size from⟨bi HBW.out.size HP5.out.size,H5.out.size⟩);clear hb5 k1 k2 k3 hs2 hw5 z1 z2 z3 HRX HW4 HBX;gi_wp2_with fail
      refine range_inner (F:=Fence.wide.inRound l) (n:=9 - 1 - 1) (l₀:=l) (r₀:=rr) rfl HL5.out (by decide) (gf:=132) (lb:= #[.pointer (ag ⟨s2+1,0,ak⟩),.pointer (ag ⟨s2+1+1,0,ak⟩),.pointer (ag ⟨s2,0,ak⟩)]) rfl trivial (enters_of Tryz.func132 (by kernel_rfl) rfl) (Gives.inRound l HG5.out) (fun _=>rfl) (fun x A C h k=>h.kc k)
       (I41 w5 L xl) (X41 W pb w0.heap.size W1 L xl) (fun s A C h k=>h.kept k) (fun c s A C h k k2=>h.kept HSZ.out.1 HSZ.out.2 k k2) ⟨ar _ _,fun x hx=>by cases hx⟩
       (fun y a' _=>a'={ tmps:= #[.agg #[.string nm,.int .i64 wd,.int .i64 ln,.slice A3 ds.length c3,.slice A4 bd.length c4],.int .i64 most,.pointer (ag ⟨pb,0,ak⟩),undef,.pointer (ag ⟨pb+1,0,ak⟩),.pointer (ag ⟨pb+1+1,0,ak⟩),.pointer (ag ⟨pb+1+1+1,0,ak⟩),.pointer (ag ⟨pb+1+1+1+1,0,ak⟩),.pointer (ag ⟨pb+1+1+1+1+1,0,ak⟩),.int .i64 b1,.int .i64 b2,.int .i64 0,.pointer (ag ⟨ob,0,ak⟩),.int .i64 0,.slice An n cn,.pointer (ag ⟨Bx,0,ak⟩),.pointer (ag ⟨ab,0,ak⟩),.int .i64 er1,.slice y.1 n y.2.1,undef,undef,undef,undef,undef,undef,undef,.tuple #[.int .i64 b1,.int .i64 b2,.int .i64 0],.agg #[.string nm,.int .i64 wd,.int .i64 ln,.slice A3 ds.length c3,.slice A4 bd.length c4],.tuple #[.int .i64 b1,.int .i64 b2,.int .i64 0],.int .i64 b1,.int .i64 b2,.int .i64 0,.bool ac,.int .i64 0,.bool ac,undef,.bool (decide (most<0)||decide (24<most)),.int .i64 most,.bool (decide (most<0)),.bool (decide (most<0)),.int .i64 most,.bool (decide (24<most)),.bool (decide (most<0)||decide (24<most)),.bool (decide (most<b1+2*b2)),.int .i64 b1,.int .i64 b2,.int .i64 (2*b2),.int .i64 (b1+2*b2),.int .i64 most,.bool (decide (most<b1+2*b2)),.tuple #[.slice Av n cv,.int .i64 0],.agg #[.string nm,.int .i64 wd,.int .i64 ln,.slice A3 ds.length c3,.slice A4 bd.length c4],.tuple #[.slice Av n cv,.int .i64 0],.slice Av n cv,.int .i64 0,.slice Av n cv,.int .i64 (n:Int),.slice An n cn,.pointer (ag ⟨pb,1,ak⟩),.int .i64 wd,.slice Av n cv,.int .i64 (n:Int),.slice Ax n cx,.slice An n cn,.func (.func 132) #[] #[.pointer (ag ⟨sz+1,0,ak⟩),.pointer (ag ⟨sz+1+1,0,ak⟩),.pointer (ag ⟨sz,0,ak⟩)],.slice xA n xc,.tuple #[.agg #[.slice PS S.length pS,.slice Q1 T.length q],.int .i64 er1],.agg #[.string nm,.int .i64 wd,.int .i64 ln,.slice A3 ds.length c3,.slice A4 bd.length c4],.slice xA n xc,.tuple #[.agg #[.slice PS S.length pS,.slice Q1 T.length q],.int .i64 er1],.agg #[.slice PS S.length pS,.slice Q1 T.length q],.int .i64 er1,.pointer (ag ⟨pb,1,ak⟩),.int .i64 wd,.slice xA n xc,.slice Av n cv,.func (.func 132) #[] #[.pointer (ag ⟨s2+1,0,ak⟩),.pointer (ag ⟨s2+1+1,0,ak⟩),.pointer (ag ⟨s2,0,ak⟩)],.slice y.1 n y.2.1,undef,undef,undef,undef,undef,undef,undef,undef,undef,undef,undef,undef,undef,undef,undef,undef,undef,undef,undef,undef,undef,undef,undef,undef,undef,undef,undef,undef,undef,undef],defers:=[] }) (fun _ _ _ _ h _=>h)
       ?assign2 ?body2 ?done2 ?stop2
      case assign2=>
       intro l2 pre' y W2 K hi hat hK;have HK:=aa hK;clear hK;unfold encH;gi_wp2_with fail;exact HK.out _ _ (ar _ _) rfl
      case done2=>
       as_aux_lemma=>
        rintro xs W2 hS hI2;have HAL:=aa (hI2.all hS);have HBI:=aa hI2.below;clear hS hI2;gi_wp2_with fail;exact⟨H5.out.trans (HBI.out.mono H5.out.size),HP5.out.trans (HBI.out.mono HP5.out.size),fun z hz=>(fk.1 hz).elim (HI.out.none_ z) (fun e=>by rw[List.mem_singleton.1 e];exact HAL.out)⟩
      case stop2=>
       as_aux_lemma=>
        rintro c pre' W2 hS hX;have HO:=aa (aj hX.keeps (hX.out (x:=(xA,xc,xl)) hS HI.out.none_));obtain rfl:=hX.ret;clear hS hX;gi_wp2_with fail;exact HO.out
      case body2=>
       as_aux_lemma=>
        rintro l2 pre' y a'' W2 hl2 ⟨r2,hr2⟩ hI2 hat2 rfl hlt2;obtain⟨yA,yc,yl⟩:=y;have hyn:=hat2.len;have hyi:=hat2.inw;obtain⟨yb,hyr⟩:=hat2.row;have hys:=hat2.same;dsimp only at hyn hyi hyr hys ⊢;obtain⟨⟨er2,S2,U⟩,hansy⟩:∃r,r=cN nm wd ln ds bd yl:=⟨_,rfl⟩;have HP6:=aa (show Below w0.heap.size w0 W2 from HP5.out.trans (hI2.below.mono HP5.out.size));have HRY:=aa (oI nm wd ln ds bd A3 c3 A4 c4 W2 (HPR.out.1.below HP6.out) HPR.out.2 yl yA yc hyr.words (hyi.u64 HWD.out.2.2) hyr.cap);have HUS:=aa (gK nm wd ln ds bd yl);rw[hyn,←hansy]at HRY;rw[←hansy]at HUS;have HAY:=aa hansy;have HI2:=aa hI2;have HYT:=aa (show yl.length=n/\InW w yl/\RowO W2 yb yA yc yl/\∀k,P.getD k ac=af->yl.getD k 0=xl.getD k 0 from⟨hyn,hyi,hyr,hys⟩);have HW2:=aa (show Below W1.heap.size W1 W2 from H5.out.trans (hI2.below.mono H5.out.size));have hbp:=aB HPW.out HP6.out;have x0:W2.cell? ⟨pb,0,ak⟩=ag (.string nm):=(aA hbp 0).trans rfl;have x1:W2.cell? ⟨pb,1,ak⟩=ag (.int .i64 wd):=(aA hbp 1).trans rfl;have x2:W2.cell? ⟨pb,2,ak⟩=ag (.int .i64 ln):=(aA hbp 2).trans rfl;have x3:W2.cell? ⟨pb,3,ak⟩=ag (.slice A3 ds.length c3):=(aA hbp 3).trans rfl;have x4:W2.cell? ⟨pb,4,ak⟩=ag (.slice A4 bd.length c4):=(aA hbp 4).trans rfl;clear hyn hyi hyr hys hansy hI2 hbp hat2 hlt2 hl2 hr2;gi_wp2_with fail;refine⟨trivial,((CallsIn.inRound l2 (CallsIn.inRound l (callsIn_wide.2 HRY.out))).mono ?_)⟩;rintro _ w6 ⟨vS,vT,rfl,hE,hTR,hb⟩;obtain⟨⟨PS2,pS2,eS,-⟩,Q2,q2,eT,hT⟩:=hE;replace eS:vS=.slice PS2 S2.length pS2:=eS;replace eT:vT=.slice Q2 U.length q2:=eT;subst eS eT;have hb7:Below w6.heap.size w6 (w6.alloc (.cells #[.slice PS2 S2.length pS2,.slice Q2 U.length q2] 40)):=(ar _ _).alloc (aq _) _;have hbw:Below W2.heap.size W2 (w6.alloc (.cells #[.slice PS2 S2.length pS2,.slice Q2 U.length q2] 40)):=hb.trans (hb7.mono hb.size);have H7:=aa (show Below W2.heap.size W2 (w6.alloc (.cells #[.slice PS2 S2.length pS2,.slice Q2 U.length q2] 40))/\TrR (w6.alloc (.cells #[.slice PS2 S2.length pS2,.slice Q2 U.length q2] 40)) (.slice Q1 T.length q) T/\TrR (w6.alloc (.cells #[.slice PS2 S2.length pS2,.slice Q2 U.length q2] 40)) (.slice Q2 U.length q2) U from⟨hbw,(HK5.out.2.2.1.below HI2.out.below).below hbw,hTR.below hb7⟩);have z1:(w6.alloc (.cells #[.slice PS2 S2.length pS2,.slice Q2 U.length q2] 40)).cell? ⟨ab,1,ak⟩=ag (.slice Q1 T.length q):=(aA (aB (aB HK5.out.1 HI2.out.below) hbw) 1).trans rfl;have z2:(w6.alloc (.cells #[.slice PS2 S2.length pS2,.slice Q2 U.length q2] 40)).cell? ⟨w6.heap.size,1,ak⟩=ag (.slice Q2 U.length q2):=(aA (aW w6 _) 1).trans rfl;clear hb hb7 hT hTR x0 x1 x2 x3 x4 hbw HRY;gi_wp2_with fail;obtain⟨⟨d1,d2⟩,hd⟩:∃r,r=difS T U:=⟨_,rfl⟩;refine⟨trivial,((CallsIn.inRound l2 (CallsIn.inRound l (callsIn_wide.2 (pG T U Q1 Q2 q q2 _ H7.out.2.1.C H7.out.2.2.C HTS.out HUS.out _ hd)))).mono ?_)⟩;rintro _ w8 ⟨rfl,hb8⟩;have H8:=aa (show Below W2.heap.size W2 w8 from H7.out.1.trans (hb8.mono H7.out.1.size));have HD:=aa hd;clear hd hb8 z1 z2 H7
        cases d2 with
        |false=>
         gi_wp2_with fail
         exact⟨H8.out,HI2.out.below.trans (H8.out.mono HI2.out.below.size),fun z hz=>(fk.1 hz).elim (HI2.out.none_ z) (fun e=>by
          rw[List.mem_singleton.1 e,HLL.out];refine part_none ?_;rw[←HAX.out,←HAY.out];dsimp only
          rw[←HD.out])⟩
        |true=>
         have HP8:=aa (show Below w0.heap.size w0 w8 from HP6.out.trans (H8.out.mono HP6.out.size));have HX8:=aa (show RowO w8 xb xA xc xl from(HK5.out.2.2.2.below HI2.out.below).below H8.out);have HY8:=aa (show RowO w8 yb yA yc yl from HYT.out.2.2.1.below H8.out);have HB8:=aa (aB (aB HK5.out.2.1 HI2.out.below) H8.out)
         have hlp:oU nm wd ln ds bd xl yl=L xl yl:=by rw[HLL.out];exact leak_part HF.out (by rw[←HN.out.2.1,←HN.out.1];exact HXT.out.1) (by rw[←HN.out.2.1,←HN.out.1];exact HYT.out.1) (by rw[←HN.out.2.1];exact HYT.out.2.2.2)
         obtain⟨⟨li,la,le⟩,hl⟩:∃r,r=oU nm wd ln ds bd xl yl:=⟨_,rfl⟩;have HLC:=aa (leaks_calls nm wd ln ds bd A3 c3 A4 c4 w8 (HPR.out.1.below HP8.out) HPR.out.2 xl yl xA yA xc yc HX8.out.words HY8.out.words (HXT.out.2.1.u64 HWD.out.2.2) (HYT.out.2.1.u64 HWD.out.2.2) HX8.out.cap HY8.out.cap _ hl);rw[HXT.out.1,HYT.out.1]at HLC;have HLA:=aa (show L xl yl=(li,la,le) from hlp.symm.trans hl.symm);have hbp:=aB HPW.out HP8.out;have x0:w8.cell? ⟨pb,0,ak⟩=ag (.string nm):=(aA hbp 0).trans rfl;have x1:w8.cell? ⟨pb,1,ak⟩=ag (.int .i64 wd):=(aA hbp 1).trans rfl;have x2:w8.cell? ⟨pb,2,ak⟩=ag (.int .i64 ln):=(aA hbp 2).trans rfl;have x3:w8.cell? ⟨pb,3,ak⟩=ag (.slice A3 ds.length c3):=(aA hbp 3).trans rfl;have x4:w8.cell? ⟨pb,4,ak⟩=ag (.slice A4 bd.length c4):=(aA hbp 4).trans rfl;have y0:w8.cell? ⟨Bx,0,ak⟩=ag (.slice xA n xc):=(aA HB8.out 0).trans rfl;clear hl hlp hbp;gi_wp2_with fail;refine⟨trivial,((CallsIn.inRound l2 (CallsIn.inRound l (callsIn_wide.2 HLC.out))).mono ?_)⟩;rintro _ w9 ⟨rfl,hb9⟩;have H9:=aa (show Below W2.heap.size W2 w9/\Below w8.heap.size w8 w9 from⟨H8.out.trans (hb9.mono H8.out.size),hb9⟩);clear hb9 x0 x1 x2 x3 x4 y0 HLC
         cases li with
         |false=>
          gi_wp2_with fail
          exact⟨H9.out.1,HI2.out.below.trans (H9.out.1.mono HI2.out.below.size),fun z hz=>(fk.1 hz).elim (HI2.out.none_ z) (fun e=>by
           rw[List.mem_singleton.1 e]
           show(L xl yl).1=ac
           rw[HLA.out])⟩
         |true=>
          have HC1:=aa (qR xl xA xc w9 (HX8.out.below H9.out.2).rd (by rw[HXT.out.1];have:=HN.out.2.2;omega));have HY9:=aa (HY8.out.below H9.out.2);have y0:w9.cell? ⟨Bx,0,ak⟩=ag (.slice xA n xc):=(aA (aB HB8.out H9.out.2) 0).trans rfl;rw[HXT.out.1]at HC1;gi_wp2_with fail;refine⟨trivial,((CallsIn.inRound l2 (CallsIn.inRound l (callsIn_wide.2 HC1.out))).mono ?_)⟩;rintro _ w10 ⟨A5,c5,rfl,hr5,hb10⟩;have HC2:=aa (qR yl yA yc w10 (HY9.out.below hb10).rd (by rw[HYT.out.1];have:=HN.out.2.2;omega));rw[HYT.out.1]at HC2;have H10:=aa (show Below W2.heap.size W2 w10/\RowO w10 w9.heap.size A5 c5 xl from⟨H9.out.1.trans (hb10.mono H9.out.1.size),hr5⟩);clear hr5 hb10 y0;gi_wp2_with fail;refine⟨trivial,((CallsIn.inRound l2 (CallsIn.inRound l (callsIn_wide.2 HC2.out))).mono ?_)⟩;rintro _ w11 ⟨A6,c6,rfl,hr6,hb11⟩;have H11:=aa (show Below W2.heap.size W2 w11/\RowO w11 w9.heap.size A5 c5 xl/\RowO w11 w10.heap.size A6 c6 yl from⟨H10.out.1.trans (hb11.mono H10.out.1.size),H10.out.2.below hb11,hr6⟩);have HRS:=aa (HRW.out.below (HP6.out.trans (H11.out.1.mono HP6.out.size)));have bc4:=HRS.out.b4.cell;have bf4:=HRS.out.b4.frozen;have bc5:=HRS.out.b5.cell;have bf5:=HRS.out.b5.frozen;have bc6:=HRS.out.b6.cell;have bf6:=HRS.out.b6.frozen;have bc7:=HRS.out.b7.cell;have bf7:=HRS.out.b7.frozen;have bc8:=HRS.out.b8.cell;have bf8:=HRS.out.b8.frozen;clear hr6 hb11;gi_wp2_with fail;have hW:Below W1.heap.size W1 w11:=HW2.out.trans (H11.out.1.mono HW2.out.size);have hu:=(H11.out.2.1.put5 HRS.out (.bool af) (.slice A5 n c5) (.slice A6 n c6) (.int .i64 la) (.int .i64 0)).out;have hv:=(H11.out.2.2.put5 HRS.out (.bool af) (.slice A5 n c5) (.slice A6 n c6) (.int .i64 la) (.int .i64 0)).out;rw[HXT.out.1]at hu;rw[HYT.out.1]at hv;refine⟨(iQ (KeepsFrom.refl _ _) (aq _) H11.out.1).trans (oP _ _ _ _ _ _ _),rfl,(HBW.out.trans ((HP6.out.trans (H11.out.1.mono HP6.out.size)).mono HBW.out.size)).trans (iO (Nat.le_succ_of_le HLE.out) _ _ _ _ _ _),(iQ (KeepsFrom.refl _ _) (aq _) hW).trans (oP _ _ _ _ _ _ _),pre',(yA,yc,yl),_,_,rfl,HI2.out.none_,?_,?_,hu,hv⟩
          ·show(L xl yl).1=af
           rw[HLA.out]
          ·show Res pb _ _ _ _ (.int .i64 (L xl yl).2.1) _
           rw[HLA.out];exact HRS.out.put _ _ _ _ _
 ·have HA:=aa (show r=⟨ac,[],[],0,er⟩ from by rw[HR.out,if_neg he]);go_wp2_with fail
  show Q _ _ _
  rw[HQE.out,HA.out];exact out40 rfl rfl rfl rfl rfl (HR1.out.put _ _ _ _ _) (Out.none _) (Out.none _) (H1.out.2.trans (iO (Nat.le_succ_of_le HLE.out) _ _ _ _ _ _))
theorem decide_calls (nm:ByteArray)(wd ln:Int)(ds:List S70)(bd:List S119)(A3:Option Addr)(c3:Nat)(A4:Option Addr)(c4:Nat)(most:Int)(W:World)(hp:ProgAt W ds bd A3 c3 A4 c4)(hg:PGood nm wd ln ds bd)(r:S5)(hr:r=lB nm wd ln ds bd most):
 Calls au 40 #[.agg #[.string nm,.int .i64 wd,.int .i64 ln,.slice A3 ds.length c3,.slice A4 bd.length c4],.int .i64 most] W fun e W'=>∃vu vv,e=.returned (.tuple #[.bool r.is,vu,vv,.int .i64 r.a,.int .i64 r.e])/\Out W' vu r.x/\Out W' vv r.y/\Below W.heap.size W W':=decide_in nm wd ln ds bd A3 c3 A4 c4 most W hp hg r hr
end
end Go.Proofs.YtfigjpehecibeaaGreat.L
namespace Go.Proofs.YtfigjpehecibeaaGreat.L
open Go.RowKit Bm C Go.Maps Go.Proofs.YtfigjpehecibeaaGreatW.PrintWords Go.Proofs.YtfigjpehecibeaaGreatW.PrintLast Go.Proofs.YtfigjpehecibeaaGreatW.PrintMore Go.Proofs.YtfigjpehecibeaaGreat.Gr
section
set_option maxRecDepth 100000
def SomeBool (e:Ending):Prop:=∃b,e=.returned (.bool b)
theorem inBits_small {nm:ByteArray}{wd ln:Int}{ds:List S70}{bd:List S119}{b1 b2 er:Int}(h:(b1,b2,er)=fS nm wd ln ds bd)(he:er=0):(0<=b1/\b1<=4194304)/\0<=b2/\b2<=4194304:=by
 have hf:(bC nm wd ln ds bd).e=0:=by
  by_cases h0:(bC nm wd ln ds bd).e=0
  ·exact h0
  ·unfold fS at h;rw[(dE nm wd ln ds bd).2 h0]at h;injection h with _ h;injection h with _ h;exact absurd (h.symm.trans he) h0
 obtain⟨w,hwm,hwd⟩:=(cZ hf).wd
 have hw1:1<=w/\w<=64:=by unfold dP at hwd;omega
 have h2:=fU (fun i hi=>cJ hf i hi) ds.length (aq _);have h3:=(cZ hf).few;unfold fS at h;rw[(dE nm wd ln ds bd).1 hf]at h;dsimp only at h;injection h with h1 h;injection h with h4 _;have k1:=lS af (fI ds ds.length) (fI ds ds.length).length;have k2:=lS ac (fI ds ds.length) (fI ds ds.length).length;rw[h1,h4];exact⟨fC (by omega) (by omega) k1.1 (by omega),fC (by omega) (by omega) k2.1 (by omega)⟩
theorem long_calls (nm:ByteArray)(wd ln:Int)(ds:List S70)(bd:List S119)(A3:Option Addr)(c3:Nat)(A4:Option Addr)(c4:Nat)(most:Int)(W:World)(hp:ProgAt W ds bd A3 c3 A4 c4)(hg:PGood nm wd ln ds bd):
 Calls au 39 #[.agg #[.string nm,.int .i64 wd,.int .i64 ln,.slice A3 ds.length c3,.slice A4 bd.length c4],.int .i64 most] W fun e W'=>SomeBool e/\Below W.heap.size W W':=by
 obtain⟨pb,hpb⟩:∃b,b=W.heap.size:=⟨_,rfl⟩;obtain⟨X,hX⟩:∃X,X=W.alloc (.cells #[.string nm,.int .i64 wd,.int .i64 ln,.slice A3 ds.length c3,.slice A4 bd.length c4] 25):=⟨_,rfl⟩
 have hXB:Below W.heap.size W X:=by rw[hX];exact(ar _ _).alloc (aq _) _
 have hbp:X.heap[pb]? =ag (.cells #[.string nm,.int .i64 wd,.int .i64 ln,.slice A3 ds.length c3,.slice A4 bd.length c4] 25 (0,0)):=by rw[hX,hpb];exact aW _ _
 obtain⟨⟨b1,b2,er⟩,hbi⟩:∃r,r=fS nm wd ln ds bd:=⟨_,rfl⟩;obtain⟨⟨s1,s2⟩,hsz⟩:∃r,r=sizeS 1099511627776 nm wd ln ds bd:=⟨_,rfl⟩;have HSZ:=aa (fun(W':World) (h:Below X.heap.size X W')=>size_calls nm wd ln ds bd A3 c3 A4 c4 W' ((hp.below hXB).below h) hg _ hsz);have HBI:=aa (lR nm wd ln ds bd A3 c3 A4 c4 X (hp.below hXB) hg _ hbi);have HX:=aa (aj hXB hbp);have HXE:=aa (aj hX hpb);have hbb:er=0->(0<=b1/\b1<=4194304)/\0<=b2/\b2<=4194304:=fun he=>inBits_small hbi he;have HBB:=aa hbb;have x0:X.cell? ⟨pb,0,ak⟩=ag (.string nm):=(aA hbp 0).trans rfl;have x1:X.cell? ⟨pb,1,ak⟩=ag (.int .i64 wd):=(aA hbp 1).trans rfl;have x2:X.cell? ⟨pb,2,ak⟩=ag (.int .i64 ln):=(aA hbp 2).trans rfl;have x3:X.cell? ⟨pb,3,ak⟩=ag (.slice A3 ds.length c3):=(aA hbp 3).trans rfl;have x4:X.cell? ⟨pb,4,ak⟩=ag (.slice A4 bd.length c4):=(aA hbp 4).trans rfl;clear hp hg hX hpb hXB hbp hbi hsz hbb;go_enter Tryz.func39,Tryz.ntmps39
 go_upto_region 1 with (fail)
 rw[←HXE.out.1,←HXE.out.2];go_wp2_with fail;refine HBI.out.mono ?_;rintro _ w1 ⟨rfl,hb1⟩;have H1:=aa (aj hb1 (HX.out.1.trans (hb1.mono HX.out.1.size)));clear hb1 x0 x1 x2 x3 x4
 by_cases he:er=0
 ·obtain⟨⟨c1,c2⟩,c3',c4'⟩:=HBB.out he;subst he
  by_cases h0:most<0
  ·go_wp2_with fail;go_ret
   first | exact⟨⟨_,rfl⟩,H1.out.2⟩ | exact H1.out.2
  ·by_cases h24:24<most
   ·go_wp2_with fail;go_ret
    first | exact⟨⟨_,rfl⟩,H1.out.2⟩ | exact H1.out.2
   ·by_cases hbm:most<b1+2*b2
    ·go_wp2_with fail;go_ret
     first | exact⟨⟨_,rfl⟩,H1.out.2⟩ | exact H1.out.2
    ·have hbp:=aB HX.out.2 H1.out.1;have x0:w1.cell? ⟨pb,0,ak⟩=ag (.string nm):=(aA hbp 0).trans rfl;have x1:w1.cell? ⟨pb,1,ak⟩=ag (.int .i64 wd):=(aA hbp 1).trans rfl;have x2:w1.cell? ⟨pb,2,ak⟩=ag (.int .i64 ln):=(aA hbp 2).trans rfl;have x3:w1.cell? ⟨pb,3,ak⟩=ag (.slice A3 ds.length c3):=(aA hbp 3).trans rfl;have x4:w1.cell? ⟨pb,4,ak⟩=ag (.slice A4 bd.length c4):=(aA hbp 4).trans rfl;clear hbp;go_wp2_with fail;refine(HSZ.out w1 H1.out.1).mono ?_;rintro _ w2 ⟨rfl,hb2⟩;have H2:=aa (H1.out.2.trans (hb2.mono H1.out.2.size));clear hb2 x0 x1 x2 x3 x4;obtain⟨n,hn⟩:∃n,n=b1+2*b2:=⟨_,rfl⟩
     have hn0:0<=n:=by omega
     have hn1:n<=24:=by omega
     have en:IntKind.u64.wrap n=n:=by rw[qN];omega
     rw[←hn]
     by_cases h12:12<n
     ·go_wp2_with fail;go_ret
      first | exact⟨⟨_,rfl⟩,H2.out⟩ | exact H2.out
     ·go_wp2_with fail;go_ret
      first | exact⟨⟨_,rfl⟩,H2.out⟩ | exact H2.out
 ·go_wp2_with fail;go_ret
  first | exact⟨⟨_,rfl⟩,H1.out.2⟩ | exact H1.out.2
end
end Go.Proofs.YtfigjpehecibeaaGreat.L
namespace Go.Proofs.YtfigjpehecibeaaGreat.L
open Go.RowKit Go.Proofs.YtfigjpehecibeaaGreatW.PrintWords Go.Proofs.YtfigjpehecibeaaGreatW.PrintLast Go.Proofs.YtfigjpehecibeaaGreatW.PrintMore Go.Proofs.YtfigjpehecibeaaGreat.Gr
section
attribute [local go_sem] G.cell
theorem own29_calls (nm:ByteArray)(wd ln:Int)(ds:List S70)(bd:List S119)(A3:Option Addr)(c3:Nat)(A4:Option Addr)(c4:Nat)(w:World)(hp:ProgAt w ds bd A3 c3 A4 c4)(hg:PGood nm wd ln ds bd):
 Calls au 21 #[.agg #[.string nm,.int .i64 wd,.int .i64 ln,.slice A3 ds.length c3,.slice A4 bd.length c4]] w fun e w'=>∃A3' c3' A4' c4',e=.returned (.agg #[.string nm,.int .i64 wd,.int .i64 ln,.slice A3' ds.length c3',.slice A4' bd.length c4'])/\ProgAt w' ds bd A3' c3' A4' c4'/\Below w.heap.size w w':=by
 have PAt:=aa hp;have HG:=aa hg;clear hp hg;go_enter Tryz.func21,Tryz.ntmps21
 go_upto_region 1 with (fail)
 obtain⟨X,hX⟩:∃X,X=(w.alloc (.cells #[.string nm,.int .i64 wd,.int .i64 ln,.slice A3 ds.length c3,.slice A4 bd.length c4] 25)).alloc (.cells #[.string ⟨#[]⟩,.int .i64 0,.int .i64 0,.slice ak 0 0,.slice ak 0 0] 25):=⟨_,rfl⟩;rw[←hX]
 have KX:=aa (show Below w.heap.size w X/\X.heap[w.heap.size]? =ag (.cells #[.string nm,.int .i64 wd,.int .i64 ln,.slice A3 ds.length c3,.slice A4 bd.length c4] 25 (0,0))/\X.heap[w.heap.size+1]? =ag (.cells #[.string ⟨#[]⟩,.int .i64 0,.int .i64 0,.slice ak 0 0,.slice ak 0 0] 25 (0,0)) from by
  rw[hX]
  exact⟨((ar _ _).alloc (aq _) _).alloc (by simp) _,eR (aW _ _) _,by simpa using aW (w.alloc (.cells #[.string nm,.int .i64 wd,.int .i64 ln,.slice A3 ds.length c3,.slice A4 bd.length c4] 25)) (.cells #[.string ⟨#[]⟩,.int .i64 0,.int .i64 0,.slice ak 0 0,.slice ak 0 0] 25)⟩)
 clear hX;have OUT:=aa (show ∀g:G X,Below w.heap.size w g.W from fun g=>KX.out.1.trans (g.below.mono KX.out.1.size));refine aG ?_;intro gg;have p0:∀g:G X,g.W.cell? ⟨w.heap.size,0,ak⟩=ag (.string nm):=fun g=>(aA (aB KX.out.2.1 g.below) 0).trans rfl;have p1:∀g:G X,g.W.cell? ⟨w.heap.size,1,ak⟩=ag (.int .i64 wd):=fun g=>(aA (aB KX.out.2.1 g.below) 1).trans rfl;have p2:∀g:G X,g.W.cell? ⟨w.heap.size,2,ak⟩=ag (.int .i64 ln):=fun g=>(aA (aB KX.out.2.1 g.below) 2).trans rfl;have p3:∀g:G X,g.W.cell? ⟨w.heap.size,3,ak⟩=ag (.slice A3 ds.length c3):=fun g=>(aA (aB KX.out.2.1 g.below) 3).trans rfl;have p4:∀g:G X,g.W.cell? ⟨w.heap.size,4,ak⟩=ag (.slice A4 bd.length c4):=fun g=>(aA (aB KX.out.2.1 g.below) 4).trans rfl;go_wp2_with fail;refine(great_calls nm wd ln ds bd A3 c3 A4 c4 gg.W (PAt.out.below (OUT.out gg))).mono ?_;rintro _ w9 ⟨⟨b,rfl⟩,hb⟩;obtain⟨gg,rfl⟩:∃g:G X,w9=g.W:=⟨mkG (gg.below.trans (hb.mono gg.below.size)),rfl⟩;clear hb
 rcases aL b with rfl | rfl
 ·obtain⟨w9,hw9⟩:∃w9,w9=gg.W:=⟨_,rfl⟩;have HZ:=aa (show w9.heap[w.heap.size+1]? =ag (.cells #[.string ⟨#[]⟩,.int .i64 0,.int .i64 0,.slice ak 0 0,.slice ak 0 0] 25 (0,0)) from hw9 ▸ aB KX.out.2.2 gg.below);have q0:=hw9 ▸ p0 gg;have q1:=hw9 ▸ p1 gg;have q2:=hw9 ▸ p2 gg;have q3:=hw9 ▸ p3 gg;have q4:=hw9 ▸ p4 gg;have HO:=aa (show Below w.heap.size w w9 from hw9 ▸ OUT.out gg);rw[←hw9];clear hw9;have r0:w9.cell? ⟨w.heap.size+1,0,ak⟩=ag (.string ⟨#[]⟩):=(aA HZ.out 0).trans rfl;have f0:=aH HZ.out 0;have r1:w9.cell? ⟨w.heap.size+1,1,ak⟩=ag (.int .i64 0):=(aA HZ.out 1).trans rfl;have f1:=aH HZ.out 1;have r2:w9.cell? ⟨w.heap.size+1,2,ak⟩=ag (.int .i64 0):=(aA HZ.out 2).trans rfl;have f2:=aH HZ.out 2;have r3:w9.cell? ⟨w.heap.size+1,3,ak⟩=ag (.slice ak 0 0):=(aA HZ.out 3).trans rfl;have f3:=aH HZ.out 3;have r4:w9.cell? ⟨w.heap.size+1,4,ak⟩=ag (.slice ak 0 0):=(aA HZ.out 4).trans rfl;have f4:=aH HZ.out 4;go_wp2_with fail;refine bodyPost_ret (results_cell_row rfl _ _ (w.heap.size+1) 25 #[.string nm,.int .i64 wd,.int .i64 ln,.slice A3 ds.length c3,.slice A4 bd.length c4] (0,0) _ rfl ((bQ (bQ (bQ (bQ (bQ HZ.out 0 _ rfl) 1 _ rfl) 2 _ rfl) 3 _ rfl) 4 _ rfl)) Tryz.underlying25 rfl (by kernel_rfl)) rfl ?_;have HB:=(((((HO.out.setCell (p:=⟨w.heap.size+1,0,ak⟩) (show w.heap.size<=w.heap.size+1 by omega) (.string nm)).setCell (p:=⟨w.heap.size+1,1,ak⟩) (show w.heap.size<=w.heap.size+1 by omega) (.int .i64 wd)).setCell (p:=⟨w.heap.size+1,2,ak⟩) (show w.heap.size<=w.heap.size+1 by omega) (.int .i64 ln)).setCell (p:=⟨w.heap.size+1,3,ak⟩) (show w.heap.size<=w.heap.size+1 by omega) (.slice A3 ds.length c3)).setCell (p:=⟨w.heap.size+1,4,ak⟩) (show w.heap.size<=w.heap.size+1 by omega) (.slice A4 bd.length c4));exact⟨A3,c3,A4,c4,rfl,PAt.out.below HB,HB⟩
 ·go_wp2_with fail;refine(ownP_calls nm wd ln ds bd A3 c3 A4 c4 gg.W (PAt.out.below (OUT.out gg)) HG.out).mono ?_;rintro _ w9 ⟨A3',c3',A4',c4',rfl,hR,hb⟩;have HR:=aa hR;have HS:=aa (show w.heap.size+1<gg.W.heap.size from aX (aB KX.out.2.2 gg.below));have HZ:=aa (aB (aB KX.out.2.2 gg.below) hb);have HO:=aa (show Below w.heap.size w w9 from(OUT.out gg).trans (hb.mono (OUT.out gg).size));clear hR hb;have r0:w9.cell? ⟨w.heap.size+1,0,ak⟩=ag (.string ⟨#[]⟩):=(aA HZ.out 0).trans rfl;have f0:=aH HZ.out 0;have r1:w9.cell? ⟨w.heap.size+1,1,ak⟩=ag (.int .i64 0):=(aA HZ.out 1).trans rfl;have f1:=aH HZ.out 1;have r2:w9.cell? ⟨w.heap.size+1,2,ak⟩=ag (.int .i64 0):=(aA HZ.out 2).trans rfl;have f2:=aH HZ.out 2;have r3:w9.cell? ⟨w.heap.size+1,3,ak⟩=ag (.slice ak 0 0):=(aA HZ.out 3).trans rfl;have f3:=aH HZ.out 3;have r4:w9.cell? ⟨w.heap.size+1,4,ak⟩=ag (.slice ak 0 0):=(aA HZ.out 4).trans rfl;have f4:=aH HZ.out 4;go_wp2_with fail;refine bodyPost_ret (results_cell_row rfl _ _ (w.heap.size+1) 25 #[.string nm,.int .i64 wd,.int .i64 ln,.slice A3' ds.length c3',.slice A4' bd.length c4'] (0,0) _ rfl ((bQ (bQ (bQ (bQ (bQ HZ.out 0 _ rfl) 1 _ rfl) 2 _ rfl) 3 _ rfl) 4 _ rfl)) Tryz.underlying25 rfl (by kernel_rfl)) rfl ?_;have HB:=(((((HO.out.setCell (p:=⟨w.heap.size+1,0,ak⟩) (show w.heap.size<=w.heap.size+1 by omega) (.string nm)).setCell (p:=⟨w.heap.size+1,1,ak⟩) (show w.heap.size<=w.heap.size+1 by omega) (.int .i64 wd)).setCell (p:=⟨w.heap.size+1,2,ak⟩) (show w.heap.size<=w.heap.size+1 by omega) (.int .i64 ln)).setCell (p:=⟨w.heap.size+1,3,ak⟩) (show w.heap.size<=w.heap.size+1 by omega) (.slice A3' ds.length c3')).setCell (p:=⟨w.heap.size+1,4,ak⟩) (show w.heap.size<=w.heap.size+1 by omega) (.slice A4' bd.length c4'));have hs:=HS.out;refine⟨A3',c3',A4',c4',rfl,prog_of_R (base:=gg.W.heap.size) (ok:=fun b=>gg.W.heap.size<=b) ?_ ?_,HB⟩
  ·exact(Kd.cP (Kd.cP (Kd.cP (Kd.cP (Kd.cP (Kd.dW (Kd.d7 HR.out.1) (fun b hb=>hb.2.1)) (p:=⟨w.heap.size+1,0,ak⟩) (fun b hb=>by show b≠w.heap.size+1;omega) _) (p:=⟨w.heap.size+1,1,ak⟩) (fun b hb=>by show b≠w.heap.size+1;omega) _) (p:=⟨w.heap.size+1,2,ak⟩) (fun b hb=>by show b≠w.heap.size+1;omega) _) (p:=⟨w.heap.size+1,3,ak⟩) (fun b hb=>by show b≠w.heap.size+1;omega) _) (p:=⟨w.heap.size+1,4,ak⟩) (fun b hb=>by show b≠w.heap.size+1;omega) _)
  ·exact(Kd.cP (Kd.cP (Kd.cP (Kd.cP (Kd.cP (Kd.dW (Kd.d7 HR.out.2) (fun b hb=>hb.2.1)) (p:=⟨w.heap.size+1,0,ak⟩) (fun b hb=>by show b≠w.heap.size+1;omega) _) (p:=⟨w.heap.size+1,1,ak⟩) (fun b hb=>by show b≠w.heap.size+1;omega) _) (p:=⟨w.heap.size+1,2,ak⟩) (fun b hb=>by show b≠w.heap.size+1;omega) _) (p:=⟨w.heap.size+1,3,ak⟩) (fun b hb=>by show b≠w.heap.size+1;omega) _) (p:=⟨w.heap.size+1,4,ak⟩) (fun b hb=>by show b≠w.heap.size+1;omega) _)
end
end Go.Proofs.YtfigjpehecibeaaGreat.L
namespace Go.Proofs.YtfigjpehecibeaaGreat.L
open Go.RowKit Bm C Go.Maps Go.Proofs.YtfigjpehecibeaaGreatW.PrintWords Go.Proofs.YtfigjpehecibeaaGreatW.PrintLast Go.Proofs.YtfigjpehecibeaaGreatW.PrintMore Go.Proofs.YtfigjpehecibeaaGreat.Gr
section
set_option maxRecDepth 100000
theorem nJ {w:Int}{may:List Bool}:∀{i:Nat} {l l':List Int},dZ w may i l=ag l'->l'.length=l.length
 |0,l,l',h=>by simp[dZ]at h
 |i+1,l,l',h=>by
  unfold dZ at h
  split at h
  ·split at h
   ·have:=nJ h
    rwa [List.length_set]at this
   ·injection h with h;rw[←h,List.length_set]
  ·exact nJ h
theorem innerS_len {L:List Int->List Int->Bool × Int × Int}{w:Int}{n:Nat}{may:List Bool}{x:List Int}:∀{f:Nat} {y z:List Int} {a:Int},kJ L w n may x f y=ag (z,a)->z.length=y.length
 |0,y,z,a,h=>by simp[kJ]at h
 |f+1,y,z,a,h=>by
  rw[mS]at h
  split at h
  ·injection h with h;injection h with h _;rw[h]
  ·split at h
   ·cases h
   ·rename_i y' hy;rw[innerS_len h,nJ hy]
theorem outerS_len {L:List Int->List Int->Bool × Int × Int}{w:Int}{n:Nat}{P:List Bool}{G:Nat}:∀{f:Nat} {x u v:List Int} {a:Int},jF L w n P G f x=ag (u,v,a)->u.length=x.length/\v.length=n
 |0,x,u,v,a,h=>by simp[jF]at h
 |f+1,x,u,v,a,h=>by
  rw[kR]at h
  split at h
  ·rename_i y b hy;injection h with h;injection h with h1 h;injection h with h2 _;have:=innerS_len hy;rw[lY]at this;exact⟨by rw[h1],by rw[←h2];exact this⟩
  ·split at h
   ·cases h
   ·rename_i x' hx;have:=outerS_len h;rw[nJ hx]at this;exact this
theorem dec_len (nm:ByteArray)(wd ln:Int)(ds:List S70)(bd:List S119)(most:Int):((lB nm wd ln ds bd most).x.length<=1073741824/\(lB nm wd ln ds bd most).y.length<=1073741824)/\((lB nm wd ln ds bd most).is=ac->(lB nm wd ln ds bd most).x=[]/\(lB nm wd ln ds bd most).y=[]):=by
 unfold lB
 split
 ·rename_i h0
  split
  ·exact⟨⟨bk _,bk _⟩,fun _=>⟨rfl,rfl⟩⟩
  ·split
   ·exact⟨⟨bk _,bk _⟩,fun _=>⟨rfl,rfl⟩⟩
   ·have hf:(bC nm wd ln ds bd).e=0:=by
     by_cases hf:(bC nm wd ln ds bd).e=0
     ·exact hf
     ·unfold fS at h0;rw[(dE nm wd ln ds bd).2 hf]at h0;exact h0
    have h2:=fU (fun i hi=>cJ hf i hi) ds.length (aq _);have h3:=(cZ hf).few;generalize hq:jF _ _ _ _ _ _ _ =q
    cases q with
    |none=>exact⟨⟨bk _,bk _⟩,fun _=>⟨rfl,rfl⟩⟩
    |some q=>
     obtain⟨u,v,a⟩:=q;have h:=outerS_len hq;rw[dx]at h;refine⟨⟨?_,?_⟩,fun h=>by cases h⟩
     ·show u.length<=_;omega
     ·show v.length<=_;omega
 ·exact⟨⟨bk _,bk _⟩,fun _=>⟨rfl,rfl⟩⟩
theorem oN (nm:ByteArray)(wd ln:Int)(ds:List S70)(bd:List S119)(A3:Option Addr)(c3:Nat)(A4:Option Addr)(c4:Nat)(most:Int)(w:World)(hp:ProgAt w ds bd A3 c3 A4 c4)(hg:PGood nm wd ln ds bd):
 Calls au 9 #[.agg #[.string nm,.int .i64 wd,.int .i64 ln,.slice A3 ds.length c3,.slice A4 bd.length c4],.int .i64 most] w fun e w'=>e=.returned (.bool af)/\Below w.heap.size w w':=by
 obtain⟨xb,hxb⟩:∃b,b=w.heap.size:=⟨_,rfl⟩;obtain⟨X,hX⟩:∃X,X=w.alloc (.cells #[.string nm,.int .i64 wd,.int .i64 ln,.slice A3 ds.length c3,.slice A4 bd.length c4] 25):=⟨_,rfl⟩
 have hXB:Below w.heap.size w X:=by rw[hX];exact(ar _ _).alloc (aq _) _
 have hbx:X.heap[xb]? =ag (.cells #[.string nm,.int .i64 wd,.int .i64 ln,.slice A3 ds.length c3,.slice A4 bd.length c4] 25 (0,0)):=by rw[hX,hxb];exact aW _ _
 have HX:=aa (aj hXB (aj hbx (hp.below hXB)));have HG:=aa hg;have HXE:=aa (aj hX hxb);have hdl:=dec_len nm wd ln ds bd most;obtain⟨r,hr⟩:∃r,r=lB nm wd ln ds bd most:=⟨_,rfl⟩;rw[←hr]at hdl;have HDL:=aa hdl;have HD1:=aa (fun(W:World) (A5:Option Addr) (c5:Nat) (A6:Option Addr) (c6:Nat) (h:ProgAt W ds bd A5 c5 A6 c6)=>decide_calls nm wd ln ds bd A5 c5 A6 c6 most W h hg r hr);have HD2:=aa (fun(W:World) (hW:Below X.heap.size X W)=>sG nm wd ln ds bd A3 c3 A4 c4 most W ((hp.below hXB).below hW) hg r hr);have x0:X.cell? ⟨xb,0,ak⟩=ag (.string nm):=(aA hbx 0).trans rfl;have x1:X.cell? ⟨xb,1,ak⟩=ag (.int .i64 wd):=(aA hbx 1).trans rfl;have x2:X.cell? ⟨xb,2,ak⟩=ag (.int .i64 ln):=(aA hbx 2).trans rfl;have x3:X.cell? ⟨xb,3,ak⟩=ag (.slice A3 ds.length c3):=(aA hbx 3).trans rfl;have x4:X.cell? ⟨xb,4,ak⟩=ag (.slice A4 bd.length c4):=(aA hbx 4).trans rfl;clear hp hg hX hxb hXB hbx hdl hr;go_enter Tryz.func9,Tryz.ntmps9
 go_upto_region 1 with (fail)
 rw[←HXE.out.1,←HXE.out.2];go_wp2_with fail;refine(long_calls nm wd ln ds bd A3 c3 A4 c4 most X HX.out.2.2 HG.out).mono ?_;rintro _ w1 ⟨⟨b,rfl⟩,hb1⟩;have H1:=aa (aj hb1 (HX.out.1.trans (hb1.mono HX.out.1.size)));clear hb1 x0 x1 x2 x3 x4
 cases b with
 |true=>
  go_wp2_with fail;go_ret;exact⟨rfl,H1.out.2⟩
 |false=>
  have x0:w1.cell? ⟨xb,0,ak⟩=ag (.string nm):=(aA (aB HX.out.2.1 H1.out.1) 0).trans rfl;have x1:w1.cell? ⟨xb,1,ak⟩=ag (.int .i64 wd):=(aA (aB HX.out.2.1 H1.out.1) 1).trans rfl;have x2:w1.cell? ⟨xb,2,ak⟩=ag (.int .i64 ln):=(aA (aB HX.out.2.1 H1.out.1) 2).trans rfl;have x3:w1.cell? ⟨xb,3,ak⟩=ag (.slice A3 ds.length c3):=(aA (aB HX.out.2.1 H1.out.1) 3).trans rfl;have x4:w1.cell? ⟨xb,4,ak⟩=ag (.slice A4 bd.length c4):=(aA (aB HX.out.2.1 H1.out.1) 4).trans rfl;go_wp2_with fail;refine(own29_calls nm wd ln ds bd A3 c3 A4 c4 w1 (HX.out.2.2.below H1.out.1) HG.out).mono ?_;rintro _ V ⟨A31,c31,A41,c41,rfl,hp1,hb1⟩;have P1:=aa (aj hp1 (H1.out.1.trans (hb1.mono H1.out.1.size)));clear hp1 hb1 x0 x1 x2 x3 x4;go_wp2_with fail;refine(HD1.out V _ _ _ _ P1.out.1).mono ?_;rintro _ w4 ⟨vu,vv,rfl,hu,hv,hb4⟩;obtain⟨Au,cu,rfl,wu⟩:=hu;obtain⟨Av,cv,rfl,wv⟩:=hv;have H4:=aa (show Below X.heap.size X w4/\bX w4 Au r.x/\bX w4 Av r.y from⟨P1.out.2.trans (hb4.mono P1.out.2.size),wu,wv⟩);clear hb4 wu wv;have x0:w4.cell? ⟨xb,0,ak⟩=ag (.string nm):=(aA (aB HX.out.2.1 H4.out.1) 0).trans rfl;have x1:w4.cell? ⟨xb,1,ak⟩=ag (.int .i64 wd):=(aA (aB HX.out.2.1 H4.out.1) 1).trans rfl;have x2:w4.cell? ⟨xb,2,ak⟩=ag (.int .i64 ln):=(aA (aB HX.out.2.1 H4.out.1) 2).trans rfl;have x3:w4.cell? ⟨xb,3,ak⟩=ag (.slice A3 ds.length c3):=(aA (aB HX.out.2.1 H4.out.1) 3).trans rfl;have x4:w4.cell? ⟨xb,4,ak⟩=ag (.slice A4 bd.length c4):=(aA (aB HX.out.2.1 H4.out.1) 4).trans rfl;go_wp2_with fail;refine(HD2.out w4 H4.out.1).mono ?_;rintro _ w5 ⟨vu2,vv2,rfl,hu,hv,hb5⟩;obtain⟨Au2,cu2,rfl,wu2⟩:=hu;obtain⟨Av2,cv2,rfl,wv2⟩:=hv;have H5:=aa (show Below w.heap.size w w5/\(bX w5 Au r.x/\bX w5 Av r.y)/\bX w5 Au2 r.x/\bX w5 Av2 r.y from⟨HX.out.1.trans ((H4.out.1.trans (hb5.mono H4.out.1.size)).mono HX.out.1.size),⟨H4.out.2.1.below hb5,H4.out.2.2.below hb5⟩,wu2,wv2⟩);clear hb5 wu2 wv2 x0 x1 x2 x3 x4 HD1 HD2;obtain⟨is,rx,ry,ra,re⟩:=r;dsimp only at HDL H5 ⊢
  cases is with
  |false=>
   obtain⟨e1,e2⟩:=HDL.out.2 rfl;have e1:rx=[]:=e1;have e2:ry=[]:=e2;subst e1 e2;go_wp2_with fail;go_ret;exact⟨by simp,H5.out.1⟩
  |true=>
   go_wp2_with fail;refine(nE rx Au Au2 cu cu2 w5 H5.out.2.1.1 H5.out.2.2.1 HDL.out.1.1).mono ?_;rintro _ w6 ⟨rfl,hb6⟩;have H6:=aa hb6;clear hb6;go_wp2_with fail;refine(nE ry Av Av2 cv cv2 w6 (H5.out.2.1.2.below H6.out) (H5.out.2.2.2.below H6.out) HDL.out.1.2).mono ?_;rintro _ w7 ⟨rfl,hb7⟩;have H7:=aa (H5.out.1.trans ((H6.out.trans (hb7.mono H6.out.size)).mono H5.out.1.size));clear hb7;go_wp2_with fail;go_ret;exact⟨by simp,H7.out⟩
theorem pY (v0:Value)(x0:Ot.Prog)(a1:Int)(w:World)(s0:∃cs,v0=.agg cs/\cs.size=Tryz.prog.cellsOf 25)(k0:Ot.opensP_K w x0 v0.cells.toList)(g0:Ot.qZ x0){m0:Nat}(b0:Ot.rH x0<=m0){q:Prop}(w1:q){m1:Nat}(hb:m0+m1<=1048576):
 Calls au 9 #[v0,.int .i64 a1] w fun e w'=>e=.returned (.bool af)/\Below w.heap.size w w':=by
 obtain⟨A3,c3,A4,c4,rfl,l3,g3,l4,g4⟩:=Ot.prog_of_K (s0.imp fun _ h=>h.1) k0;exact oN x0.nm x0.wd x0.ln x0.ds x0.bd A3 c3 A4 c4 a1 w ⟨g3,l3,g4,l4⟩ ⟨g0,bi b0 (by omega)⟩
end
end Go.Proofs.YtfigjpehecibeaaGreat.L
