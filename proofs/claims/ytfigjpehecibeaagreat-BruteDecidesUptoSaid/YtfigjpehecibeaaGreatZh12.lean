/- Texts joined by a program of mine: Dg Dr Ds Dt Du0 Du1 Du Dn. -/
import Derived.RangeFuncNested
import Derived.RangeFuncBound
import Derived.RangeFuncCalls
import Derived.RangeFuncLeaves
import Derived.Shelf.Abstract
import Derived.WalkKit
import Derived.Shelf.RegionOpen
import Derived.OwnWalkIn
import Derived.TacticsInMore
import Derived.LoopNIn
import Derived.LoopIn
import Derived.Test.YtfigjpehecibeaaGreatZh11
set_option maxRecDepth 100000
open And renaming intro -> aj
open Array renaming getElem?_eq_some_iff -> ck
open Bool renaming false -> ac, true -> af
open Go.Act renaming put -> ay
open Go.Ending renaming returned -> gj
open Go.Proofs.Tryz renaming prog -> au
open Go.Proofs.YtfigjpehecibeaaGreatW.PrintWords.Aside0 renaming mk -> aa
open Go.RowKit.Below renaming refl -> ar, heap_alloc -> ic, heap_setCell -> dn
open Go.Value renaming int -> bh
open Int renaming natCast_nonneg -> bo, toNat_natCast -> ax
open List renaming range -> bu, getD_eq_getElem?_getD -> aw, getElem?_eq_getElem -> az, replicate -> bg, range_succ -> jz, map_append -> ef, map_cons -> cg, map_nil -> db, length_replicate -> dx, mem_cons_self -> ig, getElem?_map -> jb, getElem?_eq_none -> dg, append_assoc -> dr, length_append -> ba, length_cons -> jn, cons_append -> gp, setIfInBounds_toArray -> ae, set_cons_zero -> ah, set_cons_succ -> ai, map_toArray -> cd
open Nat renaming le_refl -> aq, zero_le -> bk, le_trans -> bi, two_pow_pos -> df, mul_one -> ib, mod_eq_of_lt -> fp, lt_or_ge -> gu
open Option renaming some -> ag, none -> ak
open Or renaming inl -> bc
set_option linter.unusedVariables false
set_option linter.unusedSimpArgs false
set_option maxHeartbeats 8000000
namespace Go.Proofs.YtfigjpehecibeaaGreat.L
open Go.RowKit Bm C Go.Maps Go.Proofs.YtfigjpehecibeaaGreatW.PrintWords Go.Proofs.YtfigjpehecibeaaGreatW.PrintLast Go.Proofs.YtfigjpehecibeaaGreatW.PrintMore Go.Proofs.YtfigjpehecibeaaGreat.Gr
section
set_option maxRecDepth 100000
theorem fN {fn:Func}{t u v x y:Tmp}(h:fn.results= #[.tmp t,.tmp u,.tmp v,.tmp x,.tmp y])(tmps:Array Value)(P:Program)(w:World):
 (results fn tmps).run P w=.ok (.tuple #[tmps.getD t undef,tmps.getD u undef,tmps.getD v undef,tmps.getD x undef,tmps.getD y undef]) w:=by
 simp[results,h]
theorem after1 {α:Type}{d:Kd α}{e base:Nat}{W w1:World}{u v v1:Value}{xs:List α}(h:d.R e W base (fun k=>ag k≠v.ownBlock) u xs)(hg:W.grownBy w1 v.ownBlock)(hat:v1.ownBlock=v.ownBlock\/∃b,v1.ownBlock=ag b/\W.heap.size<=b):d.R e w1 base (fun k=>ag k≠v1.ownBlock) u xs:=
 Kd.dW (Kd.R_after (ok:=fun _=>True) (Kd.dW h (fun k hk=>⟨trivial,hk⟩)) hg hat) (fun k hk=>hk.2)
theorem openO {W:World}{base c:Nat}{ok:Nat->Prop}{A:Option Addr}{P:List Bool}(h:Kd.bool.R 4 W base ok (.slice A P.length c) P)(h0:0<P.length):∃og,A=ag ⟨og,0,ak⟩/\jT W og P:=by
 obtain⟨g,cap,e,_,_,_⟩:=Kd.R_form h h0;injection e with e1 _ e3;subst e1 e3;exact⟨g,rfl,openAt_R h h0⟩
theorem hid_map (P:List Bool):((bu P.length).map fun i=> !P.getD i ac)=P.map (! ·):=by
 apply List.ext_getElem (by simp);intro i h1 h2
 simp at h1
 simp[aw,az h1]
theorem all_map (P:List Bool):bg P.length af=P.map fun _=>af:=by
 apply List.ext_getElem (by simp);intro i h1 h2
 simp
theorem sG (nm:ByteArray)(wd ln:Int)(ds:List S70)(bd:List S119)(A3:Option Addr)(c3:Nat)(A4:Option Addr)(c4:Nat)(most:Int)(W:World)(hp:ProgAt W ds bd A3 c3 A4 c4)(hg:PGood nm wd ln ds bd)(r:S5)(hr:r=lB nm wd ln ds bd most):
 Calls au 41 #[.agg #[.string nm,.int .i64 wd,.int .i64 ln,.slice A3 ds.length c3,.slice A4 bd.length c4],.int .i64 most] W fun e W'=>∃vu vv,e=.returned (.tuple #[.bool r.is,vu,vv,.int .i64 r.a,.int .i64 r.e])/\Out W' vu r.x/\Out W' vv r.y/\Below W.heap.size W W':=by
 obtain⟨pb,hpb⟩:∃b,b=W.heap.size:=⟨_,rfl⟩;obtain⟨X,hX⟩:∃X,X=W.alloc (.cells #[.string nm,.int .i64 wd,.int .i64 ln,.slice A3 ds.length c3,.slice A4 bd.length c4] 25):=⟨_,rfl⟩
 have hXB:Below W.heap.size W X:=by rw[hX];exact(ar _ _).alloc (aq _) _
 have hbp:X.heap[pb]? =ag (.cells #[.string nm,.int .i64 wd,.int .i64 ln,.slice A3 ds.length c3,.slice A4 bd.length c4] 25 (0,0)):=by rw[hX,hpb];exact aW _ _
 obtain⟨⟨b1,b2,er⟩,hbi⟩:∃r,r=fS nm wd ln ds bd:=⟨_,rfl⟩;have HPU:=aa (fun(W':World) (h:Below X.heap.size X W')=>jD nm wd ln ds bd A3 c3 A4 c4 W' ((hp.below hXB).below h) hg);have HBI:=aa (lR nm wd ln ds bd A3 c3 A4 c4 X (hp.below hXB) hg _ hbi);have HX:=aa (aj hXB hbp);have HP:=aa (aj (hp.below hXB) hg);unfold lB at hr;rw[←hbi]at hr;have HR:=aa hr;have HBE:=aa hbi;have HXE:=aa (aj hX hpb);have x0:X.cell? ⟨pb,0,ak⟩=ag (.string nm):=(aA hbp 0).trans rfl;have x1:X.cell? ⟨pb,1,ak⟩=ag (.int .i64 wd):=(aA hbp 1).trans rfl;have x2:X.cell? ⟨pb,2,ak⟩=ag (.int .i64 ln):=(aA hbp 2).trans rfl;have x3:X.cell? ⟨pb,3,ak⟩=ag (.slice A3 ds.length c3):=(aA hbp 3).trans rfl;have x4:X.cell? ⟨pb,4,ak⟩=ag (.slice A4 bd.length c4):=(aA hbp 4).trans rfl;clear hp hg hX hpb hXB hbp hr hbi;go_enter Tryz.func41,Tryz.ntmps41
 go_upto_region 1 with (fail)
 rw[←HXE.out.1,←HXE.out.2];go_wp2_with fail;refine HBI.out.mono ?_;rintro _ w1 ⟨rfl,hb1⟩;have H1:=aa (aj hb1 (HX.out.1.trans (hb1.mono HX.out.1.size)));clear hb1 x0 x1 x2 x3 x4
 by_cases he:er=0
 ·have HF:=aa (show(bC nm wd ln ds bd).e=0 from by
   by_cases h0:(bC nm wd ln ds bd).e=0
   ·exact h0
   ·have h:=HBE.out;unfold fS at h;rw[(dE nm wd ln ds bd).2 h0]at h;injection h with _ h;injection h with _ h
    exact absurd (h.symm.trans he) h0)
  subst he;obtain⟨w,hwm,hwd⟩:=(cZ HF.out).wd
  have hw1:1<=w/\w<=64:=by unfold dP at hwd;omega
  have hq:=(dE nm wd ln ds bd).1 HF.out;obtain⟨P,hP⟩:∃P,P=fI ds ds.length:=⟨_,rfl⟩;obtain⟨n,hn⟩:∃n,n=P.length:=⟨_,rfl⟩
  have hn1:n<=65536:=by
   have h2:=fU (fun i hi=>cJ HF.out i hi) ds.length (aq _);have h3:=(cZ HF.out).few;rw[hn,hP];omega
  obtain⟨hb1,hb2⟩:(0<=b1/\b1<=4194304)/\0<=b2/\b2<=4194304:=by
   have h:=HBE.out;unfold fS at h;rw[hq,←hP]at h;dsimp only at h;injection h with h1 h;injection h with h2 _;have k1:=lS af P P.length;have k2:=lS ac P P.length;rw[h1,h2];exact⟨fC (by omega) (by omega) k1.1 (by omega),fC (by omega) (by omega) k2.1 (by omega)⟩
  have HN:=aa (aj hn hP);have HWD:=aa (aj hwm hw1);rw[←hP,←hn]at HR;rw[←hP]at hq;have HQ:=aa hq;clear hP hn hwm hwd hw1 hq
  by_cases hm:most<0\/24<most
  ·have HA:=aa (show r=⟨ac,[],[],0,1⟩ from by rw[HR.out,if_pos rfl,if_pos hm])
   by_cases h0:most<0
   ·go_wp2_with fail;refine bodyPost_ret (fN rfl _ _ _) rfl ?_;rw[HA.out];exact⟨_,_,rfl,Out.none _,Out.none _,H1.out.2⟩
   ·have h24:24<most:=by omega
    go_wp2_with fail;refine bodyPost_ret (fN rfl _ _ _) rfl ?_;rw[HA.out];exact⟨_,_,rfl,Out.none _,Out.none _,H1.out.2⟩
  ·have h0:¬most<0:=by omega
   have h24:¬24<most:=by omega
   by_cases hbm:most<b1+2*b2
   ·have HA:=aa (show r=⟨ac,[],[],0,290⟩ from by rw[HR.out,if_pos rfl,if_neg hm,if_pos hbm]);go_wp2_with fail;refine bodyPost_ret (fN rfl _ _ _) rfl ?_;rw[HA.out];exact⟨_,_,rfl,Out.none _,Out.none _,H1.out.2⟩
   ·have HA:=aa (show r=foundS (jF (partL nm wd ln ds bd) wd n P (jZ wd n) (jZ wd n) (bg n 0)) from by rw[HR.out,if_pos rfl,if_neg hm,if_neg hbm]);have hbp:=aB HX.out.2 H1.out.1;have x0:w1.cell? ⟨pb,0,ak⟩=ag (.string nm):=(aA hbp 0).trans rfl;have x1:w1.cell? ⟨pb,1,ak⟩=ag (.int .i64 wd):=(aA hbp 1).trans rfl;have x2:w1.cell? ⟨pb,2,ak⟩=ag (.int .i64 ln):=(aA hbp 2).trans rfl;have x3:w1.cell? ⟨pb,3,ak⟩=ag (.slice A3 ds.length c3):=(aA hbp 3).trans rfl;have x4:w1.cell? ⟨pb,4,ak⟩=ag (.slice A4 bd.length c4):=(aA hbp 4).trans rfl;have HPB:=aa (HPU.out w1 H1.out.1);rw[HQ.out]at HPB;clear hbp hm;go_wp2_with fail;refine HPB.out.mono ?_;rintro _ P0 ⟨v,rfl,hR,hb2⟩;obtain⟨Av,cv,hv⟩:=Kd.bN hR;subst hv
    have HO:=aa (aj (H1.out.1.trans (hb2.mono H1.out.1.size)) (show fA P0 Av P from by
     obtain⟨A',c',e',-,hC⟩:=Kd.cO hR;injection e' with e'
     rw[e'];exact iW hC))
    have HWP:=aa (H1.out.2.trans (hb2.mono H1.out.2.size));have HBP:=aa (aB HX.out.2 HO.out.1);rw[←HN.out.1];clear hR hb2 x0 x1 x2 x3 x4 hb1 h0 h24 hbm;go_wp2_with fail
    go_loopw [14,15,16] (fun v1 v2 i W'=>∃(va vh:Value) (k:Nat),va=v1/\vh=v2/\i=.int .i64 k/\k<=n/\Aside0 (Kd.bool.R 4 W' P0.heap.size (fun g=>ag g≠vh.ownBlock) va (bg k af)/\Kd.bool.R 4 W' P0.heap.size (fun g=>ag g≠va.ownBlock) vh ((bu k).map fun i=> !P.getD i ac)/\Below P0.heap.size P0 W')) (fun _ _ i _=>n - (intOf i).toNat)
    case atStart=>exact⟨_,_,0,rfl,rfl,rfl,bk _,⟨Kd.iG _ _ _ _ _,Kd.iG _ _ _ _ _,ar _ _⟩⟩
    case round=>
     as_aux_lemma=>
      obtain⟨va,vh,k,rfl,rfl,rfl,hk,HB⟩:=hrel
      by_cases hlt:k<n
      ·have hi1:(k:Int)<(n:Int):=by omega
       have LEN1:=aa (show((bg k af).length+1)*1<=140737488355328 by simp;omega);have LEN2:=aa (show(((bu k).map fun i=> !P.getD i ac).length+1)*1<=140737488355328 by simp;omega);have HLT:=aa hlt
       go_wp2_with (at_builtin;refine Kd.cX Kd.bool (w0:=P0) P0.heap.size rfl (.tmp 61) (.tmp 62) 30 4 (.bool ac) 1 rfl rI info4 rfl (by decide) (by decide) va (bg k af) af [.bool af] (fun g=>ag g≠vh.ownBlock) (fun _=>False) rfl rfl rfl (fun _ h=>h.elim) (fun g hg e=>by have:=Kd.R_lt HB.out.2.1 g e.symm;omega) HB.out.1 HB.out.2.2 HB.out.2.2.size LEN1.out ?_)
       intro v1 u1 hr1 hb1 hg1 hat1;have H3:=aa (aj hr1 (aj hb1 (after1 HB.out.2.1 hg1 hat1)));obtain⟨ad,e1,q0⟩:=HO.out.2 k (by rw[←HN.out.1];exact hlt);cases e1;replace q0:=aE hb1 q0;obtain⟨b,hb⟩:∃b,b=P.getD k ac:=⟨_,rfl⟩;rw[←hb]at q0;have HBB:=aa hb;clear hr1 hb1 hg1 hat1 hb
       go_wp2_with (at_builtin;refine Kd.cX Kd.bool (w0:=P0) P0.heap.size rfl (.tmp 64) (.tmp 70) 30 4 (.bool ac) 1 rfl rI info4 rfl (by decide) (by decide) vh ((bu k).map fun i=> !P.getD i ac) (!b) [.bool (!b)] (fun g=>ag g≠v1.ownBlock) (fun _=>False) rfl rfl rfl (fun _ h=>h.elim) (fun g hg e=>by have:=Kd.R_lt H3.out.1 g e.symm;omega) H3.out.2.2 H3.out.2.1 H3.out.2.1.size LEN2.out ?_)
       intro v2 u2 hr2 hb2 hg2 hat2;have H4:=aa (aj (after1 H3.out.1 hg2 hat2) (aj hr2 hb2));clear hr2 hb2 hg2 hat2 q0;go_wp2_with fail;go_roundw
       case measure=>simp[intOf];have:=HLT.out;omega
       case rel=>
        refine⟨v1,v2,k+1,rfl,rfl,by go_num,HLT.out,⟨?_,?_,H4.out.2.2⟩⟩
        ·rw[List.replicate_succ'];exact H4.out.1
        ·rw[jz,ef,cg,db,←HBB.out];exact H4.out.2.1
      ·have hkl:n=k:=by omega
       subst hkl
       have hi1:¬(n:Int)<(n:Int):=by omega
       have hw9:(0:Int)<=(n:Int):=bo _
       have hw8:(n:Int).toNat*8<=281474976710656:=by omega
       go_wp2_with (at_make;refine Kd.R_make (Kd.int .u64) (w0:=P0) P0.heap.size 74 rfl rfl 36 (.tmp 73) (.tmp 73) rfl (n:Int) rfl rfl gM (.int .u64 0) 8 mL rfl (by decide) (by decide) (0:Int) (ok:=fun _=>True) (okp:=fun _=>False) rfl (fun _ h=>h.elim) trivial hw9 hw8 HB.out.2.2 HB.out.2.2.size ?_)
       intro vx u1 hrx hbx hgx bx0 hatx hle0
       try rw[ax]at hrx
       obtain⟨Ax,cx,hv⟩:=Kd.bN hrx;subst hv;have hry:=RowO.of_R hrx;rw[dx];have h1:=Kd.lQ HB.out.1 hgx (fun k _ e=>by cases e);have h2:=Kd.lQ HB.out.2.1 hgx (fun k _ e=>by cases e);obtain⟨Ma,ca,e1⟩:=Kd.bN h1;obtain⟨Mh,ch,e2⟩:=Kd.bN h2;subst e1 e2;have HM:=aa (aj (openO h1) (openO h2));have HU1:=aa (aj hry hbx);have hn2:n=P.length:=HN.out.1
       have ea:bg n af=P.map fun _=>af:=by rw[hn2];exact all_map P
       have eh:((bu n).map fun i=> !P.getD i ac)=P.map (! ·):=by rw[hn2];exact hid_map P
       have la:(P.map fun _=>af).length=n:=by rw[List.length_map,hn2]
       have lh:(P.map (! ·)).length=n:=by rw[List.length_map,hn2]
       rw[ea,eh,la,lh]at HM;rw[ea,eh,la,lh];have HL:=aa (aj la lh);obtain⟨all,hall⟩:∃l,l=P.map fun _=>af:=⟨_,rfl⟩;obtain⟨hid,hhid⟩:∃l,l=P.map (! ·):=⟨_,rfl⟩;rw[←hall,←hhid]at HM HL;have HAH:=aa (aj hall hhid);have HWU:=aa (HWP.out.trans (hbx.mono HWP.out.size));have HBU:=aa (aB HBP.out hbx);obtain⟨L,hL⟩:∃L,L=partL nm wd ln ds bd:=⟨_,rfl⟩;rw[←hL]at HA;have HLL:=aa hL;clear hrx hbx hgx hatx hle0 hry h1 h2 ea eh la lh hn2 hall hhid hw9 hw8 hL HB hk;go_wp2_with fail
       go_loopw [18] (fun v W'=>∃(x:List Int) (f:Nat),Aside0 (x.length=n/\InW w x/\RowO W' P0.heap.size Ax cx x/\jF L wd n P (jZ wd n) f x=jF L wd n P (jZ wd n) (jZ wd n) (bg n 0)/\jZ wd n<=f+numS (2 ^ w) all x n/\Kb P0.heap.size Ax u1 W')) (fun _ W'=>(2 ^ w) ^ n - numS (2 ^ w) all (rdRow W' Ax n) n)
       case atStart=>exact⟨_,jZ wd n,⟨dx,zeros_inw w n,HU1.out.1,rfl,Nat.le_add_right _ _,Kb.refl _ _ _⟩⟩
       case round=>
        as_aux_lemma=>
         obtain⟨x,f,HB⟩:=hrel;have hxn:=HB.out.1;have HO2:=aa (show(Kd.int .u64).R 74 (wr.alloc (.cells #[] 74)) wr.heap.size (fun _=>True) (.slice (ag ⟨wr.heap.size,0,ak⟩) 0 0) ([]:List Int) from⟨fun _ _=>trivial,[],own_lit wr wr.heap.size 74 .u64 [] (aq _) (bk _),gQ.none _ _⟩);have hba:Below wr.heap.size wr (wr.alloc (.cells #[] 74)):=(ar _ _).alloc (aq _) _;have HBA:=aa hba;have HIC:=aa (Kd.aF HB.out.2.2.1.rd hba);have HL8:=aa (show(([]:List Int).length+x.length)*8<=140737488355328 from by simp;omega);have HXN:=aa hxn;rw[←hxn];clear hba hxn
         go_wp2_with (at_builtin;refine Kd.R_append_row (bh .u64) (0:Int) (w0:=wr) wr.heap.size rfl (.tmp 75) (.tmp 76) 36 74 (.int .u64 0) 8 rfl gM mL rfl (by decide) (.slice (ag ⟨wr.heap.size,0,ak⟩) 0 0) [] x Ax x.length cx (ok:=fun _=>True) rfl rfl (fun _ _=>trivial) HO2.out HIC.out HBA.out HBA.out.size HL8.out ?_)
         intro vy u2 hry hby hgy haty;obtain⟨Ay,cy,hv⟩:=Kd.bN hry;subst hv;rw[HXN.out];have hps:P0.heap.size<=wr.heap.size:=bi HU1.out.2.size HB.out.2.2.2.2.2.size;have hry2:=RowO.of_R (Kd.fK hry hps);have HWR:=aa (show Kb P0.heap.size Ax u1 u2 from HB.out.2.2.2.2.2.trans (Kb.of_below hby hps));have HY0:=aa (aj hry2 (bi hps hby.size))
         have HYN:=aa (show ∀b,Ay=ag ⟨b,0,ak⟩->wr.heap.size<=b from fun b e=>by
          subst e
          exact Kd.R_base hry b rfl)
         have HX2:=aa (show RowO u2 P0.heap.size Ax cx x/\∀b b',Ax=ag ⟨b,0,ak⟩->Ay=ag ⟨b',0,ak⟩->b≠b' from⟨HB.out.2.2.1.below hby,fun b b' e e'=>by
          obtain⟨cs,hc⟩:=HB.out.2.2.1.typed b e;have h1:=aX hc;have h2:=HYN.out b' e'
          omega⟩)
         have HBU2:=aa (HWR.out.keep HU1.out.1.typed HBU.out (by decide))
         have HM2:=aa (show(0<n->∃og,Ma=ag ⟨og,0,ak⟩/\jT u2 og all)/\(0<n->∃og,Mh=ag ⟨og,0,ak⟩/\jT u2 og hid) from⟨fun h=>by
          obtain⟨og,e,cells,hc,hv⟩:=HM.out.1 (by omega)
          exact⟨og,e,cells,HWR.out.keep HU1.out.1.typed hc (by decide),hv⟩,fun h=>by
          obtain⟨og,e,cells,hc,hv⟩:=HM.out.2 (by omega)
          exact⟨og,e,cells,HWR.out.keep HU1.out.1.typed hc (by decide),hv⟩⟩)
         clear hry hry2 hby hgy haty hps HO2 HBA HIC HL8;go_wp2_with fail
         go_loopw [19] (fun i W'=>∃k:Nat,i=.int .i64 k/\k<=n/\Aside0 (RowO W' P0.heap.size Ay cy (zerK n P x k)/\Kb P0.heap.size Ay u2 W')) (fun i _=>n - (intOf i).toNat)
         case atStart=>exact⟨0,rfl,bk _,⟨by rw[zerK_zero P HXN.out];exact HY0.out.1,Kb.refl _ _ _⟩⟩
         case round=>
          as_aux_lemma=>
           obtain⟨k,rfl,hk,HK⟩:=hrel
           by_cases hlt:k<n
           ·have hi1:(k:Int)<(n:Int):=by omega
            obtain⟨b,hAy,hr⟩:∃b,Ay=ag ⟨b,0,ak⟩/\Row _ P0.heap.size b cy (zerK n P x k):=by
             rcases HK.out.1.row with h | h
             ·exact absurd (l8 n P x k) (by rw[h];simp;omega)
             ·exact h
            subst hAy;have HLW:=aa (show Below P0.heap.size P0 _ from HU1.out.2.trans (HWR.out.low.trans HK.out.2.low));obtain⟨ad,e1,q0⟩:=HO.out.2 k (by rw[←HN.out.1];exact hlt);cases e1;replace q0:=aE HLW.out q0;obtain⟨q1,f1⟩:=hr.cell (k:=k) (by rw[l8];exact hlt);have HZ:=aa (zerK_step (P:=P) (x:=x) hlt);obtain⟨m,hm⟩:∃m,m=P.getD k ac:=⟨_,rfl⟩;rw[←hm]at q0 HZ;have HRR:=aa (aj hr (hr.put k 0));have HKS:=aa (Kb.set hr k (.int .u64 0));clear hm hr
            cases m with
            |true=>
             go_wp2_with fail;refine⟨⟨k+1,by go_num,by omega,⟨?_,HK.out.2⟩⟩,by simp[intOf];omega⟩;rw[HZ.out];exact HK.out.1
            |false=>
             go_wp2_with fail;refine⟨⟨k+1,by go_num,by omega,⟨?_,HK.out.2.trans HKS.out⟩⟩,by simp[intOf];omega⟩;rw[HZ.out];exact RowO.of HRR.out.2
           ·have hkl:n=k:=by omega
            subst hkl
            have hi1:¬(n:Int)<(n:Int):=by omega
            rw[zerK_full]at HK;have HLW:=aa (show Below P0.heap.size P0 _ from HU1.out.2.trans (HWR.out.low.trans HK.out.2.low));have HXR:=aa (HX2.out.1.kb HK.out.2 HX2.out.2);have HBW:=aa (HK.out.2.keep HY0.out.1.typed HBU2.out (by decide));obtain⟨⟨er1,S,T⟩,hansx⟩:∃r,r=cN nm wd ln ds bd x:=⟨_,rfl⟩;have HRX:=aa (nO nm wd ln ds bd A3 c3 A4 c4 wr (HP.out.1.below (HO.out.1.trans (HLW.out.mono HO.out.1.size))) HP.out.2 x Ax cx HXR.out.words (HB.out.2.1.u64 HWD.out.2.2));have HTS:=aa (gK nm wd ln ds bd x);rw[HXN.out,←hansx]at HRX;rw[←hansx]at HTS;have HAX:=aa hansx;clear hansx;have x0:wr.cell? ⟨pb,0,ak⟩=ag (.string nm):=(aA HBW.out 0).trans rfl;have x1:wr.cell? ⟨pb,1,ak⟩=ag (.int .i64 wd):=(aA HBW.out 1).trans rfl;have x2:wr.cell? ⟨pb,2,ak⟩=ag (.int .i64 ln):=(aA HBW.out 2).trans rfl;have x3:wr.cell? ⟨pb,3,ak⟩=ag (.slice A3 ds.length c3):=(aA HBW.out 3).trans rfl;have x4:wr.cell? ⟨pb,4,ak⟩=ag (.slice A4 bd.length c4):=(aA HBW.out 4).trans rfl;go_wp2_with fail;refine HRX.out.mono ?_;rintro _ w3 ⟨vS,vT,rfl,hE,hTR,hb⟩;obtain⟨⟨PS,pS,eS,-⟩,Q,q,eT,hT⟩:=hE;replace eS:vS=.slice PS S.length pS:=eS;replace eT:vT=.slice Q T.length q:=eT;subst eS eT;obtain⟨ab,hab⟩:∃b,b=w3.heap.size:=⟨_,rfl⟩;obtain⟨w4,hw4⟩:∃w',w'=w3.alloc (.cells #[.slice PS S.length pS,.slice Q T.length q] 40):=⟨_,rfl⟩
            have hb4:Below w3.heap.size w3 w4:=by rw[hw4];exact(ar _ _).alloc (aq _) _
            have hk4:w4.heap[ab]? =ag (.cells #[.slice PS S.length pS,.slice Q T.length q] 40 (0,0)):=by rw[hw4,hab];exact aW _ _
            have H4:=aa (show Below wr.heap.size wr w4/\w4.heap[ab]? =ag (.cells #[.slice PS S.length pS,.slice Q T.length q] 40 (0,0))/\TrR w4 (.slice Q T.length q) T from⟨hb.trans (hb4.mono hb.size),hk4,hTR.below hb4⟩);clear hb hb4 hk4 hT hTR x0 x1 x2 x3 x4
            go_upto_block 7 with (fail)
            rw[←hab,←hw4];clear hab hw4;have HKY:=aa (HK.out.2.trans (Kb.of_below (A:=Ay) (base:=P0.heap.size) H4.out.1 HLW.out.size));have HY4:=aa (HK.out.1.below H4.out.1)
            have HG:=aa (show InW w x/\f≠0 from⟨HB.out.2.1,fun e=>by
             have h1:=HB.out.2.2.2.2.1;have h2:=mR (may:=all) HB.out.2.1 n
             have h3:jZ wd n=(2 ^ w) ^ n+1:=by unfold jZ;rw[HWD.out.1,ax]
             omega⟩)
            go_wp2_with fail
            go_loopw [22] (fun v W'=>∃(y:List Int) (g:Nat),Aside0 (y.length=n/\InW w y/\RowO W' P0.heap.size Ay cy y/\kJ L wd n hid x g y=kJ L wd n hid x (jZ wd n) (dU n P x)/\jZ wd n<=g+numS (2 ^ w) hid y n/\Kb P0.heap.size Ay w4 W')) (fun _ W'=>(2 ^ w) ^ n - numS (2 ^ w) hid (rdRow W' Ay n) n)
            case atStart=>exact⟨_,jZ wd n,⟨lY n P x,startS_inw HG.out.1,HY4.out,rfl,Nat.le_add_right _ _,Kb.refl _ _ _⟩⟩
            case round=>
             as_aux_lemma=>
              obtain⟨y,g,HC⟩:=hrel;have hyn:=HC.out.1
              have h3:jZ wd n=(2 ^ w) ^ n+1:=by unfold jZ;rw[HWD.out.1,ax]
              have h2:=mR (may:=hid) HC.out.2.1 n;obtain⟨g,rfl⟩:∃g',g=g'+1:=⟨g - 1,by have:=HC.out.2.2.2.2.1;omega⟩;have HGN:=aa (aj hyn (aj h3 h2));have HLW2:=aa (show Below P0.heap.size P0 _ from HLW.out.trans ((H4.out.1.mono HLW.out.size).trans HC.out.2.2.2.2.2.low));have hbw:=HC.out.2.2.2.2.2.keep HY4.out.typed (aB HBW.out H4.out.1) (by decide);have HBW2:=aa hbw;have HAB2:=aa (HC.out.2.2.2.2.2.keep HY4.out.typed H4.out.2.1 (by decide));obtain⟨⟨er2,S2,U⟩,hansy⟩:∃r,r=cN nm wd ln ds bd y:=⟨_,rfl⟩;have HRY:=aa (refRun_calls nm wd ln ds bd A3 c3 A4 c4 wr (HP.out.1.below (HO.out.1.trans (HLW2.out.mono HO.out.1.size))) HP.out.2 y Ay cy HC.out.2.2.1.words (HC.out.2.1.u64 HWD.out.2.2));have HTS2:=aa (gK nm wd ln ds bd y);rw[hyn,←hansy]at HRY;rw[←hansy]at HTS2;have HAY:=aa hansy;clear hansy hyn h3 h2 hbw;have x0:wr.cell? ⟨pb,0,ak⟩=ag (.string nm):=(aA HBW2.out 0).trans rfl;have x1:wr.cell? ⟨pb,1,ak⟩=ag (.int .i64 wd):=(aA HBW2.out 1).trans rfl;have x2:wr.cell? ⟨pb,2,ak⟩=ag (.int .i64 ln):=(aA HBW2.out 2).trans rfl;have x3:wr.cell? ⟨pb,3,ak⟩=ag (.slice A3 ds.length c3):=(aA HBW2.out 3).trans rfl;have x4:wr.cell? ⟨pb,4,ak⟩=ag (.slice A4 bd.length c4):=(aA HBW2.out 4).trans rfl;go_wp2_with fail;refine HRY.out.mono ?_;rintro _ w5 ⟨vS,vT,rfl,hE,hb⟩;obtain⟨⟨QS,qS,eS,-⟩,Q2,q2,eT,hT⟩:=hE;replace eS:vS=.slice QS S2.length qS:=eS;replace eT:vT=.slice Q2 U.length q2:=eT;subst eS eT;obtain⟨ob,hob⟩:∃b,b=w5.heap.size:=⟨_,rfl⟩;obtain⟨w6,hw6⟩:∃w',w'=w5.alloc (.cells #[.slice QS S2.length qS,.slice Q2 U.length q2] 40):=⟨_,rfl⟩
              have hb6:Below w5.heap.size w5 w6:=by rw[hw6];exact(ar _ _).alloc (aq _) _
              have hk6:w6.heap[ob]? =ag (.cells #[.slice QS S2.length qS,.slice Q2 U.length q2] 40 (0,0)):=by rw[hw6,hob];exact aW _ _
              have H6:=aa (show Below wr.heap.size wr w6/\w6.heap[ob]? =ag (.cells #[.slice QS S2.length qS,.slice Q2 U.length q2] 40 (0,0))/\lE.C w6 Q2 U.length U from⟨hb.trans (hb6.mono hb.size),hk6,Kd.aF hT hb6⟩);clear hb hb6 hk6 hT x0 x1 x2 x3 x4
              go_upto_region 24 with (fail)
              rw[←hob,←hw6];clear hob hw6;have HT6:=aa (((H4.out.2.2.kb HC.out.2.2.2.2.2 HY4.out.typed).below H6.out.1).C);have a1:w6.cell? ⟨ab,1,ak⟩=ag (.slice Q T.length q):=(aA (aB HAB2.out H6.out.1) 1).trans rfl;have b1':w6.cell? ⟨ob,1,ak⟩=ag (.slice Q2 U.length q2):=(aA H6.out.2.1 1).trans rfl;obtain⟨⟨is,at2,zz⟩,hrr⟩:∃r,r=iT T U:=⟨_,rfl⟩;have HLK:=aa (leak29_calls T U Q Q2 q q2 w6 HT6.out H6.out.2.2 HTS.out HTS2.out _ hrr)
              have HLE:=aa (show L x y=(is,at2,zz) from by
               rw[HLL.out,hrr];unfold partL
               rw[←HAX.out,←HAY.out])
              have HIS:=aa (mS (L:=L) (w:=wd) (n:=n) (may:=hid) (x:=x) (y:=y) (f:=g));rw[HLE.out]at HIS;clear hrr;go_wp2_with fail;refine HLK.out.mono ?_;rintro _ w7 ⟨rfl,hb7⟩;have H7:=aa (H6.out.1.trans (hb7.mono H6.out.1.size));clear hb7 a1 b1';have HKX:=aa (show RowO w7 P0.heap.size Ax cx x from((HXR.out.below H4.out.1).kb HC.out.2.2.2.2.2 HX2.out.2).below H7.out);have HKY7:=aa (HC.out.2.2.1.below H7.out);have HW7:=aa (show Below W.heap.size W w7 from HWP.out.trans ((HLW2.out.trans (H7.out.mono HLW2.out.size)).mono HWP.out.size))
              cases is with
              |true=>
               have HRES:=aa (show r=⟨af,x,y,at2,0⟩ from by
                obtain⟨f',rfl⟩:∃f',f=f'+1:=⟨f - 1,by have:=HG.out.2;omega⟩;have h:=HB.out.2.2.2.1;rw[kR,←HAH.out.2,←HC.out.2.2.2.1,HIS.out,if_pos rfl]at h
                rw[HA.out,←h];rfl)
               go_wp2_with fail;refine bodyPost_ret (fN rfl _ _ _) rfl ?_;rw[HRES.out];exact⟨.slice Ax n cx,.slice Ay n cy,rfl,⟨Ax,cx,by rw[HXN.out],HKX.out.words⟩,⟨Ay,cy,by rw[HC.out.1],HKY7.out.words⟩,HW7.out⟩
              |false=>
               obtain⟨nx,hnx⟩:∃nx,nx=dZ wd hid n y:=⟨_,rfl⟩
               have HM7:=aa (show(0<n->∃og,Ma=ag ⟨og,0,ak⟩/\jT w7 og all)/\(0<n->∃og,Mh=ag ⟨og,0,ak⟩/\jT w7 og hid) from⟨fun h=>by
                obtain⟨og,e,cells,hc,hv⟩:=HM2.out.1 h
                exact⟨og,e,cells,aB (HC.out.2.2.2.2.2.keep HY4.out.typed (aB (HK.out.2.keep HY0.out.1.typed hc (by decide)) H4.out.1) (by decide)) H7.out,hv⟩,fun h=>by
                obtain⟨og,e,cells,hc,hv⟩:=HM2.out.2 h
                exact⟨og,e,cells,aB (HC.out.2.2.2.2.2.keep HY4.out.typed (aB (HK.out.2.keep HY0.out.1.typed hc (by decide)) H4.out.1) (by decide)) H7.out,hv⟩⟩)
               have HNC:=aa (nD nm wd ln ds bd A3 c3 A4 c4 (w:=w) HWD.out.1 HWD.out.2.1 HWD.out.2.2 (base:=P0.heap.size) (A:=Ay) (M:=Mh) (c:=cy) (cm:=ch) (n:=n) (l:=y) (may:=hid) w7 (bi HLW2.out.size H7.out.size) HC.out.1 HL.out.2 hn1 HC.out.2.1 HKY7.out HM7.out.2);rw[←hnx]at HNC HIS;have HNX:=aa hnx;have hb7:=aB HBW2.out H7.out;have x0:w7.cell? ⟨pb,0,ak⟩=ag (.string nm):=(aA hb7 0).trans rfl;have x1:w7.cell? ⟨pb,1,ak⟩=ag (.int .i64 wd):=(aA hb7 1).trans rfl;have x2:w7.cell? ⟨pb,2,ak⟩=ag (.int .i64 ln):=(aA hb7 2).trans rfl;have x3:w7.cell? ⟨pb,3,ak⟩=ag (.slice A3 ds.length c3):=(aA hb7 3).trans rfl;have x4:w7.cell? ⟨pb,4,ak⟩=ag (.slice A4 bd.length c4):=(aA hb7 4).trans rfl;clear hnx hb7;go_wp2_with fail;refine HNC.out.mono ?_;rintro _ w8 ⟨rfl,hrow,hkb⟩;have H8:=aa (aj hrow hkb);clear hrow hkb x0 x1 x2 x3 x4
               cases nx with
               |none=>
                have HIN:=aa (show kJ L wd n hid x (jZ wd n) (dU n P x)=ak from by
                 rw[←HC.out.2.2.2.1,HIS.out,if_neg (by decide)])
                obtain⟨f',hf'⟩:∃f',f=f'+1:=⟨f - 1,by have:=HG.out.2;omega⟩;have HOU:=aa (kR (L:=L) (w:=wd) (n:=n) (P:=P) (G:=jZ wd n) (x:=x) (f:=f'));rw[←HAH.out.2,HIN.out,←HAH.out.1]at HOU;obtain⟨nx,hnx⟩:∃nx,nx=dZ wd all n x:=⟨_,rfl⟩;have hty:=HKY7.out.typed;have HX8:=aa (HKX.out.kb H8.out.2 HX2.out.2);have hb8:=H8.out.2.keep hty (aB HBW2.out H7.out) (by decide);have HB8:=aa hb8
                have HNC2:=aa (nD nm wd ln ds bd A3 c3 A4 c4 (w:=w) HWD.out.1 HWD.out.2.1 HWD.out.2.2 (base:=P0.heap.size) (A:=Ax) (M:=Ma) (c:=cx) (cm:=ca) (n:=n) (l:=x) (may:=all) w8 (bi (bi HLW2.out.size H7.out.size) H8.out.2.size) HXN.out HL.out.1 hn1 HG.out.1 HX8.out (fun h=>by
                 obtain⟨og,e,cells,hc,hv⟩:=HM7.out.1 h
                 exact⟨og,e,cells,H8.out.2.keep hty hc (by decide),hv⟩))
                rw[←hnx]at HNC2 HOU;have HNX2:=aa (aj hnx hf');have x0:w8.cell? ⟨pb,0,ak⟩=ag (.string nm):=(aA hb8 0).trans rfl;have x1:w8.cell? ⟨pb,1,ak⟩=ag (.int .i64 wd):=(aA hb8 1).trans rfl;have x2:w8.cell? ⟨pb,2,ak⟩=ag (.int .i64 ln):=(aA hb8 2).trans rfl;have x3:w8.cell? ⟨pb,3,ak⟩=ag (.slice A3 ds.length c3):=(aA hb8 3).trans rfl;have x4:w8.cell? ⟨pb,4,ak⟩=ag (.slice A4 bd.length c4):=(aA hb8 4).trans rfl;clear hnx hb8 hty hf';go_wp2_with fail;refine HNC2.out.mono ?_;rintro _ w9 ⟨rfl,hrow,hkb⟩;have H9:=aa (aj hrow hkb);clear hrow hkb x0 x1 x2 x3 x4
                cases nx with
                |none=>
                 have HRES:=aa (show r=⟨ac,[],[],0,0⟩ from by
                  have h:=HB.out.2.2.2.1;rw[HNX2.out.2,HOU.out]at h
                  rw[HA.out,←h];rfl)
                 go_wp2_with fail;refine bodyPost_ret (fN rfl _ _ _) rfl ?_;rw[HRES.out];exact⟨_,_,rfl,Out.none _,Out.none _,HW7.out.trans ((H8.out.2.low.trans H9.out.2.low).mono HWP.out.size)⟩
                |some x'=>
                 have hN:=mB HWD.out.2.1 HWD.out.2.2 HG.out.1 (Nat.le_of_eq HXN.out.symm) (by rw[←HWD.out.1];exact HNX2.out.1.symm);have HNO:=aa hN;have HRX9:=aa (H9.out.1 x' rfl)
                 have HM1:=aa (show rdRow w9 Ax n=x'/\rdRow _ Ax n=x from by
                  have h1:=iY HRX9.out.words;have h2:=iY HB.out.2.2.1.words;rw[hN.len,HXN.out]at h1;rw[HXN.out]at h2
                  exact⟨h1,h2⟩)
                 have HM3:=aa (mR (may:=all) hN.inw n)
                 have HKB:=aa (show Kb P0.heap.size Ax u1 w9 from
                  ((HWR.out.new (HKY.out.trans (HC.out.2.2.2.2.2.trans ((Kb.of_below H7.out HLW2.out.size).trans H8.out.2))) (fun b e=>bi HB.out.2.2.2.2.2.size (HYN.out b e))).trans H9.out.2))
                 clear hN;go_wp2_with fail;rw[HXN.out];go_roundw
                 case rel=>
                  refine⟨x',f',⟨by rw[HNO.out.len];exact HXN.out,HNO.out.inw,HRX9.out,?_,?_,HKB.out⟩⟩
                  ·rw[←HB.out.2.2.2.1,HNX2.out.2,HOU.out]
                  ·have h1:=HB.out.2.2.2.2.1;have h2:=HNO.out.num;have h3:=HNX2.out.2;omega
                 case measure=>
                  rw[HM1.out.1,HM1.out.2];have h2:=HNO.out.num;have h3:=HM3.out;omega
               |some y'=>
                have hN:=mB HWD.out.2.1 HWD.out.2.2 HC.out.2.1 (Nat.le_of_eq HC.out.1.symm) (by rw[←HWD.out.1];exact HNX.out.symm);have HNO:=aa hN;have HRY8:=aa (H8.out.1 y' rfl)
                have HM1:=aa (show rdRow w8 Ay n=y'/\rdRow wr Ay n=y from by
                 have h1:=iY HRY8.out.words;have h2:=iY HC.out.2.2.1.words;rw[hN.len,HC.out.1]at h1;rw[HC.out.1]at h2
                 exact⟨h1,h2⟩)
                have HM3:=aa (mR (may:=hid) hN.inw n);clear hN;go_wp2_with fail;refine⟨⟨y',g,⟨by rw[HNO.out.len];exact HC.out.1,HNO.out.inw,HRY8.out,?_,?_,HC.out.2.2.2.2.2.trans ((Kb.of_below H7.out HLW2.out.size).trans H8.out.2)⟩⟩,?_⟩
                ·rw[←HC.out.2.2.2.1,HIS.out,if_neg (by decide)]
                ·have h1:=HC.out.2.2.2.2.1;have h2:=HNO.out.num;omega
                ·rw[HM1.out.1,HM1.out.2];have h2:=HNO.out.num;have h3:=HM3.out;omega
 ·have HA:=aa (show r=⟨ac,[],[],0,er⟩ from by rw[HR.out,if_neg he]);go_wp2_with fail;refine bodyPost_ret (fN rfl _ _ _) rfl ?_;rw[HA.out];exact⟨_,_,rfl,Out.none _,Out.none _,H1.out.2⟩
end
end Go.Proofs.YtfigjpehecibeaaGreat.L
namespace Go.Proofs.YtfigjpehecibeaaGreat.Rg
open Go Go.RowKit
section
variable {F:Fence}{n:Nat}{P:Program}
structure Kc (W W':World):Prop where
 size:W.heap.size<=W'.heap.size
 same:∀(k:Nat) (o:Obj),W.heap[k]? =ag o->o.isCells=af->W'.heap[k]? =ag o
theorem Kc.trans {A B C:World}(h:Kc A B)(k:Kc B C):Kc A C:=⟨bi h.size k.size,fun i o hi ho=>k.same i o (h.same i o hi ho) ho⟩
theorem Kc.of_below {W W':World}(h:Below W.heap.size W W'):Kc W W':=⟨h.size,fun k o hk _=>(h.block k (ck.1 hk).1).trans hk⟩
theorem Kc.putObj {W:World}{l:Nat}{o o':Obj}(h:W.heap[l]? =ag o)(hc:o.isCells=ac):Kc W (W.putObj l o'):=
 ⟨Nat.le_of_eq (World.putObj_size ..).symm,fun k ok hk ho=>by
   by_cases e:k=l
   ·subst e;rw[h]at hk;injection hk with hk;subst hk;rw[hc]at ho;cases ho
   ·exact(World.putObj_heap_other e).trans hk⟩
def Gives {α:Type}(F:Fence)(n:Nat)(P:Program)(g:Nat)(lb:Array Value)(encs:α->Array Value)(At:α->World->Prop)(S Sp:List α->Prop)(N:Nat)(w:World):Prop:=
 ∀(l:Nat) (J Jx:List α->World->Prop) (W:World),Below w.heap.size w W->(∀s A B,J s A->Below W.heap.size A B->J s B)->
  (∀pre x W1,J pre W1->At x W1->pre.length<N->YieldAt F (n - 1) P l (encs x) W1 fun e W'=>
    (e=.returned (.bool af)/\J (pre++[x]) W'/\Kc W1 W')\/(e=.returned (.bool ac)/\Jx (pre++[x]) W'))->
  J [] W->
  CallsIn F n P g (#[.func (.yield l) #[] #[]]++lb) W fun e W'=>(∃v,e=.returned v)/\((∃xs,S xs/\J xs W')\/(∃pre,Sp pre/\Jx pre W'))
def BodyP {α:Type}(B:Nat)(I:List α->World->Prop)(Ix:Code->List α->World->Prop)(xs:List α)(W:World):Exit->Act->World->Prop
 | .normal,_,W'=>Below W.heap.size W W'/\I xs W'
 | .ret,_,W'=>KeepsFrom B W W'/\Ix .ret xs W'
 | .exit id,_,W'=>KeepsFrom B W W'/\Ix (.exit id) xs W'
 | .goto t,_,W'=>KeepsFrom B W W'/\Ix (.goto t) xs W'
 |_,_,_=>False
theorem iA {m l:Nat}{W:World}{o o':Obj}(hl:m<=l)(h:W.heap[l]? =ag o):Below m W (W.putObj l o'):=
 (ar m W).grown (grownBy_putObj' W l o') (by have:=(ck.1 h).1;omega) (fun k e=>by cases e;omega)
theorem round_of {α:Type}{ps:Array Tmp}{assign body:Code}{a:Act}{B l d:Nat}{fn:FuncId}(hfn:F.fn fn){rec:LoopState->Option Code->Loop}
 (hrec:rec=fun st pe=>{ state:=st,pending:=pe,fn,tmps:=a.tmps,params:=ps,assign,body,defers:=d }) (hB:B<=l)
 {encs:α->Array Value} {At:α->World->Prop} (hps:∀x,(encs x).size=ps.size) (hAt:∀x A C,At x A->Kc A C->At x C)
 {I:List α->World->Prop} {Ix:Code->List α->World->Prop} (hI:∀s A C,I s A->Below B A C->I s C) (hIx:∀c s A C,Ix c s A->Below B A C->Kc A C->Ix c s C)
 {Ax:α->Act->World->Prop} (hAx:∀x a' A C,Ax x a' A->Kc A C->Ax x a' C) {m:Nat} {pre:List α} {x:α} {W:World} (hi:I pre W) (hat:At x W) (hl:W.heap[l]? =ag (.loop (rec .ready ak)))
 (hassign:∀K:Act->World->Prop,(∀a' W',Below W.heap.size W W'->Ax x a' W'->K a' W')->
   assign.wpIn (F.inRound l) m P (Exit.then K (fun _ _ _=>False)) { tmps:=(ps.zip (encs x)).foldl (fun t (p,v)=>t.setIfInBounds p v) a.tmps,defers:=[] } W)
 (hbody:∀(a':Act) (W:World),(∃r,W.heap[l]? =ag (.loop r))->I pre W->At x W->Ax x a' W->body.wpIn (F.inRound l) m P (BodyP B I Ix (pre++[x]) W) a' W):
 YieldAt F m P l (encs x) W fun e W'=>
  (e=.returned (.bool af)/\(I (pre++[x]) W'/\W'.heap[l]? =ag (.loop (rec .ready ak)))/\Kc W W'/\∀k o,k≠l->W.heap[k]? =ag o->W'.heap[k]? =ag o)\/
  (e=.returned (.bool ac)/\(∃c,Ix c (pre++[x]) W'/\W'.heap[l]? =ag (.loop (rec .done (ag c))))/\∀k o,B<=k->k≠l->W.heap[k]? =ag o->o.isCells=ac->W'.heap[k]? =ag o):=by
 have hlt:l<W.heap.size:=(ck.1 hl).1;have hy:=run_yield (P:=P) (args:=encs x) hl (by rw[hrec];exact hps x);rw[hrec]at hy;refine⟨fn,_,assign,body,hy,roundIn_of_wpIn hfn (hassign _ fun a' Wa hba hax=> ?_)⟩;clear hy;have hla:=(hba.block l hlt).trans hl;have hlta:l<Wa.heap.size:=(ck.1 hla).1;refine⟨_,run_beginRound hla (by rw[hrec]),?_⟩;have hl2:(Wa.putObj l (.loop { rec .ready ak with state:=.busy })).heap[l]? =ag (.loop { rec .ready ak with state:=.busy }):=World.putObj_heap_same hlta;have hka:=(Kc.of_below hba).trans (Kc.putObj (o':=.loop { rec .ready ak with state:=.busy }) hla rfl)
 have hlW:B<=W.heap.size:=by omega
 refine wpIn_mono (hbody a' _ ⟨_,hl2⟩ (hI _ _ _ (hI _ _ _ hi (hba.mono hlW)) (iA hB hla)) (hAt _ _ _ hat hka) (hAx _ _ _ _ hax (Kc.putObj hla rfl))) ?_
 have fin:∀(jump:Option Code) (W3:World),W3.heap[l]? =ag (.loop { rec .ready ak with state:=.busy })->
  (Instr.endRound l jump).run P W3=.ok (.bool jump.isNone) (W3.putObj l (.loop (rec (if jump.isNone then .ready else .done) jump)))/\
  (W3.putObj l (.loop (rec (if jump.isNone then .ready else .done) jump))).heap[l]? =ag (.loop (rec (if jump.isNone then .ready else .done) jump)):=fun jump W3 hl3=>by
  have:=run_endRound (P:=P) jump hl3;rw[hrec]at this ⊢;exact⟨this,World.putObj_heap_same (ck.1 hl3).1⟩
 have out:∀(c:Code) (W3:World),KeepsFrom B (Wa.putObj l (.loop { rec .ready ak with state:=.busy })) W3->Ix c (pre++[x]) W3->
  ∃v w',(Instr.endRound l (ag c)).run P W3=.ok v w'/\(.returned v=gj (.bool ac)/\(∃c,Ix c (pre++[x]) w'/\w'.heap[l]? =ag (.loop (rec .done (ag c))))/\∀k o,B<=k->k≠l->W.heap[k]? =ag o->o.isCells=ac->w'.heap[k]? =ag o):=fun c W3 hk3 hi3=>by
  have hl3:=hk3.same l _ hB hl2 rfl;obtain⟨hr,hl4⟩:=fin (ag c) W3 hl3;refine⟨_,_,hr,rfl,⟨c,hIx _ _ _ _ hi3 (iA hB hl3) (Kc.putObj hl3 rfl),hl4⟩,fun k o hk hne hko ho=> ?_⟩;rw[World.putObj_heap_other hne];refine hk3.same k o hk ?_ ho;rw[World.putObj_heap_other hne];exact(hba.block k (ck.1 hko).1).trans hko
 rintro e a3 W3 hp
 cases e with
 |normal=>
  obtain⟨hb3,hi3⟩:=hp;have hl3:=(hb3.block l (by rw[World.putObj_size];exact hlta)).trans hl2;obtain⟨hr,hl4⟩:=fin ak W3 hl3;refine⟨_,_,hr,.inl ⟨rfl,⟨hI _ _ _ hi3 (iA hB hl3),hl4⟩,hka.trans ((Kc.of_below hb3).trans (Kc.putObj hl3 rfl)),fun k o hne hko=> ?_⟩⟩;have hk1:=(hba.block k (ck.1 hko).1).trans hko;rw[World.putObj_heap_other hne];refine(hb3.block k ?_).trans ((World.putObj_heap_other hne).trans hk1);rw[World.putObj_size];exact(ck.1 hk1).1
 |ret=>
  obtain⟨v,w',h1,h2⟩:=out .ret W3 hp.1 hp.2;exact⟨v,w',h1,.inr h2⟩
 |exit id=>
  obtain⟨v,w',h1,h2⟩:=out (.exit id) W3 hp.1 hp.2;exact⟨v,w',h1,.inr h2⟩
 |goto t=>
  obtain⟨v,w',h1,h2⟩:=out (.goto t) W3 hp.1 hp.2;exact⟨v,w',h1,.inr h2⟩
 |panic ch=>exact hp.elim
 |outgrown=>exact hp.elim
section
variable {α:Type}{g:Operand}{ps:Array Tmp}{assign body:Code}{Q:Exit->Act->World->Prop}{a:Act}{w:World}
theorem range_outer (hro:F.round=ak)(h1:1<=n){gf:Nat}{lb:Array Value}(hg:a.eval g=.func (.func gf) #[] lb)(hFg:F.fn gf)(eg:∀args w,(callFunc gf args).run P w=.ok (.enter gf args) w)
 {encs:α->Array Value} {At:α->World->Prop} {S Sp:List α->Prop} {N:Nat} (hseq:Gives F (n - 1) P gf lb encs At S Sp N w) (hps:∀x,(encs x).size=ps.size) (hAt:∀x A C,At x A->Kc A C->At x C)
 (I:List α->World->Prop) (Ix:Code->List α->World->Prop) (hI:∀s A C,I s A->Below w.heap.size A C->I s C) (hIx:∀c s A C,Ix c s A->Below w.heap.size A C->Kc A C->Ix c s C) (h0:I [] w)
 (Ax:α->Act->World->Prop) (hAx:∀x a' A C,Ax x a' A->Kc A C->Ax x a' C)
 (hassign:∀(l:Nat) (pre:List α) (x:α) (W:World) (K:Act->World->Prop),I pre W->At x W->(∀a' W',Below W.heap.size W W'->Ax x a' W'->K a' W')->
   assign.wpIn (F.inRound l) (n - 1 - 1) P (Exit.then K (fun _ _ _=>False)) { tmps:=(ps.zip (encs x)).foldl (fun t (p,v)=>t.setIfInBounds p v) a.tmps,defers:=[] } W)
 (hbody:∀(l:Nat) (pre:List α) (x:α) (a':Act) (W:World),w.heap.size<=l->(∃r,W.heap[l]? =ag (.loop r))->I pre W->At x W->Ax x a' W->pre.length<N->body.wpIn (F.inRound l) (n - 1 - 1) P (BodyP w.heap.size I Ix (pre++[x]) W) a' W)
 (hdone:∀(D:Nat) (xs:List α) (W:World),w.heap.size<=D->S xs->I xs W->W.heap[D]? =ag (.deferred (ag []))->Q .normal { a with defers:={ target:=.collected D,args:= #[] }::a.defers } W)
 (hstop:∀(D:Nat) (c:Code) (pre:List α) (W:World),w.heap.size<=D->Sp pre->Ix c pre W->W.heap[D]? =ag (.deferred (ag []))->c.wpIn F n P Q { a with defers:={ target:=.collected D,args:= #[] }::a.defers } W):
 (Code.rangeFunc g ps assign body).wpIn F n P Q a w:=by
 refine wpIn_rangeFunc ?_;intro fn hfn;rw[hro];obtain⟨rec,hrec⟩:∃rec:LoopState->Option Code->Loop,rec=fun st pe=>{ state:=st,pending:=pe,fn,tmps:=a.tmps,params:=ps,assign,body,defers:=w.heap.size }:=⟨_,rfl⟩;obtain⟨W1,hW1⟩:∃W1,(w.alloc (.deferred (ag []))).alloc (.loop (rec .ready ak))=W1:=⟨_,rfl⟩
 have hL1:W1.heap[w.heap.size+1]? =ag (.loop (rec .ready ak)):=by
  rw[←hW1];have:=World.alloc_heap_new (w.alloc (.deferred (ag []))) (.loop (rec .ready ak));rwa [World.size_alloc]at this
 have hK1:W1.heap[w.heap.size]? =ag (.deferred (ag [])):=by
  rw[←hW1];exact(ic _ _ _ (by simp)).trans (World.alloc_heap_new w _)
 have hb1:Below w.heap.size w W1:=by rw[←hW1];exact((ar _ w).alloc (aq _) _).alloc (by simp) _
 have hsz:w.heap.size+1<W1.heap.size:=(ck.1 hL1).1
 refine⟨w.heap.size+1,[{ target:=.collected w.heap.size,args:= #[] }],W1,{ target:=.fn (.func gf) lb,args:= #[.func (.yield (w.heap.size+1)) #[] #[]] },W1,gf,
  #[.func (.yield (w.heap.size+1)) #[] #[]]++lb,W1,?_,?_,?_,?_,fun _=>h1,?_⟩
 ·rw[←hW1,hrec];exact run_enterLoop_outer _ _ _ _ _
 ·simp only[resolve,hg];simp[go_sem]
 ·intro f' hf';simp[Target.leads]at hf';subst hf';exact hFg
 ·simp[invoke,go_sem,eg]
 ·refine(hseq (w.heap.size+1)
   (fun pre W=>I pre W/\W.heap[w.heap.size+1]? =ag (.loop (rec .ready ak))/\W.heap[w.heap.size]? =ag (.deferred (ag [])))
   (fun pre W=>∃c,Ix c pre W/\W.heap[w.heap.size+1]? =ag (.loop (rec .done (ag c)))/\W.heap[w.heap.size]? =ag (.deferred (ag [])))
   W1 hb1
   (fun s A B hs hb=>⟨hI _ _ _ hs.1 (hb.mono (by omega)),(hb.block _ hsz).trans hs.2.1,(hb.block _ (by omega)).trans hs.2.2⟩)
   ?_ ⟨hI _ _ _ h0 hb1,hL1,hK1⟩).mono ?_
  ·rintro pre x W ⟨hi,hl,hk⟩ hat hlen;refine(round_of (B:=w.heap.size) hfn hrec (by omega) hps hAt hI hIx hAx hi hat hl (fun K hK=>hassign _ pre x W K hi hat hK) (fun a' V hr hi' hat' hax=>hbody _ pre x a' V (by omega) hr hi' hat' hax hlen)).mono ?_;rintro e W' (⟨he,⟨hi',hl'⟩,hkc,ho⟩ | ⟨he,⟨c,hc,hl'⟩,ho⟩)
   ·exact .inl ⟨he,⟨hi',hl',ho _ _ (by omega) hk⟩,hkc⟩
   ·exact .inr ⟨he,c,hc,hl',ho _ _ (aq _) (by omega) hk rfl⟩
  ·rintro e W2 ⟨⟨v,rfl⟩,(⟨xs,hS,hi,hl,hk⟩ | ⟨pre,hSp,c,hi,hl,hk⟩)⟩
   ·exact⟨ak,_,by have:=run_endLoop (P:=P) hl (by rw[hrec];simp);rw[hrec]at this;exact this,hdone _ xs _ (aq _) hS (hI _ _ _ hi (iA (by omega) hl)) ((World.putObj_heap_other (by omega)).trans hk)⟩
   ·exact⟨ag c,_,by have:=run_endLoop (P:=P) hl (by rw[hrec];simp);rw[hrec]at this;exact this,hstop _ c pre _ (aq _) hSp (hIx _ _ _ _ hi (iA (by omega) hl) (Kc.putObj hl rfl)) ((World.putObj_heap_other (by omega)).trans hk)⟩
theorem Gives.inRound {gf:Nat}{lb:Array Value}{encs:α->Array Value}{At:α->World->Prop}{S Sp:List α->Prop}{N:Nat}(l:Nat)(h:Gives F n P gf lb encs At S Sp N w):Gives (F.inRound l) n P gf lb encs At S Sp N w:=h
theorem range_inner {l₀:Nat}{r₀:Loop}(hro:F.round=ag l₀)(hl₀:w.heap[l₀]? =ag (.loop r₀))(h1:1<=n){gf:Nat}{lb:Array Value}(hg:a.eval g=.func (.func gf) #[] lb)(hFg:F.fn gf)(eg:∀args w,(callFunc gf args).run P w=.ok (.enter gf args) w)
 {encs:α->Array Value} {At:α->World->Prop} {S Sp:List α->Prop} {N:Nat} (hseq:Gives F (n - 1) P gf lb encs At S Sp N w) (hps:∀x,(encs x).size=ps.size) (hAt:∀x A C,At x A->Kc A C->At x C)
 (I:List α->World->Prop) (Ix:Code->List α->World->Prop) (hI:∀s A C,I s A->Below w.heap.size A C->I s C) (hIx:∀c s A C,Ix c s A->Below w.heap.size A C->Kc A C->Ix c s C) (h0:I [] w)
 (Ax:α->Act->World->Prop) (hAx:∀x a' A C,Ax x a' A->Kc A C->Ax x a' C)
 (hassign:∀(l:Nat) (pre:List α) (x:α) (W:World) (K:Act->World->Prop),I pre W->At x W->(∀a' W',Below W.heap.size W W'->Ax x a' W'->K a' W')->
   assign.wpIn (F.inRound l) (n - 1 - 1) P (Exit.then K (fun _ _ _=>False)) { tmps:=(ps.zip (encs x)).foldl (fun t (p,v)=>t.setIfInBounds p v) a.tmps,defers:=[] } W)
 (hbody:∀(l:Nat) (pre:List α) (x:α) (a':Act) (W:World),w.heap.size<=l->(∃r,W.heap[l]? =ag (.loop r))->I pre W->At x W->Ax x a' W->pre.length<N->body.wpIn (F.inRound l) (n - 1 - 1) P (BodyP w.heap.size I Ix (pre++[x]) W) a' W)
 (hdone:∀(xs:List α) (W:World),S xs->I xs W->Q .normal a W)
 (hstop:∀(c:Code) (pre:List α) (W:World),Sp pre->Ix c pre W->c.wpIn F n P Q a W):
 (Code.rangeFunc g ps assign body).wpIn F n P Q a w:=by
 refine wpIn_rangeFunc ?_;intro fn hfn;rw[hro];obtain⟨rec,hrec⟩:∃rec:LoopState->Option Code->Loop,rec=fun st pe=>{ state:=st,pending:=pe,fn,tmps:=a.tmps,params:=ps,assign,body,defers:=r₀.defers }:=⟨_,rfl⟩;obtain⟨W1,hW1⟩:∃W1,w.alloc (.loop (rec .ready ak))=W1:=⟨_,rfl⟩
 have hL1:W1.heap[w.heap.size]? =ag (.loop (rec .ready ak)):=by rw[←hW1];exact World.alloc_heap_new w _
 have hb1:Below w.heap.size w W1:=by rw[←hW1];exact(ar _ w).alloc (aq _) _
 have hsz:w.heap.size<W1.heap.size:=(ck.1 hL1).1
 refine⟨w.heap.size,[],W1,{ target:=.fn (.func gf) lb,args:= #[.func (.yield w.heap.size) #[] #[]] },W1,gf,
  #[.func (.yield w.heap.size) #[] #[]]++lb,W1,?_,?_,?_,?_,fun _=>h1,?_⟩
 ·rw[←hW1,hrec];exact run_enterLoop_inner hl₀ _ _ _ _ _
 ·simp only[resolve,hg];simp[go_sem]
 ·intro f' hf';simp[Target.leads]at hf';subst hf';exact hFg
 ·simp[invoke,go_sem,eg]
 ·refine(hseq w.heap.size
   (fun pre W=>I pre W/\W.heap[w.heap.size]? =ag (.loop (rec .ready ak)))
   (fun pre W=>∃c,Ix c pre W/\W.heap[w.heap.size]? =ag (.loop (rec .done (ag c))))
   W1 hb1
   (fun s A B hs hb=>⟨hI _ _ _ hs.1 (hb.mono (by omega)),(hb.block _ hsz).trans hs.2⟩)
   ?_ ⟨hI _ _ _ h0 hb1,hL1⟩).mono ?_
  ·rintro pre x W ⟨hi,hl⟩ hat hlen;refine(round_of (B:=w.heap.size) hfn hrec (aq _) hps hAt hI hIx hAx hi hat hl (fun K hK=>hassign _ pre x W K hi hat hK) (fun a' V hr hi' hat' hax=>hbody _ pre x a' V (aq _) hr hi' hat' hax hlen)).mono ?_;rintro e W' (⟨he,⟨hi',hl'⟩,hkc,ho⟩ | ⟨he,⟨c,hc,hl'⟩,ho⟩)
   ·exact .inl ⟨he,⟨hi',hl'⟩,hkc⟩
   ·exact .inr ⟨he,c,hc,hl'⟩
  ·rintro e W2 ⟨⟨v,rfl⟩,(⟨xs,hS,hi,hl⟩ | ⟨pre,hSp,c,hi,hl⟩)⟩
   ·exact⟨ak,_,by have:=run_endLoop (P:=P) hl (by rw[hrec];simp);rw[hrec]at this;exact this,hdone xs _ hS (hI _ _ _ hi (iA (aq _) hl))⟩
   ·exact⟨ag c,_,by have:=run_endLoop (P:=P) hl (by rw[hrec];simp);rw[hrec]at this;exact this,hstop c pre _ hSp (hIx _ _ _ _ hi (iA (aq _) hl) (Kc.putObj hl rfl))⟩
end
end
end Go.Proofs.YtfigjpehecibeaaGreat.Rg
namespace Go.Proofs.YtfigjpehecibeaaGreat.L
open Go.RowKit Bm C
def kF (w:Int)(may:List Bool)(n:Nat):Nat->List Int->List (List Int)
 |0,_=>[]
 |f+1,x=>x::match dZ w may n x with
  |none=>[]
  |some x'=>kF w may n f x'
def iS (L:List Int->List Int->Bool × Int × Int)(x:List Int):List (List Int)->Option (List Int × Int)
 | []=>ak
 |y::r=>if(L x y).1=af then ag (y,(L x y).2.1)else iS L x r
def fF (R:List Int->Option (List Int × Int)):List (List Int)->Option (List Int × List Int × Int)
 | []=>ak
 |x::r=>match R x with
  |some (y,a)=>ag (x,y,a)
  |none=>fF R r
theorem qW (L:List Int->List Int->Bool × Int × Int)(w:Int)(n:Nat)(may:List Bool)(x:List Int):∀(f:Nat) (y:List Int),kJ L w n may x f y=iS L x (kF w may n f y)
 |0,y=>rfl
 |f+1,y=>by
  rw[mS];unfold kF iS
  split
  ·rfl
  ·cases dZ w may n y with
   |none=>rfl
   |some y'=>exact qW L w n may x f y'
theorem sF (L:List Int->List Int->Bool × Int × Int)(w:Int)(n:Nat)(P:List Bool)(G:Nat):∀(f:Nat) (x:List Int),jF L w n P G f x=fF (fun x=>kJ L w n (P.map (! ·)) x G (dU n P x)) (kF w (P.map fun _=>af) n f x)
 |0,x=>rfl
 |f+1,x=>by
  rw[kR];unfold kF fF
  cases kJ L w n (P.map (! ·)) x G (dU n P x)with
  |some p=>rfl
  |none=>
   cases dZ w (P.map fun _=>af) n x with
   |none=>rfl
   |some x'=>exact sF L w n P G f x'
theorem pR {L:List Int->List Int->Bool × Int × Int}{x:List Int}:∀{l:List (List Int)},(∀y∈l,(L x y).1=ac)->iS L x l=ak
 | [],_=>rfl
 |y::r,h=>by
  unfold iS;rw[if_neg (by rw[h y (ig ..)];decide)];exact pR fun z hz=>h z (List.mem_cons_of_mem _ hz)
theorem firstIn_at {L:List Int->List Int->Bool × Int × Int}{x y:List Int}{t:List (List Int)}:∀{l:List (List Int)},(∀z∈l,(L x z).1=ac)->(L x y).1=af->iS L x (l++y::t)=ag (y,(L x y).2.1)
 | [],_,hy=>by
   show iS L x (y::t)= _
   unfold iS;rw[if_pos hy]
 |z::r,h,hy=>by
  show iS L x (z::(r++y::t))= _
  unfold iS;rw[if_neg (by rw[h z (ig ..)];decide)]
  exact firstIn_at (fun u hu=>h u (List.mem_cons_of_mem _ hu)) hy
theorem nF {R:List Int->Option (List Int × Int)}:∀{l:List (List Int)},(∀x∈l,R x=ak)->fF R l=ak
 | [],_=>rfl
 |x::r,h=>by
  unfold fF;rw[h x (ig ..)];exact nF fun z hz=>h z (List.mem_cons_of_mem _ hz)
theorem sI {R:List Int->Option (List Int × Int)}{x y:List Int}{a:Int}{t:List (List Int)}(hx:R x=ag (y,a)):∀{l:List (List Int)},(∀z∈l,R z=ak)->fF R (l++x::t)=ag (x,y,a)
 | [],_=>by
   show fF R (x::t)= _
   unfold fF;rw[hx]
 |z::r,h=>by
  show fF R (z::(r++x::t))= _
  unfold fF;rw[h z (ig ..)];exact sI hx fun u hu=>h u (List.mem_cons_of_mem _ hu)
end Go.Proofs.YtfigjpehecibeaaGreat.L
namespace Go.Proofs.YtfigjpehecibeaaGreat.L
open Go.RowKit Bm C Go.Maps Go.Proofs.YtfigjpehecibeaaGreatW.PrintWords Go.Proofs.YtfigjpehecibeaaGreatW.PrintLast Go.Proofs.YtfigjpehecibeaaGreatW.PrintMore Go.Proofs.YtfigjpehecibeaaGreat.Gr
section
set_option maxRecDepth 100000
theorem rows_calls (wd:Int)(A M:Option Addr)(n c cm:Nat)(W:World):
 Calls au 99 #[.int .i64 wd,.slice A n c,.slice M n cm] W fun e W'=>e=.returned (.func (.func 132) #[] #[.pointer (ag ⟨W.heap.size+1,0,ak⟩),.pointer (ag ⟨W.heap.size+1+1,0,ak⟩),.pointer (ag ⟨W.heap.size,0,ak⟩)])/\W'=((W.alloc (.cells #[.int .i64 wd] 3)).alloc (.cells #[.slice A n c] 36)).alloc (.cells #[.slice M n cm] 30):=by
 have hmf:∀(fn:Fn) (first cap:Array Value) (w:World),(Instr.makeFunc fn first cap).run au w=.ok (.func fn first cap) w:=fun _ _ _ _=>rfl;go_enter Tryz.func99,Tryz.ntmps99;go_wp2_with fail;go_ret;exact⟨rfl,rfl⟩
end
section
set_option maxRecDepth 100000
theorem clone_nil (c:Nat)(W:World):Calls au 89 #[.slice ak 0 c] W fun e W'=>e=.returned (.slice ak 0 0)/\W'=W:=by
 have hnil:=Lib.run_eql_slice_nil (P:=au) W 36 74 ak 0 c 0 0 gM;go_enter Tryz.func89,Tryz.ntmps89;go_wp2_with fail;go_ret;exact⟨rfl,rfl⟩
theorem qR (l:List Int)(A:Option Addr)(c:Nat)(W:World)(h:(Kd.int .u64).C W A l.length l)(hl:l.length<=1073741824):
 Calls au 89 #[.slice A l.length c] W fun e W'=>∃A' c',e=.returned (.slice A' l.length c')/\RowO W' W.heap.size A' c' l/\Below W.heap.size W W':=by
 cases A with
 |some a=>
  refine(clone_calls l a c W h hl).mono ?_;rintro e W' ⟨v,rfl,hr,hb⟩;obtain⟨A',c',rfl⟩:=Kd.bN hr;exact⟨A',c',rfl,RowO.of_R hr,hb⟩
 |none=>
  have hl0:l=[]:=by
   cases l with
   |nil=>rfl
   |cons v l=>
    obtain⟨ad,e,_⟩:=sU h 0 (by simp);cases e
  subst hl0;refine(clone_nil c W).mono ?_;rintro e W' ⟨rfl,rfl⟩;exact⟨ak,0,rfl,RowO.of_R (Kd.iG _ _ _ _ (fun _=>True)),ar _ _⟩
end
end Go.Proofs.YtfigjpehecibeaaGreat.L
namespace Go.Proofs.YtfigjpehecibeaaGreat.L
open Go.RowKit Bm C Rg
theorem kc_step {W W1 W2:World}(h:Kc W W1)(k:Below W.heap.size W1 W2):Kc W W2:=⟨bi h.size k.size,fun i o hi ho=>(k.block i (ck.1 hi).1).trans (h.same i o hi ho)⟩
theorem kc_cell {W W':World}(h:Kc W W'){a:Addr}{v:Value}(q:W.cell? a=ag v):W'.cell? a=ag v:=by
 obtain⟨o,ho,hc⟩:=cells_of_cell q;exact(World.cell?_of_block (by rw[h.same _ _ ho hc,ho])).trans q
theorem o8 {W W':World}(h:Kc W W'){k t:Nat}{cs:Array Value}{fr:Nat × Nat}(q:W.heap[k]? =ag (.cells cs t fr)):W'.heap[k]? =ag (.cells cs t fr):=h.same _ _ q rfl
theorem fA.kc {W W':World}{A:Option Addr}{l:List Bool}(h:fA W A l)(hk:Kc W W'):fA W' A l:=fun k hl=>by
 obtain⟨ad,e,q⟩:=h k hl;exact⟨ad,e,kc_cell hk q⟩
theorem bX.kc {W W':World}{A:Option Addr}{l:List Int}(h:bX W A l)(hk:Kc W W'):bX W' A l:=fun k hl=>by
 obtain⟨ad,e,q⟩:=h k hl;exact⟨ad,e,kc_cell hk q⟩
theorem RowO.same_ {W W':World}{base c:Nat}{A:Option Addr}{l:List Int}(h:RowO W base A c l)(hh:∀b,A=ag ⟨b,0,ak⟩->W'.heap[b]? =W.heap[b]?):RowO W' base A c l:=by
 refine⟨fun b e=>(h.typed b e).imp fun cs k=>(hh b e).trans k,?_,?_⟩
 ·rcases h.row with rfl | ⟨b,rfl,hr⟩
  ·exact⟨rfl,by simp,fun h=>absurd h (Nat.lt_irrefl 0)⟩
  ·exact(hr.keep (hh b rfl)).C.2
 ·rcases h.row with h0 | ⟨b,e,hr⟩
  ·exact bc h0
  ·exact Or.inr ⟨b,e,hr.keep (hh b e)⟩
theorem RowO.kc {W W':World}{base c:Nat}{A:Option Addr}{l:List Int}(h:RowO W base A c l)(hk:Kc W W'):RowO W' base A c l:=h.same_ fun b e=>by
 obtain⟨cs,hc⟩:=h.typed b e;exact(hk.same b _ hc rfl).trans hc.symm
abbrev Hn:=Option Addr × Nat × List Int
def encH (n:Nat)(x:Hn):Array Value:= #[.slice x.1 n x.2.1]
structure AtH (w n:Nat)(P:List Bool)(x0:List Int)(x:Hn)(W:World):Prop where
 len:x.2.2.length=n
 inw:InW w x.2.2
 row:∃base,RowO W base x.1 x.2.1 x.2.2
 same:∀k,P.getD k ac=af->x.2.2.getD k 0=x0.getD k 0
theorem AtH.kc {w n:Nat}{P:List Bool}{x0:List Int}{x:Hn}{W W':World}(h:AtH w n P x0 x W)(k:Kc W W'):AtH w n P x0 x W':=⟨h.len,h.inw,h.row.imp fun _ r=>r.kc k,h.same⟩
theorem RowO.cap {W:World}{base c:Nat}{A:Option Addr}{l:List Int}(h:RowO W base A c l):l.length<=c:=by
 rcases h.row with rfl | ⟨b,_,hr⟩
 ·exact bk _
 ·exact hr.C.1
theorem hid_at {P:List Bool}{k:Nat}(h:k<P.length):(P.map (! ·)).getD k ac= !P.getD k ac:=by
 rw[aw,aw,jb,az h];rfl
theorem hid_fix {P:List Bool}{k:Nat}(h:P.getD k ac=af):(P.map (! ·)).getD k ac=ac:=by
 rw[aw]at h ⊢;rw[jb]
 cases e:P[k]? with
 |none=>rfl
 |some b=>
  rw[e]at h;have:b=af:=h;subst this;rfl
theorem nextS_skip {w:Int}{P:List Bool}{m:Nat}{l:List Int}(h:P.getD m ac=af):dZ w (P.map (! ·)) (m+1) l=dZ w (P.map (! ·)) m l:=by
 conv=>lhs;unfold dZ
 rw[if_neg (by rw[hid_fix h];decide)]
theorem nextS_zero {w:Int}{P:List Bool}{m:Nat}{l:List Int}(hm:m<P.length)(h:P.getD m ac=ac)(h0:incW w (l.getD m 0)=0):dZ w (P.map (! ·)) (m+1) l=dZ w (P.map (! ·)) m (l.set m 0):=by
 conv=>lhs;unfold dZ
 rw[if_pos (by rw[hid_at hm,h];rfl),if_pos h0]
theorem nextS_put {w:Int}{P:List Bool}{m:Nat}{l:List Int}(hm:m<P.length)(h:P.getD m ac=ac)(h0:incW w (l.getD m 0)≠0):dZ w (P.map (! ·)) (m+1) l=ag (l.set m (incW w (l.getD m 0))):=by
 conv=>lhs;unfold dZ
 rw[if_pos (by rw[hid_at hm,h];rfl),if_neg h0]
theorem maxW {w:Nat}(h1:1<=w)(h2:w<=64):qO (w:Int) 18446744073709551615=((2 ^ w - 1:Nat):Int):=by
 unfold qO;have hp:=gE h2;have hB:=df w;rw[show(18446744073709551615:Int).toNat=2 ^ 64 - 1 from by decide,gC rfl h1 h2 (by decide)]
 congr 1
 have e:2 ^ 64=2 ^ w*2 ^ (64 - w):=by rw[←Nat.pow_add];congr 1;omega
 have hB2:=df (64 - w)
 have e2:2 ^ 64 - 1=(2 ^ w - 1)+2 ^ w*(2 ^ (64 - w) - 1):=by
  rw[Nat.mul_sub,←e,ib];omega
 rw[e2,Nat.add_mul_mod_self_left,fp (by omega)]
theorem max_inc {w:Nat}(h1:1<=w)(h2:w<=64){v:Nat}(hv:v<2 ^ w):((v:Int)=qO (w:Int) 18446744073709551615 ↔ incW (w:Int) (v:Int)=0)/\(incW (w:Int) (v:Int)≠0->incW (w:Int) (v:Int)=((v+1:Nat):Int)/\v+1<2 ^ w):=by
 rw[maxW h1 h2,incW_at h1 h2 hv];have hB:=df w
 split
 ·exact⟨⟨fun _=>rfl,fun _=>by omega⟩,fun h=>absurd rfl h⟩
 ·exact⟨⟨fun h=>by omega,fun h=>by omega⟩,fun _=>⟨rfl,by omega⟩⟩
theorem leak_part {nm:ByteArray}{wd ln:Int}{ds:List S70}{bd:List S119}(h:(bC nm wd ln ds bd).e=0){x y:List Int}(hx:x.length=(fI ds ds.length).length)(hy:y.length=(fI ds ds.length).length)(hs:∀k,(fI ds ds.length).getD k ac=af->y.getD k 0=x.getD k 0):oU nm wd ln ds bd x y=partL nm wd ln ds bd x y:=by
 unfold oU;rw[(dE nm wd ln ds bd).1 h];dsimp only;rw[if_pos rfl,if_pos ⟨hx,hy⟩,if_pos (show kS wd _ x y _ from fun i _ hi=>by rw[hs i hi])];rfl
theorem part_none {nm:ByteArray}{wd ln:Int}{ds:List S70}{bd:List S119}{x y:List Int}(h:(difS (cN nm wd ln ds bd x).2.2 (cN nm wd ln ds bd y).2.2).2=ac):(partL nm wd ln ds bd x y).1=ac:=by
 unfold partL iT;rw[if_pos (bc h)]
structure MainR (wd:Int)(w n:Nat)(P:List Bool)(x:List Int)(J:List Hn->World->Prop)(W:World)(A:Option Addr)(c:Nat)(pre:List Hn)(lc:List Int)(f:Nat)(W':World):Prop where
 j:J pre W'
 row:RowO W' W.heap.size A c lc
 len:lc.length=n
 inw:InW w lc
 same:∀k,P.getD k ac=af->lc.getD k 0=x.getD k 0
 rows:pre.map (fun p=>p.2.2)++kF wd (P.map (! ·)) n f lc=kF wd (P.map (! ·)) n (jZ wd n) (dU n P x)
 few:jZ wd n<=f+numS (2 ^ w) (P.map (! ·)) lc n
 cnt:pre.length+f=jZ wd n
 kc:Kc W W'
section
variable {wd:Int}{w n:Nat}{P:List Bool}{x:List Int}{J:List Hn->World->Prop}{W:World}{A:Option Addr}{c:Nat}{pre:List Hn}{lc:List Int}{f:Nat}{W1:World}
theorem MainR.start (hwd:wd=(w:Int))(hx:x.length=n)(hP:P.length=n)(hxi:InW w x){W':World}(hj:J [] W')(hr:RowO W' W.heap.size A c (dU n P x))(hk:Kc W W'):MainR wd w n P x J W A c [] (dU n P x) (jZ wd n) W':=
 ⟨hj,hr,lY n P x,startS_inw hxi,fun k hk=>by
   have hkn:k<n:=by
    rcases gu k n with h | h
    ·exact h
    ·rw[aw,dg (by omega)]at hk;cases hk
   rw[startS_at hkn,if_pos hk],rfl,by omega,by simp,hk⟩
theorem MainR.at_ (h:MainR wd w n P x J W A c pre lc f W1):AtH w n P x (A,c,lc) W1:=⟨h.len,h.inw,⟨_,h.row⟩,h.same⟩
theorem MainR.pos (h:MainR wd w n P x J W A c pre lc f W1)(hwd:wd=(w:Int)):1<=f:=by
 have h1:=mR (may:=P.map (! ·)) h.inw n;have h2:=h.few;unfold jZ at h2;rw[hwd,ax]at h2;omega
theorem MainR.lt (h:MainR wd w n P x J W A c pre lc f W1)(hwd:wd=(w:Int)):pre.length<jZ wd n:=by
 have:=h.pos hwd;have:=h.cnt;omega
theorem MainR.pre_ (h:MainR wd w n P x J W A c pre lc f W1)(hwd:wd=(w:Int)):(pre++[(A,c,lc)]).map (fun p=>p.2.2) <+: kF wd (P.map (! ·)) n (jZ wd n) (dU n P x):=by
 obtain⟨f,rfl⟩:∃f',f=f'+1:=⟨f - 1,by have:=h.pos hwd;omega⟩;rw[←h.rows,ef]
 refine⟨match dZ wd (P.map (! ·)) n lc with
  |none=>[]
  |some x'=>kF wd (P.map (! ·)) n f x',?_⟩
 rw[dr];rfl
theorem MainR.last (h:MainR wd w n P x J W A c pre lc f W1)(hwd:wd=(w:Int))(hn:dZ wd (P.map (! ·)) n lc=ak):(pre++[(A,c,lc)]).map (fun p=>p.2.2)=kF wd (P.map (! ·)) n (jZ wd n) (dU n P x):=by
 obtain⟨f,rfl⟩:∃f',f=f'+1:=⟨f - 1,by have:=h.pos hwd;omega⟩;rw[←h.rows,ef]
 conv=>rhs;unfold kF
 rw[hn];rfl
theorem MainR.next (h:MainR wd w n P x J W A c pre lc f W1)(hwd:wd=(w:Int))(h1:1<=w)(h2:w<=64){l':List Int}(hn:dZ wd (P.map (! ·)) n lc=ag l'){W':World}(hj:J (pre++[(A,c,lc)]) W')(hr:RowO W' W.heap.size A c l')(hk:Kc W W'):MainR wd w n P x J W A c (pre++[(A,c,lc)]) l' (f - 1) W':=by
 obtain⟨f,rfl⟩:∃f',f=f'+1:=⟨f - 1,by have:=h.pos hwd;omega⟩;have hno:=mB h1 h2 h.inw (Nat.le_of_eq h.len.symm) (by rw[←hwd];exact hn);refine⟨hj,hr,hno.len.trans h.len,hno.inw,fun k hk=>(hno.same k (bc (hid_fix hk))).trans (h.same k hk),?_,?_,?_,hk⟩
 ·rw[←h.rows,ef,dr]
  conv=>rhs;unfold kF
  rw[hn];rfl
 ·have:=h.few;have:=hno.num;rw[Nat.add_sub_cancel];omega
 ·have:=h.cnt;rw[ba,Nat.add_sub_cancel];simp only[jn,List.length_nil];omega
theorem MainR.left (h:MainR wd w n P x J W A c pre lc f W1):rdRow W1 A n=lc:=by
 have:=iY h.row.words
 rwa [h.len]at this
end
end Go.Proofs.YtfigjpehecibeaaGreat.L
namespace Go.Proofs.YtfigjpehecibeaaGreat.L
open Go.RowKit Bm C Rg Go.Maps Go.Proofs.YtfigjpehecibeaaGreatW.PrintWords Go.Proofs.YtfigjpehecibeaaGreatW.PrintLast Go.Proofs.YtfigjpehecibeaaGreatW.PrintMore Go.Proofs.YtfigjpehecibeaaGreat.Gr
section
set_option maxRecDepth 100000
theorem iter_gives {wd:Int}{w n:Nat}(hwd:wd=(w:Int))(h1:1<=w)(h2:w<=64)(hn:n<=65536){x:List Int}{P:List Bool}(hx:x.length=n)(hP:P.length=n)(hxi:InW w x){A M:Option Addr}{c cm lk fx wb:Nat}(m:Nat)(W0:World)
 (hlk:W0.heap[lk]? =ag (.cells #[.slice A n c] 36 (0,0))) (hfx:W0.heap[fx]? =ag (.cells #[.slice M n cm] 30 (0,0))) (hwb:W0.heap[wb]? =ag (.cells #[.int .i64 wd] 3 (0,0)))
 (hrow:(Kd.int .u64).C W0 A x.length x) (hop:fA W0 M P):
 Gives Fence.wide m au 132 #[.pointer (ag ⟨lk,0,ak⟩),.pointer (ag ⟨fx,0,ak⟩),.pointer (ag ⟨wb,0,ak⟩)] (encH n) (AtH w n P x) (fun xs=>xs.map (fun p=>p.2.2)=kF wd (P.map (! ·)) n (jZ wd n) (dU n P x)) (fun pre=>pre.map (fun p=>p.2.2) <+: kF wd (P.map (! ·)) n (jZ wd n) (dU n P x)) (jZ wd n) W0:=by
 intro l J Jx W hW hJ hY h0;have z1:W.cell? ⟨lk,0,ak⟩=ag (.slice A n c):=(aA (aB hlk hW) 0).trans rfl;refine callsIn_of_wp Tryz.func132 rfl trivial ?_ rfl;simp only[Tryz.ntmps132,List.size_toArray,jn,List.length_nil,Nat.reduceAdd,Nat.reduceSub,Array.replicate_succ,Array.replicate_zero,List.push_toArray,List.append_toArray,List.nil_append,gp]
 have HCL:=aa (show Calls au 89 #[.slice A n c] W fun e W'=>∃A' c',e=.returned (.slice A' n c')/\RowO W' W.heap.size A' c' x/\Below W.heap.size W W' from by
  have h:=qR x A c W (Kd.aF hrow hW) (by rw[hx];omega);rw[hx]at h
  exact h)
 have HF:=aa (aj (aB hfx hW) (aj (aB hwb hW) (hop.below hW)));have HX:=aa (aj hx (aj hP hxi));have HW:=aa (aj hwd (aj h1 h2));have HJ:=aa hJ;have HY:=aa hY;have H0:=aa h0;clear hrow hfx hwb hop hx hP hxi hwd h1 h2 hJ hY h0 hlk hW;gi_wp2_with fail;refine⟨trivial,(fun h=>by cases h),(callsIn_wide.2 HCL.out).mono ?_⟩;rintro _ w1 ⟨A',c',rfl,hR,hb⟩;have H1:=aa (aj hR hb);clear hR hb z1;gi_wp2_with fail
 gi_loopw [12] (fun i W'=>∃k:Nat,i=.int .i64 k/\k<=n/\Aside0 (RowO W' W.heap.size A' c' (zerK n P x k)/\Below W.heap.size W W')) (fun i _=>n - (intOf i).toNat)
 case atStart=>exact⟨0,rfl,bk _,⟨by rw[zerK_zero P HX.out.1];exact H1.out.1,H1.out.2⟩⟩
 case round=>
  as_aux_lemma=>
   obtain⟨k,rfl,hk,HK⟩:=hrel
   by_cases hlt:k<n
   ·have hi1:(k:Int)<(n:Int):=by omega
    obtain⟨b,hA,hr⟩:∃b,A'=ag ⟨b,0,ak⟩/\Row _ W.heap.size b c' (zerK n P x k):=by
     rcases HK.out.1.row with h | h
     ·exact absurd (l8 n P x k) (by rw[h];simp;omega)
     ·exact h
    subst hA;obtain⟨ad,e1,q0⟩:=HF.out.2.2 k (by rw[HX.out.2.1];exact hlt);cases e1;replace q0:=aE HK.out.2 q0;have hfx:=aB HF.out.1 HK.out.2;have q2:wr.cell? ⟨fx,0,ak⟩=ag (.slice (ag ad) n cm):=(aA hfx 0).trans rfl;obtain⟨q1,f1⟩:=hr.cell (k:=k) (by rw[l8];exact hlt);have HZ:=aa (zerK_step (P:=P) (x:=x) hlt);obtain⟨m2,hm⟩:∃m,m=P.getD k ac:=⟨_,rfl⟩;rw[←hm]at q0 HZ;have HRR:=aa (aj hr (aj (hr.put k 0) hr.lo));clear hm hr hfx
    cases m2 with
    |true=>
     gi_wp2_with fail;refine⟨⟨k+1,by go_num,by omega,⟨?_,HK.out.2⟩⟩,by simp[intOf];omega⟩;rw[HZ.out];exact HK.out.1
    |false=>
     gi_wp2_with fail;refine⟨⟨k+1,by go_num,by omega,⟨?_,HK.out.2.setCell (p:=⟨b,k,ak⟩) HRR.out.2.2 _⟩⟩,by simp[intOf];omega⟩;rw[HZ.out];exact RowO.of HRR.out.2.1
   ·have hkl:n=k:=by omega
    subst hkl
    have hi1:¬(n:Int)<(n:Int):=by omega
    gi_wp2_with fail;have HM0:=aa (MainR.start HW.out.1 HX.out.1 HX.out.2.1 HX.out.2.2 (HJ.out _ _ _ H0.out HK.out.2) (by rw[←zerK_full];exact HK.out.1) (Kc.of_below HK.out.2));clear hk hi1 H0 HCL HK H1
    gi_loopw [] (fun W'=>∃(pre:List Hn) (lc:List Int) (f:Nat),Aside0 (MainR wd w n P x J W A' c' pre lc f W')) (fun W'=>(2 ^ w) ^ n - numS (2 ^ w) (P.map (! ·)) (rdRow W' A' n) n)
    case atStart=>exact⟨[],_,_,⟨HM0.out⟩⟩
    case round=>
     as_aux_lemma=>
      obtain⟨pre,lc,f,HR⟩:=hrel;obtain⟨fn,tmps,assign,body,hy,hR⟩:=HY.out pre (A',c',lc) wr HR.out.j HR.out.at_ (HR.out.lt HW.out.1);unfold encH at hy;dsimp only at hy;have HRR:=aa hR;clear hR HM0;gi_wp2_with fail;refine⟨(fun h=>by cases h),HRR.out.mono ?_⟩;rintro e W1 (⟨rfl,hJ',hk⟩ | ⟨rfl,hJx'⟩)
      ·have HJ1:=aa (aj hJ' (HR.out.kc.trans hk));have HR1:=aa (HR.out.row.kc hk);clear hJ' hk hy HRR HY;gi_wp2_with fail
       gi_loopw [7] (fun v W2=>∃(t:Int) (i:Nat) (l':List Int),v=.int .i64 t/\t=(i:Int) - 1/\i<=n/\Aside0 (l'.length=n/\InW w l'/\RowO W2 W.heap.size A' c' l'/\dZ wd (P.map (! ·)) i l'=dZ wd (P.map (! ·)) n lc/\Below W.heap.size W1 W2)) (fun v _=>(intOf v+1).toNat)
       case atStart=>exact⟨_,n,lc,rfl,rfl,aq _,⟨HR.out.len,HR.out.inw,HR1.out,rfl,ar _ _⟩⟩
       case round=>
        as_aux_lemma=>
         obtain⟨t,i,l',rfl,ht,hin,HB⟩:=hrel;have HKC:=aa (kc_step HJ1.out.2 HB.out.2.2.2.2);have HJ2:=aa (HJ.out _ _ _ HJ1.out.1 HB.out.2.2.2.2)
         cases i with
         |zero=>
          obtain rfl:t= -1:=by omega
          clear ht hin;refine wpIn_wide.2 ?_;go_wp2_with fail;refine aG ?_;intro gg;refine eP (n:=17) (S:=fun w'=>∃g':G _,w'=g'.W) (ds:=[]) #[ac,ac,ac,ac,ac,ac,ac,ac,ac,ac,ac,ac,ac,ac,ac,ac,ac] (by kernel_rfl) rfl rfl ⟨mkG (gg.2.drew),rfl⟩ (fun hHeld=> ?_);obtain⟨gd,hgd⟩:=hHeld;rw[hgd];clear hgd;refine aP (i:=0) (N:=ag 31) (v:= ?_) (a':= ?_) #[af,ac,ac,ac,ac,ac,ac,ac,ac,ac,ac,ac,ac,ac,ac,ac,ac] rfl rfl (by kernel_rfl) (fun _ _ _ h=>h) (bc ⟨by rfl,?_⟩) ?_ ?_;rotate_left
          ·intro w';go_simp;with_reducible rfl
          rotate_left
          ·simp only[ay,ae,ah,ai,aJ,aK];rfl
          refine aP (i:=1) (N:=ag 32) (v:= ?_) (a':= ?_) #[af,af,ac,ac,ac,ac,ac,ac,ac,ac,ac,ac,ac,ac,ac,ac,ac] rfl rfl (by kernel_rfl) (fun _ _ _ h=>h) (bc ⟨by rfl,?_⟩) ?_ ?_;rotate_left
          ·intro w';go_simp;with_reducible rfl
          rotate_left
          ·simp only[ay,ae,ah,ai,aJ,aK];rfl
          refine aP (i:=2) (N:=ag 33) (v:= ?_) (a':= ?_) #[af,af,af,ac,ac,ac,ac,ac,ac,ac,ac,ac,ac,ac,ac,ac,ac] rfl rfl (by kernel_rfl) (fun _ _ _ h=>h) (bc ⟨by rfl,?_⟩) ?_ ?_;rotate_left
          ·intro w';go_simp;with_reducible rfl
          rotate_left
          ·simp only[ay,ae,ah,ai,aJ,aK];rfl
          refine aP (i:=3) (N:=ag 34) (v:=undef) (a':= ?_) #[af,af,af,af,ac,ac,ac,ac,ac,ac,ac,ac,ac,ac,ac,ac,ac] rfl rfl (by kernel_rfl) (fun _ _ _ h=>h) (Or.inr ⟨by rfl,rfl⟩) ?_ ?_;rotate_left
          ·simp only[ay,ae,ah,ai,aJ,aK];rfl
          refine aP (i:=4) (N:=ag 35) (v:=undef) (a':= ?_) #[af,af,af,af,af,ac,ac,ac,ac,ac,ac,ac,ac,ac,ac,ac,ac] rfl rfl (by kernel_rfl) (fun _ _ _ h=>h) (Or.inr ⟨by rfl,rfl⟩) ?_ ?_;rotate_left
          ·simp only[ay,ae,ah,ai,aJ,aK];rfl
          refine aP (i:=5) (N:=ag 36) (v:=undef) (a':= ?_) #[af,af,af,af,af,af,ac,ac,ac,ac,ac,ac,ac,ac,ac,ac,ac] rfl rfl (by kernel_rfl) (fun _ _ _ h=>h) (Or.inr ⟨by rfl,rfl⟩) ?_ ?_;rotate_left
          ·simp only[ay,ae,ah,ai,aJ,aK];rfl
          refine aP (i:=6) (N:=ag 37) (v:=undef) (a':= ?_) #[af,af,af,af,af,af,af,ac,ac,ac,ac,ac,ac,ac,ac,ac,ac] rfl rfl (by kernel_rfl) (fun _ _ _ h=>h) (Or.inr ⟨by rfl,rfl⟩) ?_ ?_;rotate_left
          ·simp only[ay,ae,ah,ai,aJ,aK];rfl
          refine aP (i:=7) (N:=ag 38) (v:=undef) (a':= ?_) #[af,af,af,af,af,af,af,af,ac,ac,ac,ac,ac,ac,ac,ac,ac] rfl rfl (by kernel_rfl) (fun _ _ _ h=>h) (Or.inr ⟨by rfl,rfl⟩) ?_ ?_;rotate_left
          ·simp only[ay,ae,ah,ai,aJ,aK];rfl
          refine aP (i:=8) (N:=ag 39) (v:=undef) (a':= ?_) #[af,af,af,af,af,af,af,af,af,ac,ac,ac,ac,ac,ac,ac,ac] rfl rfl (by kernel_rfl) (fun _ _ _ h=>h) (Or.inr ⟨by rfl,rfl⟩) ?_ ?_;rotate_left
          ·simp only[ay,ae,ah,ai,aJ,aK];rfl
          refine aP (i:=9) (N:=ag 40) (v:=undef) (a':= ?_) #[af,af,af,af,af,af,af,af,af,af,ac,ac,ac,ac,ac,ac,ac] rfl rfl (by kernel_rfl) (fun _ _ _ h=>h) (Or.inr ⟨by rfl,rfl⟩) ?_ ?_;rotate_left
          ·simp only[ay,ae,ah,ai,aJ,aK];rfl
          refine aP (i:=10) (N:=ag 41) (v:=undef) (a':= ?_) #[af,af,af,af,af,af,af,af,af,af,af,ac,ac,ac,ac,ac,ac] rfl rfl (by kernel_rfl) (fun _ _ _ h=>h) (Or.inr ⟨by rfl,rfl⟩) ?_ ?_;rotate_left
          ·simp only[ay,ae,ah,ai,aJ,aK];rfl
          refine aP (i:=11) (N:=ag 42) (v:=undef) (a':= ?_) #[af,af,af,af,af,af,af,af,af,af,af,af,ac,ac,ac,ac,ac] rfl rfl (by kernel_rfl) (fun _ _ _ h=>h) (Or.inr ⟨by rfl,rfl⟩) ?_ ?_;rotate_left
          ·simp only[ay,ae,ah,ai,aJ,aK];rfl
          refine aP (i:=12) (N:=ag 43) (v:=undef) (a':= ?_) #[af,af,af,af,af,af,af,af,af,af,af,af,af,ac,ac,ac,ac] rfl rfl (by kernel_rfl) (fun _ _ _ h=>h) (Or.inr ⟨by rfl,rfl⟩) ?_ ?_;rotate_left
          ·simp only[ay,ae,ah,ai,aJ,aK];rfl
          refine aP (i:=13) (N:=ag 44) (v:=undef) (a':= ?_) #[af,af,af,af,af,af,af,af,af,af,af,af,af,af,ac,ac,ac] rfl rfl (by kernel_rfl) (fun _ _ _ h=>h) (Or.inr ⟨by rfl,rfl⟩) ?_ ?_;rotate_left
          ·simp only[ay,ae,ah,ai,aJ,aK];rfl
          refine aP (i:=14) (N:=ag 45) (v:=undef) (a':= ?_) #[af,af,af,af,af,af,af,af,af,af,af,af,af,af,af,ac,ac] rfl rfl (by kernel_rfl) (fun _ _ _ h=>h) (Or.inr ⟨by rfl,rfl⟩) ?_ ?_;rotate_left
          ·simp only[ay,ae,ah,ai,aJ,aK];rfl
          refine aP (i:=15) (N:=ag 46) (v:=undef) (a':= ?_) #[af,af,af,af,af,af,af,af,af,af,af,af,af,af,af,af,ac] rfl rfl (by kernel_rfl) (fun _ _ _ h=>h) (Or.inr ⟨by rfl,rfl⟩) ?_ ?_;rotate_left
          ·simp only[ay,ae,ah,ai,aJ,aK];rfl
          refine aP (i:=16) (N:=ag 47) (v:= ?_) (a':= ?_) #[af,af,af,af,af,af,af,af,af,af,af,af,af,af,af,af,af] rfl rfl (by kernel_rfl) (fun _ _ _ h=>h) (bc ⟨by rfl,?_⟩) ?_ ?_;rotate_left
          ·intro w';go_simp;with_reducible rfl
          rotate_left
          ·simp only[ay,ae,ah,ai,aJ,aK];rfl
          refine iF (by kernel_rfl) ?_;go_wp2_with fail;gi_wp2_with fail;refine bodyPost_ret (results_none rfl _ _ _) rfl ?_;exact⟨⟨_,rfl⟩,.inl ⟨_,HR.out.last HW.out.1 HB.out.2.2.2.1.symm,HJ.out _ _ _ HJ2.out (gd.below.mono HKC.out.size)⟩⟩
         |succ j=>
          obtain rfl:t=(j:Int):=by omega
          clear ht
          have hj1:(j:Int)<(n:Int):=by omega
          obtain⟨b,hA,hr⟩:∃b,A'=ag ⟨b,0,ak⟩/\Row _ W.heap.size b c' l':=by
           rcases HB.out.2.2.1.row with h | h
           ·exact absurd HB.out.1 (by rw[h];simp;omega)
           ·exact h
          subst hA;have hop:=HF.out.2.2.kc HKC.out;obtain⟨ad,hM,q0⟩:=hop j (by rw[HX.out.2.1];omega);subst hM;obtain⟨v,hv,hvl⟩:=HB.out.2.1 j;obtain⟨q1,f1⟩:=hr.cell (k:=j) (by rw[HB.out.1];omega);rw[hv]at q1;have hfx:=o8 HKC.out HF.out.1;have hwb:=o8 HKC.out HF.out.2.1;obtain⟨m2,hm⟩:∃m,m=P.getD j ac:=⟨_,rfl⟩;rw[←hm]at q0;have p1:∀g:G wr,g.W.cell? ⟨fx,0,ak⟩=ag (.slice (ag ad) n cm):=fun g=>(aA (aB hfx g.below) 0).trans rfl;have p2:∀g:G wr,g.W.cell? (ad.add j)=ag (.bool m2):=fun g=>aE g.below q0;have HQ:=aa (show dZ wd (P.map (! ·)) (j+1) l'=dZ wd (P.map (! ·)) n lc from HB.out.2.2.2.1);have HPJ:=aa (show j<P.length from by rw[HX.out.2.1];omega);have HRR:=aa hr;have HV:=aa (aj hv hvl)
          have hin9:j<=n:=by omega
          cases m2 with
          |true=>
           have HN:=aa (show dZ wd (P.map (! ·)) j l'=dZ wd (P.map (! ·)) n lc from by rw[←HQ.out,nextS_skip hm.symm]);clear hr q0 q1 f1 hv hvl hm hfx hwb hop hin;refine wpIn_wide.2 ?_;go_wp2_with fail;refine aG ?_;intro gg;refine eP (n:=17) (S:=fun w'=>∃g':G _,w'=g'.W) (ds:=[]) #[ac,ac,ac,ac,ac,ac,ac,ac,ac,ac,ac,ac,ac,ac,ac,ac,ac] (by kernel_rfl) rfl rfl ⟨mkG (gg.2.drew),rfl⟩ (fun hHeld=> ?_);obtain⟨gd,hgd⟩:=hHeld;rw[hgd];clear hgd;refine aP (i:=0) (N:=ag 31) (v:= ?_) (a':= ?_) #[af,ac,ac,ac,ac,ac,ac,ac,ac,ac,ac,ac,ac,ac,ac,ac,ac] rfl rfl (by kernel_rfl) (fun _ _ _ h=>h) (bc ⟨by rfl,?_⟩) ?_ ?_;rotate_left
           ·intro w';go_simp;with_reducible rfl
           rotate_left
           ·simp only[ay,ae,ah,ai,aJ,aK];rfl
           refine aP (i:=1) (N:=ag 32) (v:= ?_) (a':= ?_) #[af,af,ac,ac,ac,ac,ac,ac,ac,ac,ac,ac,ac,ac,ac,ac,ac] rfl rfl (by kernel_rfl) (fun _ _ _ h=>h) (bc ⟨by rfl,?_⟩) ?_ ?_;rotate_left
           ·intro w';go_simp;with_reducible rfl
           rotate_left
           ·simp only[ay,ae,ah,ai,aJ,aK];rfl
           refine aP (i:=2) (N:=ag 33) (v:= ?_) (a':= ?_) #[af,af,af,ac,ac,ac,ac,ac,ac,ac,ac,ac,ac,ac,ac,ac,ac] rfl rfl (by kernel_rfl) (fun _ _ _ h=>h) (bc ⟨by rfl,?_⟩) ?_ ?_;rotate_left
           ·intro w';go_simp;with_reducible rfl
           rotate_left
           ·simp only[ay,ae,ah,ai,aJ,aK];rfl
           refine cY (i:=3) (N:=ag 34) (v:= ?_) (a':= ?_) #[af,af,af,af,ac,ac,ac,ac,ac,ac,ac,ac,ac,ac,ac,ac,ac] rfl rfl (by kernel_rfl) (fun _ _ _ h=>h) (bc ⟨by rfl,?_⟩) ⟨gd,rfl⟩ ?_ ?_;rotate_left
           ·rintro w' ⟨g',rfl⟩;go_simp;with_reducible rfl
           rotate_left
           ·simp only[ay,ae,ah,ai,aJ,aK];rfl
           refine aP (i:=4) (N:=ag 35) (v:= ?_) (a':= ?_) #[af,af,af,af,af,ac,ac,ac,ac,ac,ac,ac,ac,ac,ac,ac,ac] rfl rfl (by kernel_rfl) (fun _ _ _ h=>h) (bc ⟨by rfl,?_⟩) ?_ ?_;rotate_left
           ·intro w';go_simp;with_reducible rfl
           rotate_left
           ·simp only[ay,ae,ah,ai,aJ,aK];rfl
           refine aP (i:=5) (N:=ag 36) (v:= ?_) (a':= ?_) #[af,af,af,af,af,af,ac,ac,ac,ac,ac,ac,ac,ac,ac,ac,ac] rfl rfl (by kernel_rfl) (fun _ _ _ h=>h) (bc ⟨by rfl,?_⟩) ?_ ?_;rotate_left
           ·intro w';go_simp;with_reducible rfl
           rotate_left
           ·simp only[ay,ae,ah,ai,aJ,aK];rfl
           refine cY (i:=6) (N:=ag 37) (v:= ?_) (a':= ?_) #[af,af,af,af,af,af,af,ac,ac,ac,ac,ac,ac,ac,ac,ac,ac] rfl rfl (by kernel_rfl) (fun _ _ _ h=>h) (bc ⟨by rfl,?_⟩) ⟨gd,rfl⟩ ?_ ?_;rotate_left
           ·rintro w' ⟨g',rfl⟩;go_simp;with_reducible rfl
           rotate_left
           ·simp only[ay,ae,ah,ai,aJ,aK];rfl
           refine aP (i:=7) (N:=ag 38) (v:= ?_) (a':= ?_) #[af,af,af,af,af,af,af,af,ac,ac,ac,ac,ac,ac,ac,ac,ac] rfl rfl (by kernel_rfl) (fun _ _ _ h=>h) (bc ⟨by rfl,?_⟩) ?_ ?_;rotate_left
           ·intro w';go_simp;with_reducible rfl
           rotate_left
           ·simp only[ay,ae,ah,ai,aJ,aK];rfl
           refine aP (i:=8) (N:=ag 39) (v:=undef) (a':= ?_) #[af,af,af,af,af,af,af,af,af,ac,ac,ac,ac,ac,ac,ac,ac] rfl rfl (by kernel_rfl) (fun _ _ _ h=>h) (Or.inr ⟨by rfl,rfl⟩) ?_ ?_;rotate_left
           ·simp only[ay,ae,ah,ai,aJ,aK];rfl
           refine aP (i:=9) (N:=ag 40) (v:=undef) (a':= ?_) #[af,af,af,af,af,af,af,af,af,af,ac,ac,ac,ac,ac,ac,ac] rfl rfl (by kernel_rfl) (fun _ _ _ h=>h) (Or.inr ⟨by rfl,rfl⟩) ?_ ?_;rotate_left
           ·simp only[ay,ae,ah,ai,aJ,aK];rfl
           refine aP (i:=10) (N:=ag 41) (v:=undef) (a':= ?_) #[af,af,af,af,af,af,af,af,af,af,af,ac,ac,ac,ac,ac,ac] rfl rfl (by kernel_rfl) (fun _ _ _ h=>h) (Or.inr ⟨by rfl,rfl⟩) ?_ ?_;rotate_left
           ·simp only[ay,ae,ah,ai,aJ,aK];rfl
           refine aP (i:=11) (N:=ag 42) (v:=undef) (a':= ?_) #[af,af,af,af,af,af,af,af,af,af,af,af,ac,ac,ac,ac,ac] rfl rfl (by kernel_rfl) (fun _ _ _ h=>h) (Or.inr ⟨by rfl,rfl⟩) ?_ ?_;rotate_left
           ·simp only[ay,ae,ah,ai,aJ,aK];rfl
           refine aP (i:=12) (N:=ag 43) (v:=undef) (a':= ?_) #[af,af,af,af,af,af,af,af,af,af,af,af,af,ac,ac,ac,ac] rfl rfl (by kernel_rfl) (fun _ _ _ h=>h) (Or.inr ⟨by rfl,rfl⟩) ?_ ?_;rotate_left
           ·simp only[ay,ae,ah,ai,aJ,aK];rfl
           refine aP (i:=13) (N:=ag 44) (v:=undef) (a':= ?_) #[af,af,af,af,af,af,af,af,af,af,af,af,af,af,ac,ac,ac] rfl rfl (by kernel_rfl) (fun _ _ _ h=>h) (Or.inr ⟨by rfl,rfl⟩) ?_ ?_;rotate_left
           ·simp only[ay,ae,ah,ai,aJ,aK];rfl
           refine aP (i:=14) (N:=ag 45) (v:=undef) (a':= ?_) #[af,af,af,af,af,af,af,af,af,af,af,af,af,af,af,ac,ac] rfl rfl (by kernel_rfl) (fun _ _ _ h=>h) (Or.inr ⟨by rfl,rfl⟩) ?_ ?_;rotate_left
           ·simp only[ay,ae,ah,ai,aJ,aK];rfl
           refine aP (i:=15) (N:=ag 46) (v:= ?_) (a':= ?_) #[af,af,af,af,af,af,af,af,af,af,af,af,af,af,af,af,ac] rfl rfl (by kernel_rfl) (fun _ _ _ h=>h) (bc ⟨by rfl,?_⟩) ?_ ?_;rotate_left
           ·intro w';go_simp;with_reducible rfl
           rotate_left
           ·simp only[ay,ae,ah,ai,aJ,aK];rfl
           refine aP (i:=16) (N:=ag 47) (v:= ?_) (a':= ?_) #[af,af,af,af,af,af,af,af,af,af,af,af,af,af,af,af,af] rfl rfl (by kernel_rfl) (fun _ _ _ h=>h) (bc ⟨by rfl,?_⟩) ?_ ?_;rotate_left
           ·intro w';go_simp;with_reducible rfl
           rotate_left
           ·simp only[ay,ae,ah,ai,aJ,aK];rfl
           refine iF (by kernel_rfl) ?_;go_wp2_with fail;refine⟨⟨_,j,l',rfl,rfl,hin9,⟨HB.out.1,HB.out.2.1,HB.out.2.2.1.below gd.below,HN.out,HB.out.2.2.2.2.trans (gd.below.mono HKC.out.size)⟩⟩,by simp[intOf]⟩
          |false=>
           have HM:=aa hm
           have hv64:(v:Int)+1<=18446744073709551616:=by
            have:=gE HW.out.2.2;omega
           obtain⟨mx,hmx⟩:∃mx,mx=qO wd 18446744073709551615:=⟨_,rfl⟩;have HT:=aa (fun(W:World)=>trimI (wd:=wd) (v:=18446744073709551615) (by have:=HW.out;omega) (by constructor <;> decide) W);rw[←hmx]at HT
           have HMX:=aa (show((v:Int)=mx ↔ incW wd (l'.getD j 0)=0)/\(incW wd (l'.getD j 0)≠0->incW wd (l'.getD j 0)=((v+1:Nat):Int)/\v+1<2 ^ w) from by
            rw[hmx,hv,HW.out.1]
            exact max_inc HW.out.2.1 HW.out.2.2 hvl)
           have p3:∀g:G wr,g.W.cell? ⟨b,j,ak⟩=ag (.int .u64 v):=fun g=>aE g.below q1;have p4:∀g:G wr,g.W.cell? ⟨wb,0,ak⟩=ag (.int .i64 wd):=fun g=>(aA (aB hwb g.below) 0).trans rfl;have p5:∀g:G wr,g.W.frozen? ⟨b,j,ak⟩=ac:=fun g=>((HRR.out.below g.below).cell (k:=j) (by rw[HB.out.1];omega)).2;have HV64:=aa hv64;clear hr q0 q1 f1 hv hvl hm hfx hwb hop hin hmx hv64
           rcases aL ((v:Int)==mx)with he | he
           ·have HE:=aa (HMX.out.1.1 (beq_iff_eq.1 he));refine wpIn_wide.2 ?_;go_wp2_with fail;refine aG ?_;intro gg;refine eP (n:=17) (S:=fun w'=>∃g':G _,w'=g'.W) (ds:=[]) #[ac,ac,ac,ac,ac,ac,ac,ac,ac,ac,ac,ac,ac,ac,ac,ac,ac] (by kernel_rfl) rfl rfl ⟨mkG (gg.2.drew),rfl⟩ (fun hHeld=> ?_);obtain⟨gd,hgd⟩:=hHeld;rw[hgd];clear hgd;refine aP (i:=0) (N:=ag 31) (v:= ?_) (a':= ?_) #[af,ac,ac,ac,ac,ac,ac,ac,ac,ac,ac,ac,ac,ac,ac,ac,ac] rfl rfl (by kernel_rfl) (fun _ _ _ h=>h) (bc ⟨by rfl,?_⟩) ?_ ?_;rotate_left
            ·intro w';go_simp;with_reducible rfl
            rotate_left
            ·simp only[ay,ae,ah,ai,aJ,aK];rfl
            refine aP (i:=1) (N:=ag 32) (v:= ?_) (a':= ?_) #[af,af,ac,ac,ac,ac,ac,ac,ac,ac,ac,ac,ac,ac,ac,ac,ac] rfl rfl (by kernel_rfl) (fun _ _ _ h=>h) (bc ⟨by rfl,?_⟩) ?_ ?_;rotate_left
            ·intro w';go_simp;with_reducible rfl
            rotate_left
            ·simp only[ay,ae,ah,ai,aJ,aK];rfl
            refine aP (i:=2) (N:=ag 33) (v:= ?_) (a':= ?_) #[af,af,af,ac,ac,ac,ac,ac,ac,ac,ac,ac,ac,ac,ac,ac,ac] rfl rfl (by kernel_rfl) (fun _ _ _ h=>h) (bc ⟨by rfl,?_⟩) ?_ ?_;rotate_left
            ·intro w';go_simp;with_reducible rfl
            rotate_left
            ·simp only[ay,ae,ah,ai,aJ,aK];rfl
            refine cY (i:=3) (N:=ag 34) (v:= ?_) (a':= ?_) #[af,af,af,af,ac,ac,ac,ac,ac,ac,ac,ac,ac,ac,ac,ac,ac] rfl rfl (by kernel_rfl) (fun _ _ _ h=>h) (bc ⟨by rfl,?_⟩) ⟨gd,rfl⟩ ?_ ?_;rotate_left
            ·rintro w' ⟨g',rfl⟩;go_simp;with_reducible rfl
            rotate_left
            ·simp only[ay,ae,ah,ai,aJ,aK];rfl
            refine aP (i:=4) (N:=ag 35) (v:= ?_) (a':= ?_) #[af,af,af,af,af,ac,ac,ac,ac,ac,ac,ac,ac,ac,ac,ac,ac] rfl rfl (by kernel_rfl) (fun _ _ _ h=>h) (bc ⟨by rfl,?_⟩) ?_ ?_;rotate_left
            ·intro w';go_simp;with_reducible rfl
            rotate_left
            ·simp only[ay,ae,ah,ai,aJ,aK];rfl
            refine aP (i:=5) (N:=ag 36) (v:= ?_) (a':= ?_) #[af,af,af,af,af,af,ac,ac,ac,ac,ac,ac,ac,ac,ac,ac,ac] rfl rfl (by kernel_rfl) (fun _ _ _ h=>h) (bc ⟨by rfl,?_⟩) ?_ ?_;rotate_left
            ·intro w';go_simp;with_reducible rfl
            rotate_left
            ·simp only[ay,ae,ah,ai,aJ,aK];rfl
            refine cY (i:=6) (N:=ag 37) (v:= ?_) (a':= ?_) #[af,af,af,af,af,af,af,ac,ac,ac,ac,ac,ac,ac,ac,ac,ac] rfl rfl (by kernel_rfl) (fun _ _ _ h=>h) (bc ⟨by rfl,?_⟩) ⟨gd,rfl⟩ ?_ ?_;rotate_left
            ·rintro w' ⟨g',rfl⟩;go_simp;with_reducible rfl
            rotate_left
            ·simp only[ay,ae,ah,ai,aJ,aK];rfl
            refine aP (i:=7) (N:=ag 38) (v:= ?_) (a':= ?_) #[af,af,af,af,af,af,af,af,ac,ac,ac,ac,ac,ac,ac,ac,ac] rfl rfl (by kernel_rfl) (fun _ _ _ h=>h) (bc ⟨by rfl,?_⟩) ?_ ?_;rotate_left
            ·intro w';go_simp;with_reducible rfl
            rotate_left
            ·simp only[ay,ae,ah,ai,aJ,aK];rfl
            refine aP (i:=8) (N:=ag 39) (v:= ?_) (a':= ?_) #[af,af,af,af,af,af,af,af,af,ac,ac,ac,ac,ac,ac,ac,ac] rfl rfl (by kernel_rfl) (fun _ _ _ h=>h) (bc ⟨by rfl,?_⟩) ?_ ?_;rotate_left
            ·intro w';go_simp;with_reducible rfl
            rotate_left
            ·simp only[ay,ae,ah,ai,aJ,aK];rfl
            refine aP (i:=9) (N:=ag 40) (v:= ?_) (a':= ?_) #[af,af,af,af,af,af,af,af,af,af,ac,ac,ac,ac,ac,ac,ac] rfl rfl (by kernel_rfl) (fun _ _ _ h=>h) (bc ⟨by rfl,?_⟩) ?_ ?_;rotate_left
            ·intro w';go_simp;with_reducible rfl
            rotate_left
            ·simp only[ay,ae,ah,ai,aJ,aK];rfl
            refine aP (i:=10) (N:=ag 41) (v:= ?_) (a':= ?_) #[af,af,af,af,af,af,af,af,af,af,af,ac,ac,ac,ac,ac,ac] rfl rfl (by kernel_rfl) (fun _ _ _ h=>h) (bc ⟨by rfl,?_⟩) ?_ ?_;rotate_left
            ·intro w';go_simp;with_reducible rfl
            rotate_left
            ·simp only[ay,ae,ah,ai,aJ,aK];rfl
            refine cY (i:=11) (N:=ag 42) (v:= ?_) (a':= ?_) #[af,af,af,af,af,af,af,af,af,af,af,af,ac,ac,ac,ac,ac] rfl rfl (by kernel_rfl) (fun _ _ _ h=>h) (bc ⟨by rfl,?_⟩) ⟨gd,rfl⟩ ?_ ?_;rotate_left
            ·rintro w' ⟨g',rfl⟩;go_simp;with_reducible rfl
            rotate_left
            ·simp only[ay,ae,ah,ai,aJ,aK];rfl
            refine cY (i:=12) (N:=ag 43) (v:= ?_) (a':= ?_) #[af,af,af,af,af,af,af,af,af,af,af,af,af,ac,ac,ac,ac] rfl rfl (by kernel_rfl) (fun _ _ _ h=>h) (bc ⟨by rfl,?_⟩) ⟨gd,rfl⟩ ?_ ?_;rotate_left
            ·rintro w' ⟨g',rfl⟩;go_simp;with_reducible rfl
            rotate_left
            ·simp only[ay,ae,ah,ai,aJ,aK];rfl
            refine kH (i:=13) (N:=ag 44) #[af,af,af,af,af,af,af,af,af,af,af,af,af,af,ac,ac,ac] rfl rfl (by kernel_rfl) (by simp) (fun Kr hKr=> ?_);refine iP Tryz.func72 (by kernel_rfl) rfl #[.int .i64 wd,.int .u64 18446744073709551615] (by rfl) rfl rfl (by(try simp only[cd,cg,db]);first | done | rfl) ?_;refine(HT.out gd.W).mono ?_;rintro _ w9 ⟨rfl,hb⟩;refine⟨_,rfl,?_⟩;obtain⟨gd,rfl⟩:∃g':G _,w9=g'.W:=⟨mkG (gd.below.trans (hb.mono gd.below.size)),rfl⟩;clear hb;refine hKr.out _ _ ⟨gd,rfl⟩ (fun _=> ?_);clear hKr Kr;refine cW (a':= ?_) ?_ ?_;rotate_left
            ·show ay _ (ag 44) _ = _
             simp only[ay,ae,ah,ai,aJ,aK];rfl
            refine aP (i:=14) (N:=ag 45) (v:= ?_) (a':= ?_) #[af,af,af,af,af,af,af,af,af,af,af,af,af,af,af,ac,ac] rfl rfl (by kernel_rfl) (fun _ _ _ h=>h) (bc ⟨by rfl,?_⟩) ?_ ?_;rotate_left
            ·intro w';go_simp;with_reducible rfl
            rotate_left
            ·simp only[ay,ae,ah,ai,aJ,aK];rfl
            refine aP (i:=15) (N:=ag 46) (v:= ?_) (a':= ?_) #[af,af,af,af,af,af,af,af,af,af,af,af,af,af,af,af,ac] rfl rfl (by kernel_rfl) (fun _ _ _ h=>h) (bc ⟨by rfl,?_⟩) ?_ ?_;rotate_left
            ·intro w';go_simp;with_reducible rfl
            rotate_left
            ·simp only[ay,ae,ah,ai,aJ,aK];rfl
            refine aP (i:=16) (N:=ag 47) (v:= ?_) (a':= ?_) #[af,af,af,af,af,af,af,af,af,af,af,af,af,af,af,af,af] rfl rfl (by kernel_rfl) (fun _ _ _ h=>h) (bc ⟨by rfl,?_⟩) ?_ ?_;rotate_left
            ·intro w';go_simp;with_reducible rfl
            rotate_left
            ·simp only[ay,ae,ah,ai,aJ,aK];rfl
            refine iF (by kernel_rfl) ?_;go_wp2_with fail;have hb1:Below W.heap.size wr (gd.W.setCell ⟨b,j,ak⟩ (.int .u64 0)):=(gd.below.mono HKC.out.size).setCell (p:=⟨b,j,ak⟩) HRR.out.lo _;refine⟨⟨_,j,l'.set j 0,rfl,rfl,hin9,⟨by rw[List.length_set];exact HB.out.1,HB.out.2.1.set j (v:=0) (df w),RowO.of ((HRR.out.below gd.below).put j 0),by rw[←HQ.out,nextS_zero HPJ.out HM.out.symm HE.out],HB.out.2.2.2.2.trans hb1⟩⟩,by simp[intOf]⟩
           ·have HE:=aa (HMX.out.2 (fun h=>by rw[beq_iff_eq.2 (HMX.out.1.2 h)]at he;exact absurd he (by decide)));refine wpIn_wide.2 ?_;go_wp2_with fail;refine aG ?_;intro gg;refine eP (n:=17) (S:=fun w'=>∃g':G _,w'=g'.W) (ds:=[]) #[ac,ac,ac,ac,ac,ac,ac,ac,ac,ac,ac,ac,ac,ac,ac,ac,ac] (by kernel_rfl) rfl rfl ⟨mkG (gg.2.drew),rfl⟩ (fun hHeld=> ?_);obtain⟨gd,hgd⟩:=hHeld;rw[hgd];clear hgd;refine aP (i:=0) (N:=ag 31) (v:= ?_) (a':= ?_) #[af,ac,ac,ac,ac,ac,ac,ac,ac,ac,ac,ac,ac,ac,ac,ac,ac] rfl rfl (by kernel_rfl) (fun _ _ _ h=>h) (bc ⟨by rfl,?_⟩) ?_ ?_;rotate_left
            ·intro w';go_simp;with_reducible rfl
            rotate_left
            ·simp only[ay,ae,ah,ai,aJ,aK];rfl
            refine aP (i:=1) (N:=ag 32) (v:= ?_) (a':= ?_) #[af,af,ac,ac,ac,ac,ac,ac,ac,ac,ac,ac,ac,ac,ac,ac,ac] rfl rfl (by kernel_rfl) (fun _ _ _ h=>h) (bc ⟨by rfl,?_⟩) ?_ ?_;rotate_left
            ·intro w';go_simp;with_reducible rfl
            rotate_left
            ·simp only[ay,ae,ah,ai,aJ,aK];rfl
            refine aP (i:=2) (N:=ag 33) (v:= ?_) (a':= ?_) #[af,af,af,ac,ac,ac,ac,ac,ac,ac,ac,ac,ac,ac,ac,ac,ac] rfl rfl (by kernel_rfl) (fun _ _ _ h=>h) (bc ⟨by rfl,?_⟩) ?_ ?_;rotate_left
            ·intro w';go_simp;with_reducible rfl
            rotate_left
            ·simp only[ay,ae,ah,ai,aJ,aK];rfl
            refine cY (i:=3) (N:=ag 34) (v:= ?_) (a':= ?_) #[af,af,af,af,ac,ac,ac,ac,ac,ac,ac,ac,ac,ac,ac,ac,ac] rfl rfl (by kernel_rfl) (fun _ _ _ h=>h) (bc ⟨by rfl,?_⟩) ⟨gd,rfl⟩ ?_ ?_;rotate_left
            ·rintro w' ⟨g',rfl⟩;go_simp;with_reducible rfl
            rotate_left
            ·simp only[ay,ae,ah,ai,aJ,aK];rfl
            refine aP (i:=4) (N:=ag 35) (v:= ?_) (a':= ?_) #[af,af,af,af,af,ac,ac,ac,ac,ac,ac,ac,ac,ac,ac,ac,ac] rfl rfl (by kernel_rfl) (fun _ _ _ h=>h) (bc ⟨by rfl,?_⟩) ?_ ?_;rotate_left
            ·intro w';go_simp;with_reducible rfl
            rotate_left
            ·simp only[ay,ae,ah,ai,aJ,aK];rfl
            refine aP (i:=5) (N:=ag 36) (v:= ?_) (a':= ?_) #[af,af,af,af,af,af,ac,ac,ac,ac,ac,ac,ac,ac,ac,ac,ac] rfl rfl (by kernel_rfl) (fun _ _ _ h=>h) (bc ⟨by rfl,?_⟩) ?_ ?_;rotate_left
            ·intro w';go_simp;with_reducible rfl
            rotate_left
            ·simp only[ay,ae,ah,ai,aJ,aK];rfl
            refine cY (i:=6) (N:=ag 37) (v:= ?_) (a':= ?_) #[af,af,af,af,af,af,af,ac,ac,ac,ac,ac,ac,ac,ac,ac,ac] rfl rfl (by kernel_rfl) (fun _ _ _ h=>h) (bc ⟨by rfl,?_⟩) ⟨gd,rfl⟩ ?_ ?_;rotate_left
            ·rintro w' ⟨g',rfl⟩;go_simp;with_reducible rfl
            rotate_left
            ·simp only[ay,ae,ah,ai,aJ,aK];rfl
            refine aP (i:=7) (N:=ag 38) (v:= ?_) (a':= ?_) #[af,af,af,af,af,af,af,af,ac,ac,ac,ac,ac,ac,ac,ac,ac] rfl rfl (by kernel_rfl) (fun _ _ _ h=>h) (bc ⟨by rfl,?_⟩) ?_ ?_;rotate_left
            ·intro w';go_simp;with_reducible rfl
            rotate_left
            ·simp only[ay,ae,ah,ai,aJ,aK];rfl
            refine aP (i:=8) (N:=ag 39) (v:= ?_) (a':= ?_) #[af,af,af,af,af,af,af,af,af,ac,ac,ac,ac,ac,ac,ac,ac] rfl rfl (by kernel_rfl) (fun _ _ _ h=>h) (bc ⟨by rfl,?_⟩) ?_ ?_;rotate_left
            ·intro w';go_simp;with_reducible rfl
            rotate_left
            ·simp only[ay,ae,ah,ai,aJ,aK];rfl
            refine aP (i:=9) (N:=ag 40) (v:= ?_) (a':= ?_) #[af,af,af,af,af,af,af,af,af,af,ac,ac,ac,ac,ac,ac,ac] rfl rfl (by kernel_rfl) (fun _ _ _ h=>h) (bc ⟨by rfl,?_⟩) ?_ ?_;rotate_left
            ·intro w';go_simp;with_reducible rfl
            rotate_left
            ·simp only[ay,ae,ah,ai,aJ,aK];rfl
            refine aP (i:=10) (N:=ag 41) (v:= ?_) (a':= ?_) #[af,af,af,af,af,af,af,af,af,af,af,ac,ac,ac,ac,ac,ac] rfl rfl (by kernel_rfl) (fun _ _ _ h=>h) (bc ⟨by rfl,?_⟩) ?_ ?_;rotate_left
            ·intro w';go_simp;with_reducible rfl
            rotate_left
            ·simp only[ay,ae,ah,ai,aJ,aK];rfl
            refine cY (i:=11) (N:=ag 42) (v:= ?_) (a':= ?_) #[af,af,af,af,af,af,af,af,af,af,af,af,ac,ac,ac,ac,ac] rfl rfl (by kernel_rfl) (fun _ _ _ h=>h) (bc ⟨by rfl,?_⟩) ⟨gd,rfl⟩ ?_ ?_;rotate_left
            ·rintro w' ⟨g',rfl⟩;go_simp;with_reducible rfl
            rotate_left
            ·simp only[ay,ae,ah,ai,aJ,aK];rfl
            refine cY (i:=12) (N:=ag 43) (v:= ?_) (a':= ?_) #[af,af,af,af,af,af,af,af,af,af,af,af,af,ac,ac,ac,ac] rfl rfl (by kernel_rfl) (fun _ _ _ h=>h) (bc ⟨by rfl,?_⟩) ⟨gd,rfl⟩ ?_ ?_;rotate_left
            ·rintro w' ⟨g',rfl⟩;go_simp;with_reducible rfl
            rotate_left
            ·simp only[ay,ae,ah,ai,aJ,aK];rfl
            refine kH (i:=13) (N:=ag 44) #[af,af,af,af,af,af,af,af,af,af,af,af,af,af,ac,ac,ac] rfl rfl (by kernel_rfl) (by simp) (fun Kr hKr=> ?_);refine iP Tryz.func72 (by kernel_rfl) rfl #[.int .i64 wd,.int .u64 18446744073709551615] (by rfl) rfl rfl (by(try simp only[cd,cg,db]);first | done | rfl) ?_;refine(HT.out gd.W).mono ?_;rintro _ w9 ⟨rfl,hb⟩;refine⟨_,rfl,?_⟩;obtain⟨gd,rfl⟩:∃g':G _,w9=g'.W:=⟨mkG (gd.below.trans (hb.mono gd.below.size)),rfl⟩;clear hb;refine hKr.out _ _ ⟨gd,rfl⟩ (fun _=> ?_);clear hKr Kr;refine cW (a':= ?_) ?_ ?_;rotate_left
            ·show ay _ (ag 44) _ = _
             simp only[ay,ae,ah,ai,aJ,aK];rfl
            refine aP (i:=14) (N:=ag 45) (v:= ?_) (a':= ?_) #[af,af,af,af,af,af,af,af,af,af,af,af,af,af,af,ac,ac] rfl rfl (by kernel_rfl) (fun _ _ _ h=>h) (bc ⟨by rfl,?_⟩) ?_ ?_;rotate_left
            ·intro w';go_simp;with_reducible rfl
            rotate_left
            ·simp only[ay,ae,ah,ai,aJ,aK];rfl
            refine aP (i:=15) (N:=ag 46) (v:= ?_) (a':= ?_) #[af,af,af,af,af,af,af,af,af,af,af,af,af,af,af,af,ac] rfl rfl (by kernel_rfl) (fun _ _ _ h=>h) (bc ⟨by rfl,?_⟩) ?_ ?_;rotate_left
            ·intro w';go_simp;with_reducible rfl
            rotate_left
            ·simp only[ay,ae,ah,ai,aJ,aK];rfl
            refine aP (i:=16) (N:=ag 47) (v:= ?_) (a':= ?_) #[af,af,af,af,af,af,af,af,af,af,af,af,af,af,af,af,af] rfl rfl (by kernel_rfl) (fun _ _ _ h=>h) (bc ⟨by rfl,?_⟩) ?_ ?_;rotate_left
            ·intro w';go_simp;with_reducible rfl
            rotate_left
            ·simp only[ay,ae,ah,ai,aJ,aK];rfl
            refine iF (by kernel_rfl) ?_;go_wp2_with fail;gi_wp2_with fail
            have hne:incW wd (l'.getD j 0)≠0:=fun h=>by rw[beq_iff_eq.2 (HMX.out.1.2 h)]at he;exact absurd he (by decide)
            have ev:IntKind.u64.wrap ((v:Int)+1)=incW wd (l'.getD j 0):=by
             rw[HE.out.1,qN];have:=gE HW.out.2.2;have:=HE.out.2;omega
            rw[ev];have hb1:Below W.heap.size wr (gd.W.setCell ⟨b,j,ak⟩ (.int .u64 (incW wd (l'.getD j 0)))):=(gd.below.mono HKC.out.size).setCell (p:=⟨b,j,ak⟩) HRR.out.lo _
            have hn:dZ wd (P.map (! ·)) n lc=ag (l'.set j (incW wd (l'.getD j 0))):=by rw[←HQ.out,nextS_put HPJ.out HM.out.symm hne]
            have MR:=HR.out.next HW.out.1 HW.out.2.1 HW.out.2.2 hn (HJ.out _ _ _ HJ2.out hb1) (RowO.of ((HRR.out.below gd.below).put j _)) (kc_step HKC.out hb1);refine⟨⟨_,_,_,⟨MR⟩⟩,?_⟩;rw[MR.left,HR.out.left];have hw:=HW.out.1;subst hw;have h1:=(mB HW.out.2.1 HW.out.2.2 HR.out.inw (Nat.le_of_eq HR.out.len.symm) hn).num;have h2:=mR (may:=P.map (! ·)) MR.inw n;omega
      ·clear hy HRR;gi_wp2_with fail;refine bodyPost_ret (results_none rfl _ _ _) rfl ?_;exact⟨⟨_,rfl⟩,.inr ⟨_,HR.out.pre_ HW.out.1,hJx'⟩⟩
end
structure Res (b:Nat)(W:World)(v4 v5 v6 v7 v8:Value):Prop where
 b4:Boxed W (b+1) 4 v4
 b5:Boxed W (b+1+1) 36 v5
 b6:Boxed W (b+1+1+1) 36 v6
 b7:Boxed W (b+1+1+1+1) 3 v7
 b8:Boxed W (b+1+1+1+1+1) 26 v8
section
variable {b:Nat}{W W':World}{v4 v5 v6 v7 v8:Value}
theorem Res.kc (h:Res b W v4 v5 v6 v7 v8)(k:Kc W W'):Res b W' v4 v5 v6 v7 v8:=⟨o8 k h.b4,o8 k h.b5,o8 k h.b6,o8 k h.b7,o8 k h.b8⟩
theorem Res.below (h:Res b W v4 v5 v6 v7 v8)(k:Below W.heap.size W W'):Res b W' v4 v5 v6 v7 v8:=h.kc (Kc.of_below k)
def put5 (b:Nat)(W:World)(u4 u5 u6 u7 u8:Value):World:=((((W.setCell ⟨b+1,0,ak⟩ u4).setCell ⟨b+1+1,0,ak⟩ u5).setCell ⟨b+1+1+1,0,ak⟩ u6).setCell ⟨b+1+1+1+1,0,ak⟩ u7).setCell ⟨b+1+1+1+1+1,0,ak⟩ u8
theorem Res.put (h:Res b W v4 v5 v6 v7 v8)(u4 u5 u6 u7 u8:Value):Res b (put5 b W u4 u5 u6 u7 u8) u4 u5 u6 u7 u8:=
 ⟨((((h.b4.set u4).other (by omega) _).other (by omega) _).other (by omega) _).other (by omega) _,
  ((((h.b5.other (by omega) _).set u5).other (by omega) _).other (by omega) _).other (by omega) _,
  ((((h.b6.other (by omega) _).other (by omega) _).set u6).other (by omega) _).other (by omega) _,
  ((((h.b7.other (by omega) _).other (by omega) _).other (by omega) _).set u7).other (by omega) _,
  ((((h.b8.other (by omega) _).other (by omega) _).other (by omega) _).other (by omega) _).set u8⟩
theorem iO {B:Nat}(hB:B<=b+1)(W:World)(u4 u5 u6 u7 u8:Value):Below B W (put5 b W u4 u5 u6 u7 u8):=
 (((((ar B W).setCell (p:=⟨b+1,0,ak⟩) hB _).setCell (p:=⟨b+1+1,0,ak⟩) (by dsimp only;omega) _).setCell (p:=⟨b+1+1+1,0,ak⟩) (by dsimp only;omega) _).setCell (p:=⟨b+1+1+1+1,0,ak⟩) (by dsimp only;omega) _).setCell (p:=⟨b+1+1+1+1+1,0,ak⟩) (by dsimp only;omega) _
theorem oP (B:Nat)(W:World)(u4 u5 u6 u7 u8:Value):KeepsFrom B W (put5 b W u4 u5 u6 u7 u8):=
 (((((KeepsOthers.setCell W _ _).trans (KeepsOthers.setCell _ _ _)).trans (KeepsOthers.setCell _ _ _)).trans (KeepsOthers.setCell _ _ _)).trans (KeepsOthers.setCell _ _ _)).from B
theorem put5_else (h:Res b W v4 v5 v6 v7 v8){g:Nat}{cs:Array Value}(hg:W.heap[g]? =ag (.cells cs 74 (0,0)))(u4 u5 u6 u7 u8:Value):(put5 b W u4 u5 u6 u7 u8).heap[g]? =W.heap[g]? :=by
 have n4:=pL hg h.b4 (by decide);have n5:=pL hg h.b5 (by decide);have n6:=pL hg h.b6 (by decide);have n7:=pL hg h.b7 (by decide);have n8:=pL hg h.b8 (by decide);unfold put5;rw[dn _ _ _ g n8,dn _ _ _ g n7,dn _ _ _ g n6,dn _ _ _ g n5,dn _ _ _ g n4]
theorem RowO.put5 {base c:Nat}{A:Option Addr}{l:List Int}(h:RowO W base A c l)(hr:Res b W v4 v5 v6 v7 v8)(u4 u5 u6 u7 u8:Value):RowO (put5 b W u4 u5 u6 u7 u8) base A c l:=
 h.same_ fun g e=>by
  obtain⟨cs,hc⟩:=h.typed g e;exact put5_else hr hc _ _ _ _ _
theorem RowO.out {base c:Nat}{A:Option Addr}{l:List Int}(h:RowO W base A c l):Out W (.slice A l.length c) l:=⟨A,c,rfl,h.words⟩
theorem Out.kc {v:Value}{l:List Int}(h:Out W v l)(k:Kc W W'):Out W' v l:=by
 obtain⟨A,c,e,hw⟩:=h;exact⟨A,c,e,hw.kc k⟩
end
theorem getD_q (tmps:Array Value)(i:Nat):tmps.getD i undef=tmps[i]?.getD undef:=by simp[Array.getD_eq_getD_getElem?]
theorem nN {fn:Func}(h:fn.results= #[.cell 4 4,.cell 5 36,.cell 6 36,.cell 7 3,.cell 8 26]){tmps:Array Value}{w:World}{b:Nat}{v4 v5 v6 v7 v8:Value}(h4:tmps.getD 4 undef=.pointer (ag ⟨b+1,0,ak⟩))(h5:tmps.getD 5 undef=.pointer (ag ⟨b+1+1,0,ak⟩))(h6:tmps.getD 6 undef=.pointer (ag ⟨b+1+1+1,0,ak⟩))(h7:tmps.getD 7 undef=.pointer (ag ⟨b+1+1+1+1,0,ak⟩))(h8:tmps.getD 8 undef=.pointer (ag ⟨b+1+1+1+1+1,0,ak⟩))(hr:Res b w v4 v5 v6 v7 v8):
 (results fn tmps).run au w=.ok (.tuple #[v4,v5,v6,v7,v8]) w:=by
 have c4:=hr.b4.cell;have c5:=hr.b5.cell;have c6:=hr.b6.cell;have c7:=hr.b7.cell;have c8:=hr.b8.cell;simp only[getD_q]at h4 h5 h6 h7 h8;simp[results,h,go_sem,h4,h5,h6,h7,h8,c4,c5,c6,c7,c8]
def made6 (W:World)(cs:Array Value):World:=(((((W.alloc (.cells cs 25)).alloc (.cells #[.bool ac] 4)).alloc (.cells #[.slice ak 0 0] 36)).alloc (.cells #[.slice ak 0 0] 36)).alloc (.cells #[.int .i64 0] 3)).alloc (.cells #[.int .i64 0] 26)
theorem made6_below (W:World)(cs:Array Value):Below W.heap.size W (made6 W cs):=
 ((((((ar _ _).alloc (aq _) _).alloc (by simp) _).alloc (by simp <;> omega) _).alloc (by simp <;> omega) _).alloc (by simp <;> omega) _).alloc (by simp <;> omega) _
theorem made6_prog (W:World)(cs:Array Value):(made6 W cs).heap[W.heap.size]? =ag (.cells cs 25 (0,0)):=by
 have h0:(W.alloc (.cells cs 25)).heap[W.heap.size]? =ag (.cells cs 25 (0,0)):=aW _ _;have h:Below (W.alloc (.cells cs 25)).heap.size (W.alloc (.cells cs 25)) (made6 W cs):=(((((ar _ _).alloc (aq _) _).alloc (by simp) _).alloc (by simp <;> omega) _).alloc (by simp <;> omega) _).alloc (by simp <;> omega) _;exact aB h0 h
theorem made6_res (W:World)(cs:Array Value):Res W.heap.size (made6 W cs) (.bool ac) (.slice ak 0 0) (.slice ak 0 0) (.int .i64 0) (.int .i64 0):=by
 refine⟨?_,?_,?_,?_,?_⟩
 ·have h:=((((Boxed.new (W.alloc (.cells cs 25)) 4 (.bool ac)).alloc (.cells #[.slice ak 0 0] 36)).alloc (.cells #[.slice ak 0 0] 36)).alloc (.cells #[.int .i64 0] 3)).alloc (.cells #[.int .i64 0] 26);simp only[World.size_alloc]at h;exact h
 ·have h:=(((Boxed.new ((W.alloc (.cells cs 25)).alloc (.cells #[.bool ac] 4)) 36 (.slice ak 0 0)).alloc (.cells #[.slice ak 0 0] 36)).alloc (.cells #[.int .i64 0] 3)).alloc (.cells #[.int .i64 0] 26);simp only[World.size_alloc]at h;exact h
 ·have h:=((Boxed.new (((W.alloc (.cells cs 25)).alloc (.cells #[.bool ac] 4)).alloc (.cells #[.slice ak 0 0] 36)) 36 (.slice ak 0 0)).alloc (.cells #[.int .i64 0] 3)).alloc (.cells #[.int .i64 0] 26);simp only[World.size_alloc]at h;exact h
 ·have h:=(Boxed.new ((((W.alloc (.cells cs 25)).alloc (.cells #[.bool ac] 4)).alloc (.cells #[.slice ak 0 0] 36)).alloc (.cells #[.slice ak 0 0] 36)) 3 (.int .i64 0)).alloc (.cells #[.int .i64 0] 26);simp only[World.size_alloc]at h;exact h
 ·have h:=Boxed.new (((((W.alloc (.cells cs 25)).alloc (.cells #[.bool ac] 4)).alloc (.cells #[.slice ak 0 0] 36)).alloc (.cells #[.slice ak 0 0] 36)).alloc (.cells #[.int .i64 0] 3)) 26 (.int .i64 0);simp only[World.size_alloc]at h;exact h
theorem rows_facts {wd:Int}{A M:Option Addr}{n c cm:Nat}{W W':World}(h:W'=((W.alloc (.cells #[.int .i64 wd] 3)).alloc (.cells #[.slice A n c] 36)).alloc (.cells #[.slice M n cm] 30)):
 Below W.heap.size W W'/\W'.heap[W.heap.size+1]? =ag (.cells #[.slice A n c] 36 (0,0))/\W'.heap[W.heap.size+1+1]? =ag (.cells #[.slice M n cm] 30 (0,0))/\W'.heap[W.heap.size]? =ag (.cells #[.int .i64 wd] 3 (0,0)):=by
 subst h;refine⟨(((ar _ _).alloc (aq _) _).alloc (by simp) _).alloc (by simp;omega) _,?_,?_,?_⟩
 ·have h:=(Boxed.new (W.alloc (.cells #[.int .i64 wd] 3)) 36 (.slice A n c)).alloc (.cells #[.slice M n cm] 30);simp only[World.size_alloc]at h;exact h
 ·have h:=Boxed.new ((W.alloc (.cells #[.int .i64 wd] 3)).alloc (.cells #[.slice A n c] 36)) 30 (.slice M n cm);simp only[World.size_alloc]at h;exact h
 ·exact((Boxed.new W 3 (.int .i64 wd)).alloc (.cells #[.slice A n c] 36)).alloc (.cells #[.slice M n cm] 30)
def R40 (W:World)(r:S5):Ending->World->Prop:=fun e W'=>∃vu vv,e=.returned (.tuple #[.bool r.is,vu,vv,.int .i64 r.a,.int .i64 r.e])/\Out W' vu r.x/\Out W' vv r.y/\Below W.heap.size W W'
section
variable {b n:Nat}{W W':World}{r:S5}{vu vv:Value}{tmps:Array Value}
theorem out40 (h4:tmps.getD 4 undef=.pointer (ag ⟨b+1,0,ak⟩))(h5:tmps.getD 5 undef=.pointer (ag ⟨b+1+1,0,ak⟩))(h6:tmps.getD 6 undef=.pointer (ag ⟨b+1+1+1,0,ak⟩))(h7:tmps.getD 7 undef=.pointer (ag ⟨b+1+1+1+1,0,ak⟩))(h8:tmps.getD 8 undef=.pointer (ag ⟨b+1+1+1+1+1,0,ak⟩))(hr:Res b W' (.bool r.is) vu vv (.int .i64 r.a) (.int .i64 r.e))(hu:Out W' vu r.x)(hv:Out W' vv r.y)(hb:Below W.heap.size W W'):
 bodyPostM Fence.wide n au Tryz.f40 (R40 W r) .ret { tmps,defers:=[] } W':=
 ⟨_,nN rfl h4 h5 h6 h7 h8 hr,vu,vv,rfl,hu,hv,hb⟩
theorem out40D {D:Nat}(hD:W.heap.size<=D)(hK:W'.heap[D]? =ag (.deferred (ag [])))(h4:tmps.getD 4 undef=.pointer (ag ⟨b+1,0,ak⟩))(h5:tmps.getD 5 undef=.pointer (ag ⟨b+1+1,0,ak⟩))(h6:tmps.getD 6 undef=.pointer (ag ⟨b+1+1+1,0,ak⟩))(h7:tmps.getD 7 undef=.pointer (ag ⟨b+1+1+1+1,0,ak⟩))(h8:tmps.getD 8 undef=.pointer (ag ⟨b+1+1+1+1+1,0,ak⟩))(hr:Res b W' (.bool r.is) vu vv (.int .i64 r.a) (.int .i64 r.e))(hu:Out W' vu r.x)(hv:Out W' vv r.y)(hb:Below W.heap.size W W'):
 bodyPostM Fence.wide n au Tryz.f40 (R40 W r) .ret { tmps,defers:=[{ target:=.collected D,args:= #[] }] } W':=by
 refine⟨by simp,.inl ⟨_,_,rfl,run_takeDeferred hK,?_⟩⟩;have k:Kc W' (W'.putObj D (.deferred ak)):=Kc.putObj hK rfl;exact⟨_,nN rfl h4 h5 h6 h7 h8 (hr.kc k),vu,vv,rfl,hu.kc k,hv.kc k,hb.trans (iA hD hK)⟩
end
structure I40 (w0:World)(R:List Int->Option (List Int × Int))(pre:List Hn)(W':World):Prop where
 below:Below w0.heap.size w0 W'
 none_:∀x∈pre,R x.2.2=ak
theorem I40.kept {w0 A C:World}{R:List Int->Option (List Int × Int)}{pre:List Hn}(h:I40 w0 R pre A)(k:Below w0.heap.size A C):I40 w0 R pre C:=⟨h.below.trans k,h.none_⟩
structure X40 (W:World)(b:Nat)(R:List Int->Option (List Int × Int))(c:Code)(pre:List Hn)(W':World):Prop where
 ret:c=.ret
 below:Below W.heap.size W W'
 ex:∃(iE:List Hn) (x:Hn) (y:List Int) (a:Int) (vu vv:Value),pre=iE++[x]/\(∀z∈iE,R z.2.2=ak)/\R x.2.2=ag (y,a)/\Res b W' (.bool af) vu vv (.int .i64 a) (.int .i64 0)/\Out W' vu x.2.2/\Out W' vv y
theorem X40.kept {W A C:World}{b B:Nat}{R:List Int->Option (List Int × Int)}{c:Code}{pre:List Hn}(h:X40 W b R c pre A)(hB:W.heap.size<=B)(k:Below B A C)(k2:Kc A C):X40 W b R c pre C:=by
 obtain⟨h1,h2,iE,x,y,a,vu,vv,e,hn,hx,hr,hu,hv⟩:=h;exact⟨h1,h2.trans (k.mono hB),iE,x,y,a,vu,vv,e,hn,hx,hr.kc k2,hu.kc k2,hv.kc k2⟩
structure I41 (wi:World)(L:List Int->List Int->Bool × Int × Int)(x:List Int)(pre:List Hn)(W':World):Prop where
 below:Below wi.heap.size wi W'
 none_:∀y∈pre,(L x y.2.2).1=ac
theorem I41.kept {wi A C:World}{L:List Int->List Int->Bool × Int × Int}{x:List Int}{pre:List Hn}(h:I41 wi L x pre A)(k:Below wi.heap.size A C):I41 wi L x pre C:=⟨h.below.trans k,h.none_⟩
structure X41 (W:World)(b B0:Nat)(Wb:World)(L:List Int->List Int->Bool × Int × Int)(x:List Int)(c:Code)(pre:List Hn)(W':World):Prop where
 ret:c=.ret
 below:Below W.heap.size W W'
 keeps:KeepsFrom B0 Wb W'
 ex:∃(iE:List Hn) (y:Hn) (vu vv:Value),pre=iE++[y]/\(∀z∈iE,(L x z.2.2).1=ac)/\(L x y.2.2).1=af/\Res b W' (.bool af) vu vv (.int .i64 (L x y.2.2).2.1) (.int .i64 0)/\Out W' vu x/\Out W' vv y.2.2
theorem iQ {B0 B:Nat}{Wb A C:World}(h:KeepsFrom B0 Wb A)(hB:Wb.heap.size<=B)(k:Below B A C):KeepsFrom B0 Wb C:=⟨bi h.size k.size,fun i o h0 hi ho=>(k.block i (by have:=(ck.1 hi).1;omega)).trans (h.same i o h0 hi ho)⟩
theorem X41.kept {W Wb A C:World}{b B B0:Nat}{L:List Int->List Int->Bool × Int × Int}{x:List Int}{c:Code}{pre:List Hn}(h:X41 W b B0 Wb L x c pre A)(hB:W.heap.size<=B)(hB2:Wb.heap.size<=B)(k:Below B A C)(k2:Kc A C):X41 W b B0 Wb L x c pre C:=by
 obtain⟨h1,h2,h3,iE,y,vu,vv,e,hn,hx,hr,hu,hv⟩:=h;exact⟨h1,h2.trans (k.mono hB),iQ h3 hB2 k,iE,y,vu,vv,e,hn,hx,hr.kc k2,hu.kc k2,hv.kc k2⟩
theorem all_map_ (P:List Bool):(P.map fun _=>af)=bg P.length af:=by
 apply List.ext_getElem (by simp);intro i h1 h2
 simp
def rowR (L:List Int->List Int->Bool × Int × Int)(wd:Int)(n:Nat)(P:List Bool)(x:List Int):Option (List Int × Int):=iS L x (kF wd (P.map (! ·)) n (jZ wd n) (dU n P x))
section
variable {L:List Int->List Int->Bool × Int × Int}{wd:Int}{n:Nat}{P:List Bool}
theorem I41.all {wi W':World}{x:List Int}{xs:List Hn}(h:I41 wi L x xs W')(hs:xs.map (fun p=>p.2.2)=kF wd (P.map (! ·)) n (jZ wd n) (dU n P x)):rowR L wd n P x=ak:=by
 unfold rowR;rw[←hs];refine pR fun y hy=> ?_;obtain⟨z,hz,rfl⟩:=List.mem_map.1 hy;exact h.none_ z hz
theorem X41.out {W W' Wb:World}{b B0:Nat}{c:Code}{x:Hn}{pre' pre:List Hn}(h:X41 W b B0 Wb L x.2.2 c pre' W')(hs:pre'.map (fun p=>p.2.2) <+: kF wd (P.map (! ·)) n (jZ wd n) (dU n P x.2.2))(hn:∀z∈pre,rowR L wd n P z.2.2=ak):X40 W b (rowR L wd n P) c (pre++[x]) W':=by
 obtain⟨h1,h2,h3,iE,y,vu,vv,rfl,hn0,hx,hr,hu,hv⟩:=h;refine⟨h1,h2,pre,x,y.2.2,(L x.2.2 y.2.2).2.1,vu,vv,rfl,hn,?_,hr,hu,hv⟩;obtain⟨t,ht⟩:=hs;unfold rowR;rw[←ht,ef,dr]
 refine firstIn_at (fun z hz=> ?_) hx
 obtain⟨u,hu,rfl⟩:=List.mem_map.1 hz;exact hn0 u hu
theorem noneP (n:Nat):(bg n ac).map (! ·)=bg n af:=by simp
theorem startN (n:Nat):dU n (bg n ac) (bg n 0)=bg n 0:=by
 apply List.ext_getElem (by simp[dU]);intro i h1 h2
 have hi:i<n:=by simpa using h2
 simp[dU,aw,List.getElem?_replicate,hi]
theorem outer_rows (hn:n=P.length):jF L wd n P (jZ wd n) (jZ wd n) (bg n 0)=fF (rowR L wd n P) (kF wd ((bg n ac).map (! ·)) n (jZ wd n) (dU n (bg n ac) (bg n 0))):=by
 rw[sF,noneP,startN]
 have e:(P.map fun _=>af)=bg n af:=by rw[hn];exact(all_map_ P)
 rw[e]
 congr 1
 funext x
 exact qW L wd n _ x _ _
theorem I40.all {w0 W':World}{xs:List Hn}(hn:n=P.length)(h:I40 w0 (rowR L wd n P) xs W')(hs:xs.map (fun p=>p.2.2)=kF wd ((bg n ac).map (! ·)) n (jZ wd n) (dU n (bg n ac) (bg n 0))):foundS (jF L wd n P (jZ wd n) (jZ wd n) (bg n 0))=⟨ac,[],[],0,0⟩:=by
 rw[outer_rows hn,←hs,nF]
 ·rfl
 ·intro y hy;obtain⟨z,hz,rfl⟩:=List.mem_map.1 hy;exact h.none_ z hz
theorem X40.all {W W':World}{b:Nat}{c:Code}{pre:List Hn}(hn:n=P.length)(h:X40 W b (rowR L wd n P) c pre W')(hs:pre.map (fun p=>p.2.2) <+: kF wd ((bg n ac).map (! ·)) n (jZ wd n) (dU n (bg n ac) (bg n 0))):∃(x y:List Int) (a:Int) (vu vv:Value),foundS (jF L wd n P (jZ wd n) (jZ wd n) (bg n 0))=⟨af,x,y,a,0⟩/\Res b W' (.bool af) vu vv (.int .i64 a) (.int .i64 0)/\Out W' vu x/\Out W' vv y:=by
 obtain⟨h1,h2,iE,x,y,a,vu,vv,rfl,hn0,hx,hr,hu,hv⟩:=h;obtain⟨t,ht⟩:=hs;refine⟨x.2.2,y,a,vu,vv,?_,hr,hu,hv⟩;rw[outer_rows hn,←ht,ef,dr]
 have:=sI (R:=rowR L wd n P) (x:=x.2.2) (t:=t) hx (l:=iE.map fun p=>p.2.2) (fun z hz=>by
  obtain⟨u,hu,rfl⟩:=List.mem_map.1 hz
  exact hn0 u hu)
 show foundS (fF _ (_++(x.2.2::t)))= _
 rw[this];rfl
end
end Go.Proofs.YtfigjpehecibeaaGreat.L
