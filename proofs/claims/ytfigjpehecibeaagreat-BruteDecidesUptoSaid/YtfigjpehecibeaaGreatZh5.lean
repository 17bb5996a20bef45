/- Texts joined by a program of mine: Te Tb Tf Ev Vb Vc Vd Ve Vf Ua Ub Uc. -/
import Derived.Defers
import Derived.Recover
import Derived.Laws.Pointers
import Derived.Test.YtfigjpehecibeaaGreatZh4
set_option maxRecDepth 100000
open And renaming intro -> aj
open Bool renaming false -> ac, true -> af, and_eq_true -> cb
open Decidable renaming em -> gy
open Go.Act renaming put -> ay
open Go.Ending renaming returned -> gj
open Go.Proofs.Tryz renaming prog -> au
open Go.Proofs.YtfigjpehecibeaaGreatW.PrintWords.Aside0 renaming mk -> aa
open Go.RowKit.Below renaming refl -> ar, heap_setCell -> dn, heap_alloc -> ic
open Go.Value renaming int -> bh, ownBlock -> ee
open Go.World renaming setCell -> ji
open Int renaming natCast_nonneg -> bo, toNat_natCast -> ax, eq_ofNat_of_zero_le -> ew, lt_or_le -> dh
open List renaming take_zero -> jx, take_length -> eu, setIfInBounds_toArray -> ae, set_cons_zero -> ah, set_cons_succ -> ai, length_append -> ba, length_singleton -> bq, length_take -> dm, any_cons -> jv, cons_append -> gp, length_cons -> jn, append_assoc -> dr, mem_cons_self -> ig, any_append -> il, isEmpty_iff -> ik, all_eq_true -> fw, sizeOf_lt_of_mem -> gq, range -> bu, range_succ -> jz, map_append -> ef, getD_eq_getElem?_getD -> aw, getElem?_eq_getElem -> az, getElem_mem -> gn, mem_range -> jg
open Nat renaming zero_le -> bk, le_refl -> aq, ne_of_lt -> jy, lt_of_lt_of_le -> br, le_trans -> bi, ne_of_gt -> fo, not_lt -> jt, min_eq_left -> di, add_zero -> gm, add_assoc -> ja, le_succ -> jj, not_lt_zero -> da
open Option renaming some -> ag, none -> ak
open Or renaming inl -> bc
open SizeOf renaming sizeOf -> cz
set_option linter.unusedVariables false
set_option linter.unusedSimpArgs false
set_option maxHeartbeats 8000000
namespace Go.Proofs.YtfigjpehecibeaaGreat.L
open Go.RowKit Go.Proofs.YtfigjpehecibeaaGreatW.PrintWords Go.Proofs.YtfigjpehecibeaaGreatW.PrintLast Go.Proofs.YtfigjpehecibeaaGreatW.PrintMore Go.Proofs.YtfigjpehecibeaaGreat.Gr
section
attribute [local go_sem] G.cell
def OwnBC (l:List S119):Prop:=∀(A:Option Addr) (c:Nat) (w:World),dN.C w A l.length l->l.length<=c->
 Calls au 112 #[.slice A l.length c] w fun r w'=>∃v,r=.returned v/\dN.R 119 w' w.heap.size (fun _=>True) v l/\Below w.heap.size w w'
theorem ownB_walk (l:List S119)(hn:l.length*200<=140737488351232)(hg:∀x∈l,Ot.jV x)(ih:∀x∈l,OwnBC x.f6/\OwnBC x.f7):OwnBC l:=by
 intro A c w hc hl;have IH:=aa ih;have HC:=aa hc;have HN:=aa hn;have HG:=aa hg;have hlm:=hc.2.1;clear ih hc hg hn;go_enter Tryz.func112,Tryz.ntmps112;go_wp2_with fail
 go_loopw [4,3] (fun i v W=>∃(k:Nat) (vo:Value),i=.int .i64 k/\vo=v/\k<=l.length/\Aside0 (Below w.heap.size w W/\dN.R 119 W w.heap.size (fun _=>True) vo (l.take k))) (fun i _ _=>l.length - (intOf i).toNat)
 case atStart=>exact⟨0,_,rfl,rfl,bk _,⟨ar _ _,by rw[jx];exact Kd.iG _ _ _ _ _⟩⟩
 case round=>
  obtain⟨k,vo,rfl,rfl,hk,HREL⟩:=hrel
  by_cases hlt:k<l.length
  ·obtain⟨ad,A5,c5,A9,c9,A12,c12,A13,c13,e1,q0,q1,q2,q3,q4,q5,q6,q7,q8,q9,q10,q11,q12,q13,l5,g5,l9,g9,l12,g12,l13,g13⟩:=jX HC.out (k:Int) (bo _) (by omega);cases e1;rw[ax]at q0 q1 q2 q3 q4 q5 q6 q7 q8 q9 q10 q11 q12 q13;replace q0:=aE HREL.out.1 q0;replace q1:=aE HREL.out.1 q1;replace q2:=aE HREL.out.1 q2;replace q3:=aE HREL.out.1 q3;replace q4:=aE HREL.out.1 q4;replace q5:=aE HREL.out.1 q5;replace q6:=aE HREL.out.1 q6;replace q7:=aE HREL.out.1 q7;replace q8:=aE HREL.out.1 q8;replace q9:=aE HREL.out.1 q9;replace q10:=aE HREL.out.1 q10;replace q11:=aE HREL.out.1 q11;replace q12:=aE HREL.out.1 q12;replace q13:=aE HREL.out.1 q13
   have hi1:(k:Int)<(l.length:Int):=by omega
   have K:=aa (aj l5 (aj g5 (aj l9 (aj g9 (aj l12 (aj g12 (aj l13 g13)))))));clear l5 g5 l9 g9 l12 g12 l13 g13;have IH1:=aa (IH.out _ (nW hlt));have GT:=aa (HG.out _ (nW hlt));have T:=aa (e9 hlt);generalize aR l (k:Int)=y at*;have GE:=aa (show Ot.lL y.f2/\Ot.lL y.f3 from by obtain⟨a,s,e,f,lo,hi,th,el⟩:=y;have h:=GT.out;rw[Ot.jV]at h;exact⟨h.2.2.1,h.2.2.2.1⟩);have C5:=fun W (h:Below w.heap.size w W)=>ownE_calls _ y.f2 (aq _) GE.out.1 A5 c5 W (Kd.aF K.out.2.1 h) K.out.1;have C9:=fun W (h:Below w.heap.size w W)=>ownE_calls _ y.f3 (aq _) GE.out.2 A9 c9 W (Kd.aF K.out.2.2.2.1 h) K.out.2.2.1;have C12:=fun W (h:Below w.heap.size w W)=>IH1.out.1 A12 c12 W (Kd.aF K.out.2.2.2.2.2.1 h) K.out.2.2.2.2.1;have C13:=fun W (h:Below w.heap.size w W)=>IH1.out.2 A13 c13 W (Kd.aF K.out.2.2.2.2.2.2.2 h) K.out.2.2.2.2.2.2.1;have CS:=aa (aj C5 (aj C9 (aj C12 C13)));clear C5 C9 C12 C13
   go_upto_region 6 with (fail)
   ·obtain⟨wc,hwc⟩:∃wc,wc=wr.alloc (.cells #[.int .i64 y.f0,.string y.f1,.int .i64 y.f2.f0,.int .u64 y.f2.f1,.string y.f2.f2,.slice A5 y.f2.f3.length c5,.int .i64 y.f3.f0,.int .u64 y.f3.f1,.string y.f3.f2,.slice A9 y.f3.f3.length c9,.int .u64 y.f4,.int .u64 y.f5,.slice A12 y.f6.length c12,.slice A13 y.f7.length c13] 119):=⟨_,rfl⟩;rw[←hwc];clear q0 q1 q2 q3 q4 q5 q6 q7 q8 q9 q10 q11 q12 q13;have B0:=aa (HREL.out.1);have hbk:wc.heap[wr.heap.size]? =ag (.cells #[.int .i64 y.f0,.string y.f1,.int .i64 y.f2.f0,.int .u64 y.f2.f1,.string y.f2.f2,.slice A5 y.f2.f3.length c5,.int .i64 y.f3.f0,.int .u64 y.f3.f1,.string y.f3.f2,.slice A9 y.f3.f3.length c9,.int .u64 y.f4,.int .u64 y.f5,.slice A12 y.f6.length c12,.slice A13 y.f7.length c13] 119 (0,0)):=hwc ▸ aW wr _;have hbl:Below wr.heap.size wr wc:=hwc ▸ (ar _ _).alloc (aq _) _;clear hwc;have HRO:=aa (Kd.bF HREL.out.2 hbl);have OB:=aa (show ∀b,vo.ownBlock=ag b->b<wr.heap.size from by obtain⟨_,inner,ho,_⟩:=HREL.out.2;exact fun b hb=>rK ho b hb);have KB:=aa hbk;have BL:=aa hbl;clear hbk hbl;refine aG ?_;intro gg;have z2:∀g:G wc,g.W.cell? ⟨wr.heap.size,2,ak⟩=ag (.int .i64 y.f2.f0):=fun g=>(aA (aB KB.out g.below) 2).trans rfl;have f2:∀g:G wc,g.W.frozen? ⟨wr.heap.size,2,ak⟩=ac:=fun g=>aH (aB KB.out g.below) 2;have z3:∀g:G wc,g.W.cell? ⟨wr.heap.size,3,ak⟩=ag (.int .u64 y.f2.f1):=fun g=>(aA (aB KB.out g.below) 3).trans rfl;have f3:∀g:G wc,g.W.frozen? ⟨wr.heap.size,3,ak⟩=ac:=fun g=>aH (aB KB.out g.below) 3;have z4:∀g:G wc,g.W.cell? ⟨wr.heap.size,4,ak⟩=ag (.string y.f2.f2):=fun g=>(aA (aB KB.out g.below) 4).trans rfl;have f4:∀g:G wc,g.W.frozen? ⟨wr.heap.size,4,ak⟩=ac:=fun g=>aH (aB KB.out g.below) 4;have z5:∀g:G wc,g.W.cell? ⟨wr.heap.size,5,ak⟩=ag (.slice A5 y.f2.f3.length c5):=fun g=>(aA (aB KB.out g.below) 5).trans rfl;have f5:∀g:G wc,g.W.frozen? ⟨wr.heap.size,5,ak⟩=ac:=fun g=>aH (aB KB.out g.below) 5;have WB:∀g:G wc,Below w.heap.size w g.W:=fun g=>(B0.out.trans (BL.out.mono B0.out.size)).trans (g.below.mono (B0.out.trans (BL.out.mono B0.out.size)).size)
    go_upto_region 7 with (go_at_call 152;refine(CS.out.1 gg.W (WB gg)).mono ?_;rintro _ w9 ⟨v9,rfl,hR,hb⟩;obtain⟨Av5,cv5,rfl⟩:=Kd.bN hR;have HR5:=aa (aj hR hb);clear hR hb;obtain⟨g9,hg9⟩:∃g:G wc,g.W=w9:=⟨mkG (gg.below.trans (HR5.out.2.mono gg.below.size)),rfl⟩;subst hg9)
    clear z2 f2 z3 f3 z4 f4 z5 f5;obtain⟨X5,hX⟩:∃X,X=((((g9.W.setCell ⟨wr.heap.size,2,ak⟩ (.int .i64 y.f2.f0)).setCell ⟨wr.heap.size,3,ak⟩ (.int .u64 y.f2.f1)).setCell ⟨wr.heap.size,4,ak⟩ (.string y.f2.f2)).setCell ⟨wr.heap.size,5,ak⟩ (.slice Av5 y.f2.f3.length cv5)):=⟨_,rfl⟩;rw[←hX];have KB2:=aa (show X5.heap[wr.heap.size]? =ag (.cells #[.int .i64 y.f0,.string y.f1,.int .i64 y.f2.f0,.int .u64 y.f2.f1,.string y.f2.f2,.slice Av5 y.f2.f3.length cv5,.int .i64 y.f3.f0,.int .u64 y.f3.f1,.string y.f3.f2,.slice A9 y.f3.f3.length c9,.int .u64 y.f4,.int .u64 y.f5,.slice A12 y.f6.length c12,.slice A13 y.f7.length c13] 119 (0,0)) from hX ▸ (bQ (bQ (bQ (bQ (aB KB.out g9.below) 2 _ rfl) 3 _ rfl) 4 _ rfl) 5 _ rfl));have BL2:=aa (show Below wr.heap.size wr X5 from by rw[hX];exact(((((BL.out.trans (g9.below.mono BL.out.size)).setCell (p:=⟨wr.heap.size,2,ak⟩) (aq _) _).setCell (p:=⟨wr.heap.size,3,ak⟩) (aq _) _).setCell (p:=⟨wr.heap.size,4,ak⟩) (aq _) _).setCell (p:=⟨wr.heap.size,5,ak⟩) (aq _) _));have HRO2:=aa (show dN.R 119 X5 w.heap.size (fun b=>b<wr.heap.size) vo (l.take k) from hX ▸ (Kd.cP (Kd.cP (Kd.cP (Kd.cP (Kd.bF (Kd.dW (Kd.d7 HREL.out.2) (fun b hb=>hb.2.2.1)) (BL.out.trans (g9.below.mono BL.out.size))) (p:=⟨wr.heap.size,2,ak⟩) (fun b hb=>jy hb) _) (p:=⟨wr.heap.size,3,ak⟩) (fun b hb=>jy hb) _) (p:=⟨wr.heap.size,4,ak⟩) (fun b hb=>jy hb) _) (p:=⟨wr.heap.size,5,ak⟩) (fun b hb=>jy hb) _));have HQ52:=aa (show dC.R 116 X5 w.heap.size (fun b=>wr.heap.size<b) _ (y.f2.f3) from hX ▸ (Kd.cP (Kd.cP (Kd.cP (Kd.cP (Kd.fK (Kd.dW (Kd.d7 HR5.out.1) (fun b hb=>br (aX KB.out) (bi gg.below.size hb.2.1))) (WB gg).size) (p:=⟨wr.heap.size,2,ak⟩) (fun b hb=>fo hb) _) (p:=⟨wr.heap.size,3,ak⟩) (fun b hb=>fo hb) _) (p:=⟨wr.heap.size,4,ak⟩) (fun b hb=>fo hb) _) (p:=⟨wr.heap.size,5,ak⟩) (fun b hb=>fo hb) _));clear hX HR5 g9 gg WB KB BL HRO;have KB:=KB2;clear KB2;have BL:=BL2;clear BL2;have HRO:=HRO2;clear HRO2;have HQ5:=HQ52;clear HQ52;refine aG ?_;intro gg;have z6:∀g:G X5,g.W.cell? ⟨wr.heap.size,6,ak⟩=ag (.int .i64 y.f3.f0):=fun g=>(aA (aB KB.out g.below) 6).trans rfl;have f6:∀g:G X5,g.W.frozen? ⟨wr.heap.size,6,ak⟩=ac:=fun g=>aH (aB KB.out g.below) 6;have z7:∀g:G X5,g.W.cell? ⟨wr.heap.size,7,ak⟩=ag (.int .u64 y.f3.f1):=fun g=>(aA (aB KB.out g.below) 7).trans rfl;have f7:∀g:G X5,g.W.frozen? ⟨wr.heap.size,7,ak⟩=ac:=fun g=>aH (aB KB.out g.below) 7;have z8:∀g:G X5,g.W.cell? ⟨wr.heap.size,8,ak⟩=ag (.string y.f3.f2):=fun g=>(aA (aB KB.out g.below) 8).trans rfl;have f8:∀g:G X5,g.W.frozen? ⟨wr.heap.size,8,ak⟩=ac:=fun g=>aH (aB KB.out g.below) 8;have z9:∀g:G X5,g.W.cell? ⟨wr.heap.size,9,ak⟩=ag (.slice A9 y.f3.f3.length c9):=fun g=>(aA (aB KB.out g.below) 9).trans rfl;have f9:∀g:G X5,g.W.frozen? ⟨wr.heap.size,9,ak⟩=ac:=fun g=>aH (aB KB.out g.below) 9;have WB:∀g:G X5,Below w.heap.size w g.W:=fun g=>(B0.out.trans (BL.out.mono B0.out.size)).trans (g.below.mono (B0.out.trans (BL.out.mono B0.out.size)).size)
    go_upto_region 8 with (go_at_call 152;refine(CS.out.2.1 gg.W (WB gg)).mono ?_;rintro _ w9 ⟨v9,rfl,hR,hb⟩;obtain⟨Av9,cv9,rfl⟩:=Kd.bN hR;have HR9:=aa (aj hR hb);clear hR hb;obtain⟨g9,hg9⟩:∃g:G X5,g.W=w9:=⟨mkG (gg.below.trans (HR9.out.2.mono gg.below.size)),rfl⟩;subst hg9)
    clear z6 f6 z7 f7 z8 f8 z9 f9;obtain⟨X9,hX⟩:∃X,X=((((g9.W.setCell ⟨wr.heap.size,6,ak⟩ (.int .i64 y.f3.f0)).setCell ⟨wr.heap.size,7,ak⟩ (.int .u64 y.f3.f1)).setCell ⟨wr.heap.size,8,ak⟩ (.string y.f3.f2)).setCell ⟨wr.heap.size,9,ak⟩ (.slice Av9 y.f3.f3.length cv9)):=⟨_,rfl⟩;rw[←hX];have KB2:=aa (show X9.heap[wr.heap.size]? =ag (.cells #[.int .i64 y.f0,.string y.f1,.int .i64 y.f2.f0,.int .u64 y.f2.f1,.string y.f2.f2,.slice Av5 y.f2.f3.length cv5,.int .i64 y.f3.f0,.int .u64 y.f3.f1,.string y.f3.f2,.slice Av9 y.f3.f3.length cv9,.int .u64 y.f4,.int .u64 y.f5,.slice A12 y.f6.length c12,.slice A13 y.f7.length c13] 119 (0,0)) from hX ▸ (bQ (bQ (bQ (bQ (aB KB.out g9.below) 6 _ rfl) 7 _ rfl) 8 _ rfl) 9 _ rfl));have BL2:=aa (show Below wr.heap.size wr X9 from by rw[hX];exact(((((BL.out.trans (g9.below.mono BL.out.size)).setCell (p:=⟨wr.heap.size,6,ak⟩) (aq _) _).setCell (p:=⟨wr.heap.size,7,ak⟩) (aq _) _).setCell (p:=⟨wr.heap.size,8,ak⟩) (aq _) _).setCell (p:=⟨wr.heap.size,9,ak⟩) (aq _) _));have HRO2:=aa (show dN.R 119 X9 w.heap.size (fun b=>b<wr.heap.size) vo (l.take k) from hX ▸ (Kd.cP (Kd.cP (Kd.cP (Kd.cP (Kd.bF (Kd.dW (Kd.d7 HREL.out.2) (fun b hb=>hb.2.2.1)) (BL.out.trans (g9.below.mono BL.out.size))) (p:=⟨wr.heap.size,6,ak⟩) (fun b hb=>jy hb) _) (p:=⟨wr.heap.size,7,ak⟩) (fun b hb=>jy hb) _) (p:=⟨wr.heap.size,8,ak⟩) (fun b hb=>jy hb) _) (p:=⟨wr.heap.size,9,ak⟩) (fun b hb=>jy hb) _));have HQ52:=aa (show dC.R 116 X9 w.heap.size (fun b=>wr.heap.size<b) _ (y.f2.f3) from hX ▸ (Kd.cP (Kd.cP (Kd.cP (Kd.cP (Kd.bF HQ5.out g9.below) (p:=⟨wr.heap.size,6,ak⟩) (fun b hb=>fo hb) _) (p:=⟨wr.heap.size,7,ak⟩) (fun b hb=>fo hb) _) (p:=⟨wr.heap.size,8,ak⟩) (fun b hb=>fo hb) _) (p:=⟨wr.heap.size,9,ak⟩) (fun b hb=>fo hb) _));have HQ92:=aa (show dC.R 116 X9 w.heap.size (fun b=>wr.heap.size<b) _ (y.f3.f3) from hX ▸ (Kd.cP (Kd.cP (Kd.cP (Kd.cP (Kd.fK (Kd.dW (Kd.d7 HR9.out.1) (fun b hb=>br (aX KB.out) (bi gg.below.size hb.2.1))) (WB gg).size) (p:=⟨wr.heap.size,6,ak⟩) (fun b hb=>fo hb) _) (p:=⟨wr.heap.size,7,ak⟩) (fun b hb=>fo hb) _) (p:=⟨wr.heap.size,8,ak⟩) (fun b hb=>fo hb) _) (p:=⟨wr.heap.size,9,ak⟩) (fun b hb=>fo hb) _));clear hX HR9 g9 gg WB KB BL HRO HQ5;have KB:=KB2;clear KB2;have BL:=BL2;clear BL2;have HRO:=HRO2;clear HRO2;have HQ5:=HQ52;clear HQ52;have HQ9:=HQ92;clear HQ92;refine aG ?_;intro gg;have z12:∀g:G X9,g.W.cell? ⟨wr.heap.size,12,ak⟩=ag (.slice A12 y.f6.length c12):=fun g=>(aA (aB KB.out g.below) 12).trans rfl;have f12:∀g:G X9,g.W.frozen? ⟨wr.heap.size,12,ak⟩=ac:=fun g=>aH (aB KB.out g.below) 12;have WB:∀g:G X9,Below w.heap.size w g.W:=fun g=>(B0.out.trans (BL.out.mono B0.out.size)).trans (g.below.mono (B0.out.trans (BL.out.mono B0.out.size)).size)
    go_upto_region 9 with (go_at_call 112;refine(CS.out.2.2.1 gg.W (WB gg)).mono ?_;rintro _ w9 ⟨v9,rfl,hR,hb⟩;obtain⟨Av12,cv12,rfl⟩:=Kd.bN hR;have HR12:=aa (aj hR hb);clear hR hb;obtain⟨g9,hg9⟩:∃g:G X9,g.W=w9:=⟨mkG (gg.below.trans (HR12.out.2.mono gg.below.size)),rfl⟩;subst hg9)
    clear z12 f12;obtain⟨X12,hX⟩:∃X,X=(g9.W.setCell ⟨wr.heap.size,12,ak⟩ (.slice Av12 y.f6.length cv12)):=⟨_,rfl⟩;rw[←hX];have KB2:=aa (show X12.heap[wr.heap.size]? =ag (.cells #[.int .i64 y.f0,.string y.f1,.int .i64 y.f2.f0,.int .u64 y.f2.f1,.string y.f2.f2,.slice Av5 y.f2.f3.length cv5,.int .i64 y.f3.f0,.int .u64 y.f3.f1,.string y.f3.f2,.slice Av9 y.f3.f3.length cv9,.int .u64 y.f4,.int .u64 y.f5,.slice Av12 y.f6.length cv12,.slice A13 y.f7.length c13] 119 (0,0)) from hX ▸ (bQ (aB KB.out g9.below) 12 _ rfl));have BL2:=aa (show Below wr.heap.size wr X12 from by rw[hX];exact((BL.out.trans (g9.below.mono BL.out.size)).setCell (p:=⟨wr.heap.size,12,ak⟩) (aq _) _));have HRO2:=aa (show dN.R 119 X12 w.heap.size (fun b=>b<wr.heap.size) vo (l.take k) from hX ▸ (Kd.cP (Kd.bF (Kd.dW (Kd.d7 HREL.out.2) (fun b hb=>hb.2.2.1)) (BL.out.trans (g9.below.mono BL.out.size))) (p:=⟨wr.heap.size,12,ak⟩) (fun b hb=>jy hb) _));have HQ52:=aa (show dC.R 116 X12 w.heap.size (fun b=>wr.heap.size<b) _ (y.f2.f3) from hX ▸ (Kd.cP (Kd.bF HQ5.out g9.below) (p:=⟨wr.heap.size,12,ak⟩) (fun b hb=>fo hb) _));have HQ92:=aa (show dC.R 116 X12 w.heap.size (fun b=>wr.heap.size<b) _ (y.f3.f3) from hX ▸ (Kd.cP (Kd.bF HQ9.out g9.below) (p:=⟨wr.heap.size,12,ak⟩) (fun b hb=>fo hb) _));have HQ122:=aa (show dN.R 119 X12 w.heap.size (fun b=>wr.heap.size<b) _ (y.f6) from hX ▸ (Kd.cP (Kd.fK (Kd.dW (Kd.d7 HR12.out.1) (fun b hb=>br (aX KB.out) (bi gg.below.size hb.2.1))) (WB gg).size) (p:=⟨wr.heap.size,12,ak⟩) (fun b hb=>fo hb) _));clear hX HR12 g9 gg WB KB BL HRO HQ5 HQ9;have KB:=KB2;clear KB2;have BL:=BL2;clear BL2;have HRO:=HRO2;clear HRO2;have HQ5:=HQ52;clear HQ52;have HQ9:=HQ92;clear HQ92;have HQ12:=HQ122;clear HQ122;refine aG ?_;intro gg;have z13:∀g:G X12,g.W.cell? ⟨wr.heap.size,13,ak⟩=ag (.slice A13 y.f7.length c13):=fun g=>(aA (aB KB.out g.below) 13).trans rfl;have f13:∀g:G X12,g.W.frozen? ⟨wr.heap.size,13,ak⟩=ac:=fun g=>aH (aB KB.out g.below) 13;have WB:∀g:G X12,Below w.heap.size w g.W:=fun g=>(B0.out.trans (BL.out.mono B0.out.size)).trans (g.below.mono (B0.out.trans (BL.out.mono B0.out.size)).size)
    go_upto_region 10 with (go_at_call 112;refine(CS.out.2.2.2 gg.W (WB gg)).mono ?_;rintro _ w9 ⟨v9,rfl,hR,hb⟩;obtain⟨Av13,cv13,rfl⟩:=Kd.bN hR;have HR13:=aa (aj hR hb);clear hR hb;obtain⟨g9,hg9⟩:∃g:G X12,g.W=w9:=⟨mkG (gg.below.trans (HR13.out.2.mono gg.below.size)),rfl⟩;subst hg9)
    clear z13 f13;obtain⟨X13,hX⟩:∃X,X=(g9.W.setCell ⟨wr.heap.size,13,ak⟩ (.slice Av13 y.f7.length cv13)):=⟨_,rfl⟩;rw[←hX];have KB2:=aa (show X13.heap[wr.heap.size]? =ag (.cells #[.int .i64 y.f0,.string y.f1,.int .i64 y.f2.f0,.int .u64 y.f2.f1,.string y.f2.f2,.slice Av5 y.f2.f3.length cv5,.int .i64 y.f3.f0,.int .u64 y.f3.f1,.string y.f3.f2,.slice Av9 y.f3.f3.length cv9,.int .u64 y.f4,.int .u64 y.f5,.slice Av12 y.f6.length cv12,.slice Av13 y.f7.length cv13] 119 (0,0)) from hX ▸ (bQ (aB KB.out g9.below) 13 _ rfl));have BL2:=aa (show Below wr.heap.size wr X13 from by rw[hX];exact((BL.out.trans (g9.below.mono BL.out.size)).setCell (p:=⟨wr.heap.size,13,ak⟩) (aq _) _));have HRO2:=aa (show dN.R 119 X13 w.heap.size (fun b=>b<wr.heap.size) vo (l.take k) from hX ▸ (Kd.cP (Kd.bF (Kd.dW (Kd.d7 HREL.out.2) (fun b hb=>hb.2.2.1)) (BL.out.trans (g9.below.mono BL.out.size))) (p:=⟨wr.heap.size,13,ak⟩) (fun b hb=>jy hb) _));have HQ52:=aa (show dC.R 116 X13 w.heap.size (fun b=>wr.heap.size<b) _ (y.f2.f3) from hX ▸ (Kd.cP (Kd.bF HQ5.out g9.below) (p:=⟨wr.heap.size,13,ak⟩) (fun b hb=>fo hb) _));have HQ92:=aa (show dC.R 116 X13 w.heap.size (fun b=>wr.heap.size<b) _ (y.f3.f3) from hX ▸ (Kd.cP (Kd.bF HQ9.out g9.below) (p:=⟨wr.heap.size,13,ak⟩) (fun b hb=>fo hb) _));have HQ122:=aa (show dN.R 119 X13 w.heap.size (fun b=>wr.heap.size<b) _ (y.f6) from hX ▸ (Kd.cP (Kd.bF HQ12.out g9.below) (p:=⟨wr.heap.size,13,ak⟩) (fun b hb=>fo hb) _));have HQ132:=aa (show dN.R 119 X13 w.heap.size (fun b=>wr.heap.size<b) _ (y.f7) from hX ▸ (Kd.cP (Kd.fK (Kd.dW (Kd.d7 HR13.out.1) (fun b hb=>br (aX KB.out) (bi gg.below.size hb.2.1))) (WB gg).size) (p:=⟨wr.heap.size,13,ak⟩) (fun b hb=>fo hb) _));clear hX HR13 g9 gg WB KB BL HRO HQ5 HQ9 HQ12;have KB:=KB2;clear KB2;have BL:=BL2;clear BL2;have HRO:=HRO2;clear HRO2;have HQ5:=HQ52;clear HQ52;have HQ9:=HQ92;clear HQ92;have HQ12:=HQ122;clear HQ122;have HQ13:=HQ132;clear HQ132;refine aG ?_;intro gg;have z0:∀g:G X13,g.W.cell? ⟨wr.heap.size,0,ak⟩=ag (.int .i64 y.f0):=fun g=>(aA (aB KB.out g.below) 0).trans rfl;have z1:∀g:G X13,g.W.cell? ⟨wr.heap.size,1,ak⟩=ag (.string y.f1):=fun g=>(aA (aB KB.out g.below) 1).trans rfl;have z2:∀g:G X13,g.W.cell? ⟨wr.heap.size,2,ak⟩=ag (.int .i64 y.f2.f0):=fun g=>(aA (aB KB.out g.below) 2).trans rfl;have z3:∀g:G X13,g.W.cell? ⟨wr.heap.size,3,ak⟩=ag (.int .u64 y.f2.f1):=fun g=>(aA (aB KB.out g.below) 3).trans rfl;have z4:∀g:G X13,g.W.cell? ⟨wr.heap.size,4,ak⟩=ag (.string y.f2.f2):=fun g=>(aA (aB KB.out g.below) 4).trans rfl;have z5:∀g:G X13,g.W.cell? ⟨wr.heap.size,5,ak⟩=ag (.slice Av5 y.f2.f3.length cv5):=fun g=>(aA (aB KB.out g.below) 5).trans rfl;have z6:∀g:G X13,g.W.cell? ⟨wr.heap.size,6,ak⟩=ag (.int .i64 y.f3.f0):=fun g=>(aA (aB KB.out g.below) 6).trans rfl;have z7:∀g:G X13,g.W.cell? ⟨wr.heap.size,7,ak⟩=ag (.int .u64 y.f3.f1):=fun g=>(aA (aB KB.out g.below) 7).trans rfl;have z8:∀g:G X13,g.W.cell? ⟨wr.heap.size,8,ak⟩=ag (.string y.f3.f2):=fun g=>(aA (aB KB.out g.below) 8).trans rfl
    have z9:∀g:G X13,g.W.cell? ⟨wr.heap.size,9,ak⟩=ag (.slice Av9 y.f3.f3.length cv9):=fun g=>(aA (aB KB.out g.below) 9).trans rfl;have z10:∀g:G X13,g.W.cell? ⟨wr.heap.size,10,ak⟩=ag (.int .u64 y.f4):=fun g=>(aA (aB KB.out g.below) 10).trans rfl;have z11:∀g:G X13,g.W.cell? ⟨wr.heap.size,11,ak⟩=ag (.int .u64 y.f5):=fun g=>(aA (aB KB.out g.below) 11).trans rfl;have z12:∀g:G X13,g.W.cell? ⟨wr.heap.size,12,ak⟩=ag (.slice Av12 y.f6.length cv12):=fun g=>(aA (aB KB.out g.below) 12).trans rfl;have z13:∀g:G X13,g.W.cell? ⟨wr.heap.size,13,ak⟩=ag (.slice Av13 y.f7.length cv13):=fun g=>(aA (aB KB.out g.below) 13).trans rfl;have HM:=aa (show ∀g:G X13,dN.M g.W w.heap.size (fun b=>wr.heap.size<b) y [.int .i64 y.f0,.string y.f1,.int .i64 y.f2.f0,.int .u64 y.f2.f1,.string y.f2.f2,.slice Av5 y.f2.f3.length cv5,.int .i64 y.f3.f0,.int .u64 y.f3.f1,.string y.f3.f2,.slice Av9 y.f3.f3.length cv9,.int .u64 y.f4,.int .u64 y.f5,.slice Av12 y.f6.length cv12,.slice Av13 y.f7.length cv13] from fun g=>k119_mkM g.W w.heap.size _ y (Kd.bF HQ5.out g.below) (Kd.bF HQ9.out g.below) (Kd.bF HQ12.out g.below) (Kd.bF HQ13.out g.below));have WB:∀g:G X13,Below w.heap.size w g.W:=fun g=>(B0.out.trans (BL.out.mono B0.out.size)).trans (g.below.mono (B0.out.trans (BL.out.mono B0.out.size)).size)
    go_wp2_with (at_builtin;refine Kd.cX dN (w0:=w) w.heap.size rfl (.tmp 32) (.tmp 34) 23 119 zSt 200 rfl under27 info77 rfl (show 0<14 by decide) (by decide) vo (l.take k) y [.int .i64 y.f0,.string y.f1,.int .i64 y.f2.f0,.int .u64 y.f2.f1,.string y.f2.f2,.slice Av5 y.f2.f3.length cv5,.int .i64 y.f3.f0,.int .u64 y.f3.f1,.string y.f3.f2,.slice Av9 y.f3.f3.length cv9,.int .u64 y.f4,.int .u64 y.f5,.slice Av12 y.f6.length cv12,.slice Av13 y.f7.length cv13] (fun _=>True) (fun b=>wr.heap.size<b) rfl rfl (HM.out gg) (fun b hb=>⟨trivial,fY OB.out (Nat.le_of_lt hb)⟩) (fun _ _=>trivial) (Kd.dW (Kd.bF HRO.out gg.below) (fun _ _=>trivial)) (WB gg) (WB gg).size (by have:=HN.out;have:=List.length_take_le k l;omega) ?_)
    intro v1 w1 hr1 hb1 hg1 hat1;obtain⟨Av1,cv1,rfl⟩:=Kd.bN hr1;have H1:=aa (aj hb1 hr1);clear hr1 hb1 hg1 hat1;go_wp2_with fail;refine⟨⟨k+1,_,by go_num,rfl,by omega,⟨H1.out.1,?_⟩⟩,by simp[intOf];omega⟩;rw[T.out];exact H1.out.2
  ·have hk2:k=l.length:=by omega
   go_wp2_with fail;go_ret;refine⟨_,rfl,?_,HREL.out.1⟩;have h:=HREL.out.2;rw[hk2,eu]at h;exact h
theorem ownB_calls:∀(n:Nat) (l:List S119),cz l<=n->l.length*200<=140737488351232->Ot.kZ l->OwnBC l:=by
 intro n
 induction n with
 |zero=>intro l h;cases l <;> simp at h
 |succ n ih=>
  intro l h hn hg;refine ownB_walk l hn ((Ot.cV l).1 hg) fun x hx=> ?_;have hs:=rD hx h;have h1:=(Ot.cV l).1 hg x hx;obtain⟨k,s,e,f,lo,hi,th,el⟩:=x;rw[Ot.jV]at h1;exact⟨ih _ hs.1 h1.2.2.2.2.2.2.1 h1.2.2.2.2.2.2.2.2.1,ih _ hs.2 h1.2.2.2.2.2.2.2.1 h1.2.2.2.2.2.2.2.2.2⟩
end
section
attribute [local go_sem] G.cell
theorem great_calls (nm:ByteArray)(wd ln:Int)(ds:List S70)(bd:List S119)(A3:Option Addr)(c3:Nat)(A4:Option Addr)(c4:Nat)(w:World)(hp:ProgAt w ds bd A3 c3 A4 c4):
 Calls au 58 #[.agg #[.string nm,.int .i64 wd,.int .i64 ln,.slice A3 ds.length c3,.slice A4 bd.length c4]] w fun e w'=>(∃b:Bool,e=.returned (.bool b))/\Below w.heap.size w w':=by
 have PAt:=aa hp;have hlm:=hp.hd.2.1;clear hp;go_enter Tryz.func58,Tryz.ntmps58
 go_upto_region 2 with (fail)
 have KX:=aa (show ∀n:Int,Below (w.alloc (.cells #[.string nm,.int .i64 wd,.int .i64 ln,.slice A3 ds.length c3,.slice A4 bd.length c4] 25)).heap.size (w.alloc (.cells #[.string nm,.int .i64 wd,.int .i64 ln,.slice A3 ds.length c3,.slice A4 bd.length c4] 25)) ((w.alloc (.cells #[.string nm,.int .i64 wd,.int .i64 ln,.slice A3 ds.length c3,.slice A4 bd.length c4] 25)).alloc (.cells #[.int .i64 n] 3))/\qY ((w.alloc (.cells #[.string nm,.int .i64 wd,.int .i64 ln,.slice A3 ds.length c3,.slice A4 bd.length c4] 25)).alloc (.cells #[.int .i64 n] 3)) (w.heap.size+1) from fun n=>⟨(ar _ _).alloc (aq _) _,n,by simpa using aW (w.alloc (.cells #[.string nm,.int .i64 wd,.int .i64 ln,.slice A3 ds.length c3,.slice A4 bd.length c4] 25)) (.cells #[.int .i64 n] 3)⟩);have KP:=aa (show(w.alloc (.cells #[.string nm,.int .i64 wd,.int .i64 ln,.slice A3 ds.length c3,.slice A4 bd.length c4] 25)).heap[w.heap.size]? =ag (.cells #[.string nm,.int .i64 wd,.int .i64 ln,.slice A3 ds.length c3,.slice A4 bd.length c4] 25 (0,0))/\Below w.heap.size w (w.alloc (.cells #[.string nm,.int .i64 wd,.int .i64 ln,.slice A3 ds.length c3,.slice A4 bd.length c4] 25))/\(w.alloc (.cells #[.string nm,.int .i64 wd,.int .i64 ln,.slice A3 ds.length c3,.slice A4 bd.length c4] 25)).heap.size=w.heap.size+1 from⟨aW _ _,(ar _ _).alloc (aq _) _,by simp⟩);obtain⟨Wb,hWb⟩:∃Wb,Wb=w.alloc (.cells #[.string nm,.int .i64 wd,.int .i64 ln,.slice A3 ds.length c3,.slice A4 bd.length c4] 25):=⟨_,rfl⟩;rw[←hWb]at KX KP ⊢;clear hWb;have OUT:=aa (show ∀W,Below Wb.heap.size Wb W->Below w.heap.size w W from fun W h=>KP.out.2.1.trans (h.mono KP.out.2.1.size));go_wp2_with fail
 go_loopw [4] (fun i W=>∃k:Nat,i=.int .i64 k/\k<=ds.length/\Aside0 (Below Wb.heap.size Wb W/\qY W (w.heap.size+1))) (fun i _=>ds.length - (intOf i).toNat)
 case atStart=>exact⟨0,rfl,bk _,⟨(KX.out 0).1,(KX.out 0).2⟩⟩
 case round=>
  obtain⟨k,rfl,hk,HREL⟩:=hrel;obtain⟨m,hm⟩:=HREL.out.2
  by_cases hlt:k<ds.length
  ·have z3:∀g:G wr,g.W.cell? ⟨w.heap.size,3,ak⟩=ag (.slice A3 ds.length c3):=fun g=>(aA (aB (aB KP.out.1 HREL.out.1) g.below) 3).trans rfl;have n0:∀g:G wr,g.W.cell? ⟨w.heap.size+1,0,ak⟩=ag (.int .i64 m):=fun g=>(aA (aB hm g.below) 0).trans rfl;have HM:=aa hm;clear hm;obtain⟨ad,A3d,c3d,e1,q0,q1,q2,q3,l3,g3⟩:=eD PAt.out.hd (k:Int) (bo _) (by omega);cases e1;rw[ax]at q0 q1 q2 q3;have q3g:∀g:G wr,_:=fun g=>aE ((OUT.out _ HREL.out.1).trans (g.below.mono (OUT.out _ HREL.out.1).size)) q3;clear q0 q1 q2 q3 l3 g3
   have hi1:(k:Int)<(ds.length:Int):=by omega
   refine aG ?_;intro gg
   go_upto_region 5 with (fail)
   refine aG ?_;intro g0;obtain⟨gg,hgg⟩:∃g:G wr,g.W=g0.W:=⟨mkG (gg.below.trans (g0.below.mono gg.below.size)),rfl⟩;rw[←hgg];clear hgg g0;refine eP (n:=11) (S:=fun w'=>∃g':G _,w'=g'.W) (ds:=[10]) #[ac,ac,ac,ac,ac,ac,ac,ac,ac,ac,ac] (by kernel_rfl) rfl rfl ⟨mkG (gg.2.drew),rfl⟩ (fun hHeld=> ?_);obtain⟨gd,hgd⟩:=hHeld;rw[hgd];clear hgd;refine cY (i:=0) (N:=ag 12) (v:= ?_) (a':= ?_) #[af,ac,ac,ac,ac,ac,ac,ac,ac,ac,ac] rfl rfl (by kernel_rfl) (fun _ _ _ h=>h) (bc ⟨by rfl,?_⟩) ⟨gd,rfl⟩ ?_ ?_;rotate_left
   ·rintro w' ⟨g',rfl⟩;go_simp;with_reducible rfl
   rotate_left
   ·simp only[ay,ae,ah,ai,aJ,aK];rfl
   refine aP (i:=1) (N:=ag 13) (v:= ?_) (a':= ?_) #[af,af,ac,ac,ac,ac,ac,ac,ac,ac,ac] rfl rfl (by kernel_rfl) (fun _ _ _ h=>h) (bc ⟨by rfl,?_⟩) ?_ ?_;rotate_left
   ·intro w';go_simp;with_reducible rfl
   rotate_left
   ·simp only[ay,ae,ah,ai,aJ,aK];rfl
   refine aP (i:=2) (N:=ag 14) (v:= ?_) (a':= ?_) #[af,af,af,ac,ac,ac,ac,ac,ac,ac,ac] rfl rfl (by kernel_rfl) (fun _ _ _ h=>h) (bc ⟨by rfl,?_⟩) ?_ ?_;rotate_left
   ·intro w';go_simp;with_reducible rfl
   rotate_left
   ·simp only[ay,ae,ah,ai,aJ,aK];rfl
   refine cY (i:=3) (N:=ag 15) (v:= ?_) (a':= ?_) #[af,af,af,af,ac,ac,ac,ac,ac,ac,ac] rfl rfl (by kernel_rfl) (fun _ _ _ h=>h) (bc ⟨by rfl,?_⟩) ⟨gd,rfl⟩ ?_ ?_;rotate_left
   ·rintro w' ⟨g',rfl⟩;go_simp;with_reducible rfl
   rotate_left
   ·simp only[ay,ae,ah,ai,aJ,aK];rfl
   refine aP (i:=4) (N:=ag 16) (v:= ?_) (a':= ?_) #[af,af,af,af,af,ac,ac,ac,ac,ac,ac] rfl rfl (by kernel_rfl) (fun _ _ _ h=>h) (bc ⟨by rfl,?_⟩) ?_ ?_;rotate_left
   ·intro w';go_simp;with_reducible rfl
   rotate_left
   ·simp only[ay,ae,ah,ai,aJ,aK];rfl
   refine aP (i:=5) (N:=ag 17) (v:= ?_) (a':= ?_) #[af,af,af,af,af,af,ac,ac,ac,ac,ac] rfl rfl (by kernel_rfl) (fun _ _ _ h=>h) (bc ⟨by rfl,?_⟩) ?_ ?_;rotate_left
   ·intro w';go_simp;with_reducible rfl
   rotate_left
   ·simp only[ay,ae,ah,ai,aJ,aK];rfl
   refine aP (i:=6) (N:=ag 18) (v:= ?_) (a':= ?_) #[af,af,af,af,af,af,af,ac,ac,ac,ac] rfl rfl (by kernel_rfl) (fun _ _ _ h=>h) (bc ⟨by rfl,?_⟩) ?_ ?_;rotate_left
   ·intro w';go_simp;with_reducible rfl
   rotate_left
   ·simp only[ay,ae,ah,ai,aJ,aK];rfl
   refine cY (i:=7) (N:=ag 19) (v:= ?_) (a':= ?_) #[af,af,af,af,af,af,af,af,ac,ac,ac] rfl rfl (by kernel_rfl) (fun _ _ _ h=>h) (bc ⟨by rfl,?_⟩) ⟨gd,rfl⟩ ?_ ?_;rotate_left
   ·rintro w' ⟨g',rfl⟩;go_simp;with_reducible rfl
   rotate_left
   ·simp only[ay,ae,ah,ai,aJ,aK];rfl
   refine aP (i:=8) (N:=ag 20) (v:= ?_) (a':= ?_) #[af,af,af,af,af,af,af,af,af,ac,ac] rfl rfl (by kernel_rfl) (fun _ _ _ h=>h) (bc ⟨by rfl,?_⟩) ?_ ?_;rotate_left
   ·intro w';go_simp;with_reducible rfl
   rotate_left
   ·simp only[ay,ae,ah,ai,aJ,aK];rfl
   refine aP (i:=9) (N:=ag 21) (v:= ?_) (a':= ?_) #[af,af,af,af,af,af,af,af,af,af,ac] rfl rfl (by kernel_rfl) (fun _ _ _ h=>h) (bc ⟨by rfl,?_⟩) ?_ ?_;rotate_left
   ·intro w';go_simp;with_reducible rfl
   rotate_left
   ·simp only[ay,ae,ah,ai,aJ,aK];rfl
   refine o4 (i:=10) (N:=ak) #[af,af,af,af,af,af,af,af,af,af,af] rfl rfl (by kernel_rfl) (by simp) (fun Kr hKr=> ?_);have y0:gd.W.frozen? ⟨w.heap.size+1,0,ak⟩=ac:=aH (aB HM.out gd.below) 0;obtain⟨X,hX⟩:∃X,X=gd.W.setCell ⟨w.heap.size+1,0,ak⟩ (.int .i64 (wrap64 (wrap64 (m+1)+((aI ds (k:Int)).f3.length:Int)))):=⟨_,rfl⟩;refine skip_ (w1:=X) (by rfl) rfl (by rw[hX];first | (go_simp;done) | (go_simp;rfl)) ?_;clear y0;refine hKr.out _ _ ?_;clear hKr Kr;refine iF (by kernel_rfl) ?_
   have HX:=aa (show Below Wb.heap.size Wb X/\qY X (w.heap.size+1) from by
    rw[hX]
    exact⟨(HREL.out.1.trans (gd.below.mono HREL.out.1.size)).setCell (p:=⟨w.heap.size+1,0,ak⟩) (by rw[KP.out.2.2];exact aq _) _,_,bQ (aB HM.out gd.below) 0 _ rfl⟩)
   clear hX z3 n0 q3g;obtain⟨m2,hm2⟩:=HX.out.2;have n2:X.cell? ⟨w.heap.size+1,0,ak⟩=ag (.int .i64 m2):=(aA hm2 0).trans rfl;clear hm2
   by_cases h1:10000<m2
   ·go_wp2_with fail;go_ret;exact⟨⟨_,rfl⟩,OUT.out _ HX.out.1⟩
   ·go_wp2_with fail;exact⟨⟨k+1,by go_num,by omega,⟨HX.out.1,HX.out.2⟩⟩,by simp[intOf];omega⟩
  ·have z3:wr.cell? ⟨w.heap.size,3,ak⟩=ag (.slice A3 ds.length c3):=(aA (aB KP.out.1 HREL.out.1) 3).trans rfl;have z4:wr.cell? ⟨w.heap.size,4,ak⟩=ag (.slice A4 bd.length c4):=(aA (aB KP.out.1 HREL.out.1) 4).trans rfl;clear hm;go_wp2_with fail;refine(count_calls _ bd (aq _) Wb wr (w.heap.size+1) A4 c4 HREL.out.1 (by rw[KP.out.2.2];exact aq _) HREL.out.2 (Kd.aF PAt.out.hb KP.out.2.1) PAt.out.hlb).mono ?_;rintro _ W2 ⟨⟨m3,rfl⟩,_,hg2⟩;have HG2:=aa hg2;clear hg2;go_wp2_with fail;go_ret;exact⟨⟨_,rfl⟩,OUT.out _ HG2.out.below⟩
end
section
attribute [local go_sem] G.cell
theorem mL:(Tryz.prog.info? 74).map (fun i=>(i.zero,i.size,i.bytes))=ag (ag (.int .u64 0),1,8):=by kernel_rfl
theorem gM:Tryz.prog.underlying 36=ag (.slice 74):=by kernel_rfl
theorem prog_of_R {W:World}{base:Nat}{ok:Nat->Prop}{ds:List S70}{bd:List S119}{A A':Option Addr}{c c':Nat}(h1:k70.R 70 W base ok (.slice A ds.length c) ds)(h2:dN.R 119 W base ok (.slice A' bd.length c') bd):ProgAt W ds bd A c A' c':=by
 obtain⟨A1,c1,e,l,C1⟩:=Kd.cO h1;injection e with a1 _ a3;subst a1 a3;obtain⟨A2,c2,e,l2,C2⟩:=Kd.cO h2;injection e with a1 _ a3;subst a1 a3;exact⟨C1,l,C2,l2⟩
theorem ownP_calls (nm:ByteArray)(wd ln:Int)(ds:List S70)(bd:List S119)(A3:Option Addr)(c3:Nat)(A4:Option Addr)(c4:Nat)(w:World)(hp:ProgAt w ds bd A3 c3 A4 c4)(hg:PGood nm wd ln ds bd):
 Calls au 59 #[.agg #[.string nm,.int .i64 wd,.int .i64 ln,.slice A3 ds.length c3,.slice A4 bd.length c4]] w fun e w'=>∃A3' c3' A4' c4',e=.returned (.agg #[.string nm,.int .i64 wd,.int .i64 ln,.slice A3' ds.length c3',.slice A4' bd.length c4'])/\(k70.R 70 w' w.heap.size (fun _=>True) (.slice A3' ds.length c3') ds/\dN.R 119 w' w.heap.size (fun _=>True) (.slice A4' bd.length c4') bd)/\Below w.heap.size w w':=by
 have PAt:=aa hp;have HG:=aa hg;have hlm:=hp.hd.2.1;clear hp hg;go_enter Tryz.func59,Tryz.ntmps59
 go_upto_region 3 with (fail)
 obtain⟨X,hX⟩:∃X,X=((w.alloc (.cells #[.string nm,.int .i64 wd,.int .i64 ln,.slice A3 ds.length c3,.slice A4 bd.length c4] 25)).alloc (.cells #[.string ⟨#[]⟩,.int .i64 0,.int .i64 0,.slice ak 0 0,.slice ak 0 0] 25)).alloc (.cells #[.string nm,.int .i64 wd,.int .i64 ln,.slice ak 0 0,.slice A4 bd.length c4] 25):=⟨_,rfl⟩;rw[←hX]
 have KX:=aa (show Below w.heap.size w X/\X.heap[w.heap.size]? =ag (.cells #[.string nm,.int .i64 wd,.int .i64 ln,.slice A3 ds.length c3,.slice A4 bd.length c4] 25 (0,0))/\X.heap[w.heap.size+1]? =ag (.cells #[.string ⟨#[]⟩,.int .i64 0,.int .i64 0,.slice ak 0 0,.slice ak 0 0] 25 (0,0))/\X.heap[w.heap.size+1+1]? =ag (.cells #[.string nm,.int .i64 wd,.int .i64 ln,.slice ak 0 0,.slice A4 bd.length c4] 25 (0,0)) from by
  rw[hX]
  exact⟨(((ar _ _).alloc (aq _) _).alloc (by simp) _).alloc (by simp;omega) _,eR (eR (aW _ _) _) _,eR (by simpa using aW (w.alloc (.cells #[.string nm,.int .i64 wd,.int .i64 ln,.slice A3 ds.length c3,.slice A4 bd.length c4] 25)) (.cells #[.string ⟨#[]⟩,.int .i64 0,.int .i64 0,.slice ak 0 0,.slice ak 0 0] 25)) _,by simpa using aW ((w.alloc (.cells #[.string nm,.int .i64 wd,.int .i64 ln,.slice A3 ds.length c3,.slice A4 bd.length c4] 25)).alloc (.cells #[.string ⟨#[]⟩,.int .i64 0,.int .i64 0,.slice ak 0 0,.slice ak 0 0] 25)) (.cells #[.string nm,.int .i64 wd,.int .i64 ln,.slice ak 0 0,.slice A4 bd.length c4] 25)⟩)
 clear hX;go_wp2_with fail
 go_loopw [4] (fun i W=>∃(k:Nat) (v:Value),i=.int .i64 k/\k<=ds.length/\Aside0 (Below w.heap.size w W/\W.heap[w.heap.size]? =ag (.cells #[.string nm,.int .i64 wd,.int .i64 ln,.slice A3 ds.length c3,.slice A4 bd.length c4] 25 (0,0))/\W.heap[w.heap.size+1]? =ag (.cells #[.string ⟨#[]⟩,.int .i64 0,.int .i64 0,.slice ak 0 0,.slice ak 0 0] 25 (0,0))/\W.heap[w.heap.size+1+1]? =ag (.cells #[.string nm,.int .i64 wd,.int .i64 ln,v,.slice A4 bd.length c4] 25 (0,0))/\k70.R 70 W w.heap.size (fun b=>w.heap.size+1+1<b) v (ds.take k))) (fun i _=>ds.length - (intOf i).toNat)
 case atStart=>exact⟨0,_,rfl,bk _,⟨KX.out.1,KX.out.2.1,KX.out.2.2.1,KX.out.2.2.2,by rw[jx];exact Kd.iG _ _ _ _ _⟩⟩
 case round=>
  obtain⟨k,v,rfl,hk,HREL⟩:=hrel;have LB:=aa (aX HREL.out.2.2.2.1);have LT:=aa (show ∀b,v.ownBlock=ag b->b<wr.heap.size from by obtain⟨_,inner,ho,_⟩:=HREL.out.2.2.2.2;exact fun b hb=>rK ho b hb);have NE:=aa (show ∀b,b<=w.heap.size+1+1->ag b≠v.ownBlock from fun b hb he=>by have h:=HREL.out.2.2.2.2.1 b he.symm;exact absurd h (jt.2 hb));have z3:wr.cell? ⟨w.heap.size,3,ak⟩=ag (.slice A3 ds.length c3):=(aA HREL.out.2.1 3).trans rfl
  by_cases hlt:k<ds.length
  ·obtain⟨ad,A3d,c3d,e1,q0,q1,q2,q3,l3,g3⟩:=eD PAt.out.hd (k:Int) (bo _) (by omega);cases e1;rw[ax]at q0 q1 q2 q3;replace q0:=aE HREL.out.1 q0;replace q1:=aE HREL.out.1 q1;replace q2:=aE HREL.out.1 q2;replace q3:=aE HREL.out.1 q3;have K:=aa (aj l3 (aj g3 (HG.out.good.ds _ (eJ hlt))));clear l3 g3
   have hi1:(k:Int)<(ds.length:Int):=by omega
   have T:=aa (rS hlt);generalize aI ds (k:Int)=y at*
   go_upto_region 7 with (fail)
   have HO:=aa (show(Kd.int .u64).R 74 (wr.alloc (.cells #[.int .i64 y.f0,.string y.f1,.int .i64 y.f2,.slice A3d y.f3.length c3d] 70)) w.heap.size (fun b=>wr.heap.size<b) (.slice ak 0 0) ([]:List Int) from Kd.iG _ _ _ _ _);have HRC:=aa (Kd.aF K.out.2.1 (HREL.out.1.alloc HREL.out.1.size (.cells #[.int .i64 y.f0,.string y.f1,.int .i64 y.f2,.slice A3d y.f3.length c3d] 70)));have HBX:=aa (HREL.out.1.alloc HREL.out.1.size (.cells #[.int .i64 y.f0,.string y.f1,.int .i64 y.f2,.slice A3d y.f3.length c3d] 70));have HL8:=aa (show(([]:List Int).length+y.f3.length)*8<=140737488355328 from by have:=K.out.2.2.2.2.2.1;simp;omega);have FR:=aa (show ∀b,(wr.alloc (.cells #[.int .i64 y.f0,.string y.f1,.int .i64 y.f2,.slice A3d y.f3.length c3d] 70)).heap.size<=b->wr.heap.size<b from fun b hb=>by simp at hb;omega);clear q0 q1 q2 q3 z3
   go_wp2_with (at_builtin;refine Kd.R_append_row (bh .u64) (0:Int) (w0:=w) w.heap.size rfl (.const (.slice ak 0 0)) (.tmp 21) 36 74 (.int .u64 0) 8 rfl gM mL rfl (by decide) (.slice ak 0 0) [] y.f3 A3d y.f3.length c3d (ok:=fun b=>wr.heap.size<b) rfl rfl FR.out HO.out HRC.out HBX.out HBX.out.size HL8.out ?_)
   intro v5 w1 hr1 hb1 hg1 hat1;obtain⟨Av,cv,rfl⟩:=Kd.bN hr1;have DB:=aa ((hg1.block wr.heap.size (by simp) (by simp[ee])).trans (aW wr (.cells #[.int .i64 y.f0,.string y.f1,.int .i64 y.f2,.slice A3d y.f3.length c3d] 70)));have BL:=aa (show Below wr.heap.size wr w1 from((ar wr.heap.size wr).alloc (aq _) (.cells #[.int .i64 y.f0,.string y.f1,.int .i64 y.f2,.slice A3d y.f3.length c3d] 70)).grown hg1 (by simp) (fun b hb=>by simp[ee]at hb));have R5:=aa (aj hb1 hr1);clear hr1 hb1 hg1 hat1 HO HRC HBX HL8 FR;have d3:=(aA DB.out 3).trans rfl;have f3:=aH DB.out 3
   go_upto_region 8 with (fail)
   obtain⟨X1,hX⟩:∃X,X=w1.setCell ⟨wr.heap.size,3,ak⟩ (.slice Av y.f3.length cv):=⟨_,rfl⟩;rw[←hX];clear d3 f3
   have H1:=aa (show Below wr.heap.size wr X1/\X1.heap[wr.heap.size]? =ag (.cells #[.int .i64 y.f0,.string y.f1,.int .i64 y.f2,.slice Av y.f3.length cv] 70 (0,0))/\(Kd.int .u64).R 74 X1 w.heap.size (fun b=>wr.heap.size<b) (.slice Av y.f3.length cv) y.f3 from by
    rw[hX]
    exact⟨BL.out.setCell (p:=⟨wr.heap.size,3,ak⟩) (aq _) _,bQ DB.out 3 _ rfl,Kd.cP R5.out.2 (p:=⟨wr.heap.size,3,ak⟩) (fun b hb=>fo hb) _⟩)
   clear hX;have B1:=aa (show Below w.heap.size w X1 from HREL.out.1.trans (H1.out.1.mono HREL.out.1.size));have MK:=aa (show k70.M X1 w.heap.size (fun b=>wr.heap.size<b) y [.int .i64 y.f0,.string y.f1,.int .i64 y.f2,.slice Av y.f3.length cv] from k70_mkM X1 w.heap.size _ y H1.out.2.2);have RO:=aa (Kd.bF HREL.out.2.2.2.2 H1.out.1);have OK2:=aa (show ∀b,wr.heap.size<b->w.heap.size+1+1<b/\ag b≠v.ownBlock from fun b hb=>⟨Nat.lt_trans LB.out hb,fY LT.out (Nat.le_of_lt hb)⟩);have FR2:=aa (show ∀b,X1.heap.size<=b->w.heap.size+1+1<b from fun b hb=>br LB.out (bi H1.out.1.size hb));have HL2:=aa (show((ds.take k).length+1)*56<=140737488355328 from by have:=HG.out.good.dl;simp only at this;have:=List.length_take_le k ds;omega);have QB:=aa (aB HREL.out.2.2.2.1 H1.out.1);have q3:=(aA QB.out 3).trans rfl;have d0:=(aA H1.out.2.1 0).trans rfl;have d1:=(aA H1.out.2.1 1).trans rfl;have d2:=(aA H1.out.2.1 2).trans rfl;have d3:=(aA H1.out.2.1 3).trans rfl
   go_wp2_with (at_builtin;refine Kd.cX k70 (w0:=w) w.heap.size rfl (.tmp 25) (.tmp 27) 22 70 zDe 56 rfl under26 info44 rfl (show 0<4 by decide) (by decide) v (ds.take k) y [.int .i64 y.f0,.string y.f1,.int .i64 y.f2,.slice Av y.f3.length cv] (fun b=>w.heap.size+1+1<b) (fun b=>wr.heap.size<b) rfl rfl MK.out OK2.out FR2.out RO.out B1.out B1.out.size HL2.out ?_)
   intro v2 w2 hr2 hb2 hg2 hat2;obtain⟨Av2,cv2,hv2⟩:=Kd.bN hr2;simp only[ba,bq,dm,di hk]at hv2;subst hv2;have E0:=aa ((hg2.block w.heap.size (br (aX HREL.out.2.1) H1.out.1.size) (NE.out _ (by omega))).trans (aB HREL.out.2.1 H1.out.1));have E1:=aa ((hg2.block (w.heap.size+1) (br (aX HREL.out.2.2.1) H1.out.1.size) (NE.out _ (by omega))).trans (aB HREL.out.2.2.1 H1.out.1));have E2:=aa ((hg2.block (w.heap.size+1+1) (br LB.out H1.out.1.size) (NE.out _ (by omega))).trans QB.out);have R2:=aa (aj hb2 hr2);clear hr2 hb2 hg2 hat2 q3 d0 d1 d2 d3;have q3:=(aA E2.out 3).trans rfl;have y3:=aH E2.out 3;go_wp2_with fail;refine⟨⟨k+1,.slice Av2 (k+1) cv2,by go_num,by omega,⟨R2.out.1.setCell (p:=⟨w.heap.size+1+1,3,ak⟩) (show w.heap.size<=w.heap.size+1+1 by omega) _,(dn _ _ _ _ (show w.heap.size≠w.heap.size+1+1 by omega)).trans E0.out,(dn _ _ _ _ (show w.heap.size+1≠w.heap.size+1+1 by omega)).trans E1.out,bQ E2.out 3 _ rfl,?_⟩⟩,by simp[intOf];omega⟩;rw[T.out];exact Kd.cP R2.out.2 (p:=⟨w.heap.size+1+1,3,ak⟩) (fun b hb=>fo hb) _
  ·have hk2:k=ds.length:=by omega
   have HR:=aa (show k70.R 70 wr w.heap.size (fun b=>w.heap.size+1+1<b) v ds from by have h:=HREL.out.2.2.2.2;rw[hk2,eu]at h;exact h);obtain⟨Av,cv,rfl⟩:=Kd.bN HR.out;have LV:=aa (show ds.length<=cv from by obtain⟨A',c',e',l',_⟩:=Kd.cO HR.out;injection e' with _ _ e3;rw[e3];exact l');have z4:wr.cell? ⟨w.heap.size,4,ak⟩=ag (.slice A4 bd.length c4):=(aA HREL.out.2.1 4).trans rfl;have CB:=aa (ownB_calls _ bd (aq _) HG.out.good.bl ((Ot.cV bd).2 HG.out.good.bd) A4 c4 wr (Kd.aF PAt.out.hb HREL.out.1) PAt.out.hlb);clear hk2;go_wp2_with fail;refine CB.out.mono ?_;rintro _ w9 ⟨v9,rfl,hR9,hb9⟩;obtain⟨Av9,cv9,rfl⟩:=Kd.bN hR9;have H9:=aa (aj hb9 hR9);clear hb9 hR9 z3 z4;have QB:=aa (aB HREL.out.2.2.2.1 H9.out.1);have q4:=(aA QB.out 4).trans rfl;have y4:=aH QB.out 4
   go_upto_region 10 with (fail)
   obtain⟨X3,hX⟩:∃X,X=w9.setCell ⟨w.heap.size+1+1,4,ak⟩ (.slice Av9 bd.length cv9):=⟨_,rfl⟩;rw[←hX];clear q4 y4
   have H3:=aa (show Below w.heap.size w X3/\X3.heap[w.heap.size+1]? =ag (.cells #[.string ⟨#[]⟩,.int .i64 0,.int .i64 0,.slice ak 0 0,.slice ak 0 0] 25 (0,0))/\X3.heap[w.heap.size+1+1]? =ag (.cells #[.string nm,.int .i64 wd,.int .i64 ln,.slice Av ds.length cv,.slice Av9 bd.length cv9] 25 (0,0))/\k70.R 70 X3 w.heap.size (fun b=>w.heap.size+1+1<b) (.slice Av ds.length cv) ds/\dN.R 119 X3 w.heap.size (fun b=>w.heap.size+1+1<b) (.slice Av9 bd.length cv9) bd from by
    rw[hX];refine⟨(HREL.out.1.trans (H9.out.1.mono HREL.out.1.size)).setCell (p:=⟨w.heap.size+1+1,4,ak⟩) (show w.heap.size<=w.heap.size+1+1 by omega) _,(dn _ _ _ _ (show w.heap.size+1≠w.heap.size+1+1 by omega)).trans (aB HREL.out.2.2.1 H9.out.1),bQ QB.out 4 _ rfl,?_⟩
    exact⟨Kd.cP (Kd.bF HR.out H9.out.1) (p:=⟨w.heap.size+1+1,4,ak⟩) (fun b hb=>fo hb) _,Kd.cP (Kd.fK (Kd.dW (Kd.d7 H9.out.2) (fun b hb=>br LB.out hb.2.1)) HREL.out.1.size) (p:=⟨w.heap.size+1+1,4,ak⟩) (fun b hb=>fo hb) _⟩)
   clear hX;have r0:X3.cell? ⟨w.heap.size+1,0,ak⟩=ag (.string ⟨#[]⟩):=(aA H3.out.2.1 0).trans rfl;have f0:=aH H3.out.2.1 0;have s0:X3.cell? ⟨w.heap.size+1+1,0,ak⟩=ag (.string nm):=(aA H3.out.2.2.1 0).trans rfl;have r1:X3.cell? ⟨w.heap.size+1,1,ak⟩=ag (.int .i64 0):=(aA H3.out.2.1 1).trans rfl;have f1:=aH H3.out.2.1 1;have s1:X3.cell? ⟨w.heap.size+1+1,1,ak⟩=ag (.int .i64 wd):=(aA H3.out.2.2.1 1).trans rfl;have r2:X3.cell? ⟨w.heap.size+1,2,ak⟩=ag (.int .i64 0):=(aA H3.out.2.1 2).trans rfl;have f2:=aH H3.out.2.1 2;have s2:X3.cell? ⟨w.heap.size+1+1,2,ak⟩=ag (.int .i64 ln):=(aA H3.out.2.2.1 2).trans rfl;have r3:X3.cell? ⟨w.heap.size+1,3,ak⟩=ag (.slice ak 0 0):=(aA H3.out.2.1 3).trans rfl;have f3:=aH H3.out.2.1 3;have s3:X3.cell? ⟨w.heap.size+1+1,3,ak⟩=ag (.slice Av ds.length cv):=(aA H3.out.2.2.1 3).trans rfl;have r4:X3.cell? ⟨w.heap.size+1,4,ak⟩=ag (.slice ak 0 0):=(aA H3.out.2.1 4).trans rfl;have f4:=aH H3.out.2.1 4;have s4:X3.cell? ⟨w.heap.size+1+1,4,ak⟩=ag (.slice Av9 bd.length cv9):=(aA H3.out.2.2.1 4).trans rfl;go_wp2_with fail;refine bodyPost_ret (results_cell_row rfl _ _ (w.heap.size+1) 25 #[.string nm,.int .i64 wd,.int .i64 ln,.slice Av ds.length cv,.slice Av9 bd.length cv9] (0,0) _ rfl (bQ (bQ (bQ (bQ (bQ H3.out.2.1 0 _ rfl) 1 _ rfl) 2 _ rfl) 3 _ rfl) 4 _ rfl) Tryz.underlying25 rfl (by kernel_rfl)) rfl ?_;refine⟨Av,cv,Av9,cv9,rfl,?_,?_⟩
   ·refine⟨Kd.dW (ok:=fun b=>w.heap.size+1+1<b) ?_ (fun _ _=>trivial),Kd.dW (ok:=fun b=>w.heap.size+1+1<b) ?_ (fun _ _=>trivial)⟩
    ·exact(Kd.cP (Kd.cP (Kd.cP (Kd.cP (Kd.cP H3.out.2.2.2.1 (p:=⟨w.heap.size+1,0,ak⟩) (fun b hb=>by show b≠w.heap.size+1;omega) _) (p:=⟨w.heap.size+1,1,ak⟩) (fun b hb=>by show b≠w.heap.size+1;omega) _) (p:=⟨w.heap.size+1,2,ak⟩) (fun b hb=>by show b≠w.heap.size+1;omega) _) (p:=⟨w.heap.size+1,3,ak⟩) (fun b hb=>by show b≠w.heap.size+1;omega) _) (p:=⟨w.heap.size+1,4,ak⟩) (fun b hb=>by show b≠w.heap.size+1;omega) _)
    ·exact(Kd.cP (Kd.cP (Kd.cP (Kd.cP (Kd.cP H3.out.2.2.2.2 (p:=⟨w.heap.size+1,0,ak⟩) (fun b hb=>by show b≠w.heap.size+1;omega) _) (p:=⟨w.heap.size+1,1,ak⟩) (fun b hb=>by show b≠w.heap.size+1;omega) _) (p:=⟨w.heap.size+1,2,ak⟩) (fun b hb=>by show b≠w.heap.size+1;omega) _) (p:=⟨w.heap.size+1,3,ak⟩) (fun b hb=>by show b≠w.heap.size+1;omega) _) (p:=⟨w.heap.size+1,4,ak⟩) (fun b hb=>by show b≠w.heap.size+1;omega) _)
   ·exact((((H3.out.1.setCell (p:=⟨w.heap.size+1,0,ak⟩) (show w.heap.size<=w.heap.size+1 by omega) _).setCell (p:=⟨w.heap.size+1,1,ak⟩) (show w.heap.size<=w.heap.size+1 by omega) _).setCell (p:=⟨w.heap.size+1,2,ak⟩) (show w.heap.size<=w.heap.size+1 by omega) _).setCell (p:=⟨w.heap.size+1,3,ak⟩) (show w.heap.size<=w.heap.size+1 by omega) _).setCell (p:=⟨w.heap.size+1,4,ak⟩) (show w.heap.size<=w.heap.size+1 by omega) _
end
structure S101 where
 f0:Int
 f1:Int
 f2:Int
def z101:S101:=⟨(0:Int),(0:Int),(0:Int)⟩
def lE:Kd S101:=Kd.iso (Kd.pair (Kd.int .i64) (Kd.pair (Kd.int .u64) (Kd.int .u64))) (fun x:S101=>(x.f0,x.f1,x.f2))
theorem k101_open {w:World}{x:S101}{cs:List Value}(h:lE.K w x cs):cs=[.int .i64 x.f0,.int .u64 x.f1,.int .u64 x.f2]:=by
 obtain⟨_,_,rfl,rfl,⟨_,_,rfl,rfl,rfl⟩⟩:=h;exact rfl
theorem k101_mkM (w:World)(base:Nat)(ok:Nat->Prop)(x:S101):lE.M w base ok x [.int .i64 x.f0,.int .u64 x.f1,.int .u64 x.f2]:=⟨[.int .i64 x.f0],[.int .u64 x.f1,.int .u64 x.f2],rfl,rfl,⟨[.int .u64 x.f1],[.int .u64 x.f2],rfl,rfl,rfl⟩⟩
def fJ (xs:List S101)(i:Int):S101:=xs.getD i.toNat z101
theorem lK {w:World}{A:Option Addr}{n:Nat}{xs:List S101}(h:Kd.C lE w A n xs)(i:Int)(h0:0<=i)(h1:i<n):∃ad,A=ag ad/\w.cell? (ad.add (i.toNat*3))=ag (.int .i64 (fJ xs i).f0)/\w.cell? ⟨(ad.add (i.toNat*3)).block,(ad.add (i.toNat*3)).off+1,ak⟩=ag (.int .u64 (fJ xs i).f1)/\w.cell? ⟨(ad.add (i.toNat*3)).block,(ad.add (i.toNat*3)).off+2,ak⟩=ag (.int .u64 (fJ xs i).f2):=by
 obtain⟨ad,c,e,_,hK,hc0⟩:=Kd.oZ h z101 i h0 h1;have hc:∀j u,c[j]? =ag u->w.cell? (ad.add (i.toNat*3+j))=ag u:=hc0;obtain rfl:=k101_open hK;exact⟨ad,e,hc 0 _ rfl,by rw[←cC _ _ 1 (by omega)];exact hc 1 _ rfl,by rw[←cC _ _ 2 (by omega)];exact hc 2 _ rfl⟩
section
attribute [local go_sem] G.cell
def rA (f:Th->Bool):Nat->List Th->Ending
 |_,[]=>.returned (.tuple #[])
 |n,t::r=>if f t=af then .panicked (nI n)else rA f (n+1) r
theorem fG {f:Th->Bool}:∀{n:Nat} {l:List Th},l.any f=ac->rA f n l=.returned (.tuple #[])
 |_,[],_=>rfl
 |n,t::r,h=>by
  rw[jv,Bool.or_eq_false_iff]at h;rw[rA,if_neg (by simp[h.1]),fG h.2]
theorem gW {f:Th->Bool}:∀{n:Nat} {l:List Th},l.any f=af->∃m,rA f n l=.panicked (nI m)
 |_,[],h=>by simp at h
 |n,t::r,h=>by
  rw[rA]
  by_cases ht:f t=af
  ·rw[if_pos ht];exact⟨n,rfl⟩
  ·rw[if_neg ht];rw[jv]at h;exact gW (by simpa[ht]using h)
theorem fH {f:Th->Bool}:∀{n:Nat} {a r:List Th},a.any f=ac->rA f n (a++r)=rA f (n+a.length) r
 |_,[],_,_=>rfl
 |n,t::s,r,h=>by
  rw[jv,Bool.or_eq_false_iff]at h;rw[gp,rA,if_neg (by simp[h.1]),fH h.2,jn]
  congr 1
  omega
theorem gG {f:Th->Bool}:∀{n:Nat} {m r:List Th},m.any f=af->rA f n (m++r)=rA f n m
 |_,[],_,h=>by simp at h
 |n,t::s,r,h=>by
  rw[gp,rA,rA]
  by_cases ht:f t=af
  ·rw[if_pos ht,if_pos ht]
  ·rw[if_neg ht,if_neg ht];rw[jv]at h;exact gG (by simpa[ht]using h)
theorem d9.ptr {W:World}{v:Value}{lo:List ByteArray}(h:d9 W v lo):∃q,v=.pointer q:=by
 cases lo with
 |nil=>exact⟨ak,h⟩
 |cons nm r=>obtain⟨b,nx,hv,_⟩:=h;exact⟨_,hv⟩
theorem addr_eta {w:World}{a:Addr}{v:Value}(h:w.cell? a=ag v):a=⟨a.block,a.off,ak⟩:=by
 obtain⟨b,o,s⟩:=a
 cases s with
 |none=>rfl
 |some s=>
  unfold World.cell? at h
  simp at h
  split at h <;> simp at h
theorem ex_kid {Wb:World}{A:Option Addr}{n:Nat}{l:List S116}(h:dC.C Wb A n l){k:Nat}(hk:k<n):∃ad,A=ag ad/\ExAt Wb (.pointer (ag (ad.add (k*4)))) (bR l (k:Int)):=by
 obtain⟨ad,A3,c3,e,q0,q1,q2,q3,l3,g3⟩:=iD h (k:Int) (bo _) (by omega);rw[ax]at q0 q1 q2 q3;have he:=addr_eta q0;refine⟨ad,e,ad.add (k*4),A3,c3,by rw[←he],?_,l3,g3⟩;intro j v hj
 match j,hj with
 |0,hj=>simp at hj;subst hj;rw[gm,←he];exact q0
 |1,hj=>simp at hj;subst hj;exact q1
 |2,hj=>simp at hj;subst hj;rw[←q2]
 |3,hj=>simp at hj;subst hj;rw[←q3]
 |j+4,hj=>simp at hj
theorem exThs_app (a b:List S116)(lo:List ByteArray):e7 (a++b) lo=e7 a lo++e7 b lo:=by
 induction a with
 |nil=>simp[e7]
 |cons x r ih=>rw[gp,e7,ih,e7,dr]
theorem tD (l:List S116)(k:Nat)(hk:k<l.length)(lo:List ByteArray):e7 l lo=e7 (l.take k) lo++(eB (bR l (k:Int)) lo++e7 (l.drop (k+1)) lo):=by
 have h:=exThs_app (l.take (k+1)) (l.drop (k+1)) lo;rw[List.take_append_drop,dS hk,r7,dr]at h;exact h
def WExpr (Wb:World)(bw b:Nat)(R:Th->Prop)(f:Th->Bool)(e:S116):Prop:=∀(W:World) (n:Nat) (p lp:Value) (lo:List ByteArray),(∀t∈eB e lo,R t)->Below Wb.heap.size Wb W->W.heap[b]? =ag (.cells #[.int .i64 n,seeV bw] 183 (0,0))->ExAt Wb p e->d9 W lp lo.reverse->n+aM e<4611686018427387904->
 Calls au 169 #[.pointer (ag ⟨b,0,ak⟩),p,lp] W fun r W'=>r=rA f n (eB e lo)/\((eB e lo).any f=ac->W'.heap[b]? =ag (.cells #[.int .i64 ((n+aM e:Nat):Int),seeV bw] 183 (0,0)))/\Gw Wb W W' b
theorem wexpr_walk {Wb:World}{bw b:Nat}{R:Th->Prop}{f:Th->Bool}(hs:SeeOK Wb bw R f)(hbb:Wb.heap.size<=b)(e:S116)(ih:∀y∈e.f3,WExpr Wb bw b R f y):WExpr Wb bw b R f e:=by
 intro W n p lp lo hRR hB hw hx hsc hn;have HX:=aa hx;obtain⟨lq,rfl⟩:=hsc.ptr;obtain⟨a,A,c,rfl,hr,hl,hC⟩:=hx;have HS:=aa hs;have HRR:=aa hRR;clear hRR;have HW:=aa hw;have HB:=aa hB;have HBB:=aa hbb;have HSC:=aa hsc;have HN:=aa hn;have IH:=aa ih;have HRG:=aa hr;have HC:=aa hC;have hlm:=hC.2.1;clear hs hw hB hbb hsc hn ih hr hC;go_enter Tryz.func169,Tryz.ntmps169;go_wp2_with fail;refine(oO HS.out HBB.out W n (by have:=HN.out;omega) (.pointer ak) (.pointer ak) (.pointer (ag ⟨a.block,a.off,ak⟩)) 0 0 (.pointer lq) (.expr e lo) (HRR.out _ (by rw[iR];exact ig)) HB.out HW.out ⟨rfl,rfl,HX.out,rfl,HSC.out⟩).mono ?_;rintro _ W1 ⟨rfl,hw1,hg1⟩
 rcases aL (f (.expr e lo))with hf | hf
 ·rw[hf];refine⟨rfl,?_,?_,hg1⟩
  ·rw[iR,rA,if_pos hf]
  ·intro h;rw[iR,jv,hf]at h;cases h
 rw[hf];have HF:=aa hf;have HR1:=aa (aj hw1 hg1);have z3:W1.cell? ⟨a.block,a.off+3,ak⟩=ag (.slice A e.f3.length c):=aE hg1.below (HRG.out 3 _ rfl);clear hw1 hg1 hf;rw[show outE ac n=.returned (.tuple #[]) from rfl];go_wp2_with fail
 go_loopw [17] (fun i W=>∃(k:Nat) (W2:World),i=.int .i64 k/\W2=W/\k<=e.f3.length/\Aside0 (W2.heap[b]? =ag (.cells #[.int .i64 ((n+1+bM (e.f3.take k):Nat):Int),seeV bw] 183 (0,0))/\Gw Wb W1 W2 b/\(e7 (e.f3.take k) lo).any f=ac)) (fun i _=>e.f3.length - (intOf i).toNat)
 case atStart=>exact⟨0,_,rfl,rfl,bk _,⟨by simpa[bM]using HR1.out.1,⟨HR1.out.2.below,⟨rfl,rfl,rfl,aq _,fun _ _ _=>rfl⟩⟩,by simp[e7]⟩⟩
 case round=>
  obtain⟨k,W2,rfl,rfl,hk,HK⟩:=hrel
  by_cases hlt:k<e.f3.length
  ·obtain⟨ad,e1,hkid⟩:=ex_kid HC.out hlt;cases e1;have HKID:=aa hkid;clear hkid
   have hk1:(k:Int)<(e.f3.length:Int):=by omega
   have z3:W2.cell? ⟨a.block,a.off+3,ak⟩=ag (.slice (ag ad) e.f3.length c):=aE HK.out.2.1.below (HRG.out 3 _ rfl);have MEM:=aa (gS hlt);have T:=aa (aj (congrArg bM (dS hlt)) (congrArg (fun l=>e7 l lo) (dS hlt)));have SP:=aa (tD e.f3 k hlt lo);have WT:=aa (fP e.f3 (k+1));obtain⟨y,hy⟩:∃y,y=bR e.f3 (k:Int):=⟨_,rfl⟩;rw[←hy]at HKID MEM T SP;clear hy
   have HNY:n+1+bM (e.f3.take k)+aM y<4611686018427387904:=by
    have h1:=HN.out;have h2:=T.out.1;have h3:=WT.out;rw[eI]at h2;rw[eE]at h1;omega
   have HNY:=aa HNY;go_wp2_with fail;refine(IH.out _ MEM.out W2 (n+1+bM (e.f3.take k)) (.pointer (ag (ad.add (k*4)))) (.pointer lq) lo (fun t ht=>HRR.out t (by rw[iR,SP.out];simp[ht])) HK.out.2.1.below HK.out.1 HKID.out (((HSC.out.step HW.out HR1.out.2.grown)).step HR1.out.1 HK.out.2.1.grown) HNY.out).mono ?_;rintro _ W3 ⟨rfl,hw3,hg3⟩
   rcases aL ((eB y lo).any f)with ha | ha
   ·obtain⟨m,hm⟩:=gW (n:=n+1+bM (e.f3.take k)) ha;rw[hm];refine⟨rfl,?_,?_,HR1.out.2.trans (HK.out.2.1.trans hg3)⟩
    ·rw[iR,rA,if_neg (by simp[HF.out]),SP.out,fH HK.out.2.2,gG ha,nZ,←hm]
    ·intro h;rw[iR,SP.out]at h;simp[ha]at h
   ·rw[fG ha];have HA:=aa ha;have HR3:=aa (aj (hw3 ha) hg3);clear ha hw3 hg3;go_wp2_with fail;refine⟨⟨k+1,W3,by go_num,rfl,by omega,⟨?_,HK.out.2.1.trans HR3.out.2,?_⟩⟩,by simp[intOf];omega⟩
    ·have h1:=HR3.out.1;have h2:=T.out.1;rw[eI]at h2;rw[h2,←ja];exact h1
    ·have h2:=T.out.2;simp only[r7]at h2;rw[h2,il,HK.out.2.2,HA.out];rfl
  ·go_wp2_with fail
   first | go_end0 | skip
   have hke:k=e.f3.length:=by omega
   have h1:=HK.out;rw[hke,eu]at h1
   have ha:(eB e lo).any f=ac:=by rw[iR,jv,HF.out,h1.2.2];rfl
   refine⟨(fG ha).symm,fun _=> ?_,HR1.out.2.trans h1.2.1⟩;rw[eE,←ja];exact h1.1
theorem kX {Wb:World}{bw b:Nat}{R:Th->Prop}{f:Th->Bool}(hs:SeeOK Wb bw R f)(hbb:Wb.heap.size<=b):∀(n:Nat) (e:S116),cz e<=n->WExpr Wb bw b R f e:=by
 intro n
 induction n with
 |zero=>intro e h;obtain⟨a,b,s,l⟩:=e;simp at h
 |succ n ih=>exact fun e h=>wexpr_walk hs hbb e fun y hy=>ih y (eV rfl hy h)
end
section
attribute [local go_sem] G.cell
theorem st_kid {Wb:World}{A:Option Addr}{n:Nat}{l:List S119}(h:dN.C Wb A n l){k:Nat}(hk:k<n):∃ad bb oo A5 c5 A9 c9 A12 c12 A13 c13,A=ag ad/\ad.add (k*14)=⟨bb,oo,ak⟩/\
 Wb.rangeAt bb oo [.int .i64 (aR l (k:Int)).f0,.string (aR l (k:Int)).f1,.int .i64 (aR l (k:Int)).f2.f0,.int .u64 (aR l (k:Int)).f2.f1,.string (aR l (k:Int)).f2.f2,.slice A5 (aR l (k:Int)).f2.f3.length c5,.int .i64 (aR l (k:Int)).f3.f0,.int .u64 (aR l (k:Int)).f3.f1,.string (aR l (k:Int)).f3.f2,.slice A9 (aR l (k:Int)).f3.f3.length c9,.int .u64 (aR l (k:Int)).f4,.int .u64 (aR l (k:Int)).f5,.slice A12 (aR l (k:Int)).f6.length c12,.slice A13 (aR l (k:Int)).f7.length c13]/\
 (aR l (k:Int)).f2.f3.length<=c5/\dC.C Wb A5 (aR l (k:Int)).f2.f3.length (aR l (k:Int)).f2.f3/\(aR l (k:Int)).f3.f3.length<=c9/\dC.C Wb A9 (aR l (k:Int)).f3.f3.length (aR l (k:Int)).f3.f3/\
 (aR l (k:Int)).f6.length<=c12/\dN.C Wb A12 (aR l (k:Int)).f6.length (aR l (k:Int)).f6/\(aR l (k:Int)).f7.length<=c13/\dN.C Wb A13 (aR l (k:Int)).f7.length (aR l (k:Int)).f7:=by
 obtain⟨ad,A5,c5,A9,c9,A12,c12,A13,c13,e,q0,q1,q2,q3,q4,q5,q6,q7,q8,q9,q10,q11,q12,q13,l5,g5,l9,g9,l12,g12,l13,g13⟩:=jX h (k:Int) (bo _) (by omega);rw[ax]at q0 q1 q2 q3 q4 q5 q6 q7 q8 q9 q10 q11 q12 q13;have he:=addr_eta q0;refine⟨ad,(ad.add (k*14)).block,(ad.add (k*14)).off,A5,c5,A9,c9,A12,c12,A13,c13,e,he,?_,l5,g5,l9,g9,l12,g12,l13,g13⟩;intro j v hj
 match j,hj with
 |0,hj=>simp at hj;subst hj;rw[gm,←he];exact q0
 |1,hj=>simp at hj;subst hj;exact q1
 |2,hj=>simp at hj;subst hj;exact q2
 |3,hj=>simp at hj;subst hj;exact q3
 |4,hj=>simp at hj;subst hj;exact q4
 |5,hj=>simp at hj;subst hj;exact q5
 |6,hj=>simp at hj;subst hj;exact q6
 |7,hj=>simp at hj;subst hj;exact q7
 |8,hj=>simp at hj;subst hj;exact q8
 |9,hj=>simp at hj;subst hj;exact q9
 |10,hj=>simp at hj;subst hj;exact q10
 |11,hj=>simp at hj;subst hj;exact q11
 |12,hj=>simp at hj;subst hj;exact q12
 |13,hj=>simp at hj;subst hj;exact q13
 |j+14,hj=>simp at hj
theorem range_sub {w:World}{b o:Nat}{cs ds:List Value}(k:Nat)(h:w.rangeAt b o cs)(hd:∀(j:Nat) (v:Value),ds[j]? =ag v->cs[k+j]? =ag v):w.rangeAt b (o+k) ds:=fun j v hj=>by
 rw[ja];exact h (k+j) v (hd j v hj)
theorem stThs_app (a b:List S119)(d:Nat)(lo:List ByteArray):aN (a++b) d lo=aN a d lo++aN b d lo:=by
 induction a with
 |nil=>simp[aN]
 |cons x r ih=>rw[gp,aN,ih,aN,dr]
theorem stThs_split (l:List S119)(k:Nat)(hk:k<l.length)(d:Nat)(lo:List ByteArray):aN l d lo=aN (l.take k) d lo++(stTh (aR l (k:Int)) d lo++aN (l.drop (k+1)) d lo):=by
 have h:=stThs_app (l.take (k+1)) (l.drop (k+1)) d lo;rw[List.take_append_drop,e9 hk,eU,dr]at h;exact h
theorem st_form {x:S119}(h:stB x=af):1<=x.f0/\x.f0<=5/\(x.f0=1\/x.f0=2\/x.f0=5->x.f6=[]/\x.f7=[])/\(x.f0=4->x.f7=[])/\bdB x.f6=af/\bdB x.f7=af:=by
 rw[pO]at h;simp only[cb]at h;obtain⟨⟨h0,h6⟩,h7⟩:=h;unfold aY at h0;simp only[cb,decide_eq_true_eq]at h0;obtain⟨⟨⟨⟨⟨⟨⟨h1,h2⟩,_⟩,_⟩,_⟩,_⟩,h8⟩,h9⟩:=h0;refine⟨h1,h2,fun hk=>⟨?_,?_⟩,fun hk=> ?_,h6,h7⟩
 ·rw[if_neg (by omega)]at h8;exact ik.1 h8
 ·rw[if_neg (by omega)]at h9;exact ik.1 h9
 ·rw[if_neg (by omega)]at h9;exact ik.1 h9
theorem bd_mem {l:List S119}(h:bdB l=af){x:S119}(hx:x∈l):stB x=af:=by
 rw[lT,fw]at h;exact h x hx
def WStmts (Wb:World)(bw b:Nat)(R:Th->Prop)(f:Th->Bool)(l:List S119):Prop:=∀(W:World) (n:Nat) (lp:Value) (lo:List ByteArray) (A:Option Addr) (c d:Nat) (dI:Int),(∀t∈aN l d lo,R t)->dI=(d:Int)->bdB l=af->Below Wb.heap.size Wb W->W.heap[b]? =ag (.cells #[.int .i64 n,seeV bw] 183 (0,0))->dN.C Wb A l.length l->l.length<=c->d9 W lp lo.reverse->n+(aN l d lo).length<4611686018427387904->d+Ot.cK l<4611686018427387904->
 Calls au 123 #[.pointer (ag ⟨b,0,ak⟩),.slice A l.length c,.int .i64 dI,lp] W fun r W'=>r=rA f n (aN l d lo)/\((aN l d lo).any f=ac->W'.heap[b]? =ag (.cells #[.int .i64 ((n+(aN l d lo).length:Nat):Int),seeV bw] 183 (0,0)))/\Gw Wb W W' b
theorem wstmts_walk {Wb:World}{bw b:Nat}{R:Th->Prop}{f:Th->Bool}(hs:SeeOK Wb bw R f)(hbb:Wb.heap.size<=b)(l:List S119)(ih:∀x∈l,WStmts Wb bw b R f x.f6/\WStmts Wb bw b R f x.f7):WStmts Wb bw b R f l:=by
 intro W n lp lo A c d dI hRR hdI hform hB hw hC hl hsc hn hd;obtain⟨lq,rfl⟩:=hsc.ptr;subst hdI;have HS:=aa hs;have HRR:=aa hRR;clear hRR;have HW:=aa hw;have HB:=aa hB;have HBB:=aa hbb;have HSC:=aa hsc;have HN:=aa (aj hn hd);have IH:=aa ih;have HF:=aa hform;have HC:=aa hC;have hlm:=hC.2.1;clear hs hw hB hbb hsc hn hd ih hform hC;go_enter Tryz.func123,Tryz.ntmps123;go_wp2_with fail
 go_loopw [12] (fun i W3=>∃(k:Nat) (W2:World),i=.int .i64 k/\W2=W3/\k<=l.length/\Aside0 (W2.heap[b]? =ag (.cells #[.int .i64 ((n+(aN (l.take k) d lo).length:Nat):Int),seeV bw] 183 (0,0))/\Gw Wb W W2 b/\(aN (l.take k) d lo).any f=ac)) (fun i _=>l.length - (intOf i).toNat)
 case atStart=>exact⟨0,_,rfl,rfl,bk _,⟨by simpa[aN]using HW.out,⟨HB.out,⟨rfl,rfl,rfl,aq _,fun _ _ _=>rfl⟩⟩,by simp[aN]⟩⟩
 case round=>
  obtain⟨k,W2,rfl,rfl,hk,HK⟩:=hrel
  by_cases hlt:k<l.length
  ·obtain⟨ad,bb,oo,A5,c5,A9,c9,A12,c12,A13,c13,e1,he,hrg,l5,g5,l9,g9,l12,g12,l13,g13⟩:=st_kid HC.out hlt;cases e1
   have hk1:(k:Int)<(l.length:Int):=by omega
   have MEM:=j5 hlt;have IH1:=aa (IH.out _ MEM);have FM:=aa (st_form (bd_mem HF.out MEM));have BK:=aa (aj (j9 MEM) (bO (aR l (k:Int))));have SP:=aa (stThs_split l k hlt d lo);have T:=aa (congrArg (fun l=>aN l d lo) (e9 hlt));clear MEM
   have kk:(aR l (k:Int)).f0=1\/(aR l (k:Int)).f0=2\/(aR l (k:Int)).f0=3\/(aR l (k:Int)).f0=4\/(aR l (k:Int)).f0=5:=by have:=FM.out.1;have:=FM.out.2.1;omega
   generalize aR l (k:Int)=y at*;have ST:=aa (show StAt Wb (.pointer (ag ⟨bb,oo,ak⟩)) y from⟨⟨bb,oo,ak⟩,A5,c5,A9,c9,A12,c12,A13,c13,rfl,hrg,l5,g5,l9,g9,l12,g12,l13,g13⟩);have EA:=aa (show ExAt Wb (.pointer (ag ⟨bb,oo+2,ak⟩)) y.f2 from⟨⟨bb,oo+2,ak⟩,A5,c5,rfl,range_sub 2 hrg (fun j v hj=>by match j,hj with | 0,hj=>exact hj | 1,hj=>exact hj | 2,hj=>exact hj | 3,hj=>exact hj | j+4,hj=>simp at hj),l5,g5⟩);have EE:=aa (show ExAt Wb (.pointer (ag ⟨bb,oo+6,ak⟩)) y.f3 from⟨⟨bb,oo+6,ak⟩,A9,c9,rfl,range_sub 6 hrg (fun j v hj=>by match j,hj with | 0,hj=>exact hj | 1,hj=>exact hj | 2,hj=>exact hj | 3,hj=>exact hj | j+4,hj=>simp at hj),l9,g9⟩);have RG:=aa hrg;have K:=aa (aj l12 (aj g12 (aj l13 g13)));clear hrg l5 g5 l9 g9 l12 g12 l13 g13;have NB:=aa (show n+(aN (l.take k) d lo).length+((stTh y d lo).length+(aN (l.drop (k+1)) d lo).length)<4611686018427387904 by have h1:=HN.out.1;rw[SP.out,ba,ba]at h1;omega);go_wp2_with fail;refine(oO HS.out HBB.out W2 (n+(aN (l.take k) d lo).length) (by have:=NB.out;omega) (.pointer ak) (.pointer (ag ⟨bb,oo,ak⟩)) (.pointer ak) 0 (d:Int) (.pointer lq) (.stmt y d lo) (HRR.out _ (by rw[SP.out,d6];simp)) HK.out.2.1.below HK.out.1 ⟨rfl,ST.out,rfl,rfl,HSC.out.step HW.out HK.out.2.1.grown⟩).mono ?_;rintro _ W3 ⟨rfl,hw1,hg1⟩
   rcases aL (f (.stmt y d lo))with hf | hf
   ·rw[hf];refine⟨rfl,?_,?_,HK.out.2.1.trans hg1⟩
    ·rw[SP.out,fH HK.out.2.2,d6,gp,rA,if_pos hf]
    ·intro h;rw[SP.out,d6,il,il,jv,hf]at h
     simp at h
   rw[hf];have H1:=aa (show W3.heap[b]? =ag (.cells #[.int .i64 ((n+(aN (l.take k) d lo++[Th.stmt y d lo]).length:Nat):Int),seeV bw] 183 (0,0))/\Gw Wb W W3 b/\(aN (l.take k) d lo++[Th.stmt y d lo]).any f=ac from⟨by rw[ba,bq,←ja];exact hw1,HK.out.2.1.trans hg1,by rw[il,HK.out.2.2];simp[hf]⟩);clear hw1 hg1 hf;rw[show outE ac (n+(aN (l.take k) d lo).length)=.returned (.tuple #[]) from rfl];have q0:W3.cell? ⟨bb,oo,ak⟩=ag (.int .i64 y.f0):=aE H1.out.2.1.below (RG.out 0 _ rfl)
   rcases kk with h0 | h0 | h0 | h0 | h0
   ·rw[h0]at q0;have H0:=aa h0;clear h0
    have SPK:=aa (show stTh y d lo=Th.stmt y d lo::((eB y.f3 lo)) by
     have FE:=FM.out.2.2.1 (by have:=H0.out;omega);rw[d6]
     simp[H0.out,FE.1,FE.2,aN])
    go_wp2_with fail;have FULL:=aa (show aN l d lo=(aN (l.take k) d lo++[Th.stmt y d lo])++(eB y.f3 lo++(aN (l.drop (k+1)) d lo)) by rw[SP.out,SPK.out];simp);have BN:=aa (show n+(aN (l.take k) d lo++[Th.stmt y d lo]).length+(eB y.f3 lo).length<4611686018427387904 by have h1:=HN.out.1;rw[FULL.out]at h1;simp only[ba]at h1 ⊢;omega);have C:=kX HS.out HBB.out _ y.f3 (aq _) W3 (n+(aN (l.take k) d lo++[Th.stmt y d lo]).length) (.pointer (ag ⟨bb,oo+6,ak⟩)) (.pointer lq) lo (fun t ht=>HRR.out t (by rw[FULL.out];simp[ht])) H1.out.2.1.below H1.out.1 EE.out (HSC.out.step HW.out H1.out.2.1.grown) (by have:=BN.out;rw[cH]at this;exact this);refine C.mono ?_;clear C;rintro _ W4 ⟨rfl,hw3,hg3⟩
    rcases aL ((eB y.f3 lo).any f)with ha | ha
    ·obtain⟨mm,hm⟩:=gW (n:=n+(aN (l.take k) d lo++[Th.stmt y d lo]).length) ha;rw[hm];refine⟨rfl,?_,?_,H1.out.2.1.trans hg3⟩
     ·rw[FULL.out,fH H1.out.2.2,gG ha,←hm]
     ·intro h;rw[FULL.out]at h;simp[ha]at h
    have H2:=aa (show W4.heap[b]? =ag (.cells #[.int .i64 ((n+(aN (l.take k) d lo++[Th.stmt y d lo]++eB y.f3 lo).length:Nat):Int),seeV bw] 183 (0,0))/\Gw Wb W W4 b/\(aN (l.take k) d lo++[Th.stmt y d lo]++eB y.f3 lo).any f=ac from⟨by rw[ba,cH,←ja];exact hw3 ha,H1.out.2.1.trans hg3,by rw[il,H1.out.2.2,ha];rfl⟩);rw[fG ha];clear ha hw3 hg3 FULL BN;go_wp2_with fail
    have HX:=aa (show aN (l.take k) d lo++[Th.stmt y d lo]++eB y.f3 lo=aN (l.take (k+1)) d lo by
     have h2:=T.out;simp only[eU]at h2
     rw[h2,SPK.out] <;> simp)
    refine⟨⟨k+1,W4,by go_num,rfl,by omega,⟨?_,H2.out.2.1,?_⟩⟩,by simp[intOf];omega⟩
    ·rw[←HX.out];exact H2.out.1
    ·rw[←HX.out];exact H2.out.2.2
   ·rw[h0]at q0;have H0:=aa h0;clear h0
    have SPK:=aa (show stTh y d lo=Th.stmt y d lo::((eB y.f2 lo)++(eB y.f3 lo)) by
     have FE:=FM.out.2.2.1 (by have:=H0.out;omega);rw[d6]
     simp[H0.out,FE.1,FE.2,aN])
    go_wp2_with fail;have FULL:=aa (show aN l d lo=(aN (l.take k) d lo++[Th.stmt y d lo])++(eB y.f2 lo++(eB y.f3 lo++(aN (l.drop (k+1)) d lo))) by rw[SP.out,SPK.out];simp);have BN:=aa (show n+(aN (l.take k) d lo++[Th.stmt y d lo]).length+(eB y.f2 lo).length<4611686018427387904 by have h1:=HN.out.1;rw[FULL.out]at h1;simp only[ba]at h1 ⊢;omega);have C:=kX HS.out HBB.out _ y.f2 (aq _) W3 (n+(aN (l.take k) d lo++[Th.stmt y d lo]).length) (.pointer (ag ⟨bb,oo+2,ak⟩)) (.pointer lq) lo (fun t ht=>HRR.out t (by rw[FULL.out];simp[ht])) H1.out.2.1.below H1.out.1 EA.out (HSC.out.step HW.out H1.out.2.1.grown) (by have:=BN.out;rw[cH]at this;exact this);refine C.mono ?_;clear C;rintro _ W4 ⟨rfl,hw3,hg3⟩
    rcases aL ((eB y.f2 lo).any f)with ha | ha
    ·obtain⟨mm,hm⟩:=gW (n:=n+(aN (l.take k) d lo++[Th.stmt y d lo]).length) ha;rw[hm];refine⟨rfl,?_,?_,H1.out.2.1.trans hg3⟩
     ·rw[FULL.out,fH H1.out.2.2,gG ha,←hm]
     ·intro h;rw[FULL.out]at h;simp[ha]at h
    have H2:=aa (show W4.heap[b]? =ag (.cells #[.int .i64 ((n+(aN (l.take k) d lo++[Th.stmt y d lo]++eB y.f2 lo).length:Nat):Int),seeV bw] 183 (0,0))/\Gw Wb W W4 b/\(aN (l.take k) d lo++[Th.stmt y d lo]++eB y.f2 lo).any f=ac from⟨by rw[ba,cH,←ja];exact hw3 ha,H1.out.2.1.trans hg3,by rw[il,H1.out.2.2,ha];rfl⟩);rw[fG ha];clear ha hw3 hg3 FULL BN;go_wp2_with fail;have FULL:=aa (show aN l d lo=(aN (l.take k) d lo++[Th.stmt y d lo]++eB y.f2 lo)++(eB y.f3 lo++(aN (l.drop (k+1)) d lo)) by rw[SP.out,SPK.out];simp);have BN:=aa (show n+(aN (l.take k) d lo++[Th.stmt y d lo]++eB y.f2 lo).length+(eB y.f3 lo).length<4611686018427387904 by have h1:=HN.out.1;rw[FULL.out]at h1;simp only[ba]at h1 ⊢;omega);have C:=kX HS.out HBB.out _ y.f3 (aq _) W4 (n+(aN (l.take k) d lo++[Th.stmt y d lo]++eB y.f2 lo).length) (.pointer (ag ⟨bb,oo+6,ak⟩)) (.pointer lq) lo (fun t ht=>HRR.out t (by rw[FULL.out];simp[ht])) H2.out.2.1.below H2.out.1 EE.out (HSC.out.step HW.out H2.out.2.1.grown) (by have:=BN.out;rw[cH]at this;exact this);refine C.mono ?_;clear C;rintro _ W5 ⟨rfl,hw3,hg3⟩
    rcases aL ((eB y.f3 lo).any f)with ha | ha
    ·obtain⟨mm,hm⟩:=gW (n:=n+(aN (l.take k) d lo++[Th.stmt y d lo]++eB y.f2 lo).length) ha;rw[hm];refine⟨rfl,?_,?_,H2.out.2.1.trans hg3⟩
     ·rw[FULL.out,fH H2.out.2.2,gG ha,←hm]
     ·intro h;rw[FULL.out]at h;simp[ha]at h
    have H3:=aa (show W5.heap[b]? =ag (.cells #[.int .i64 ((n+(aN (l.take k) d lo++[Th.stmt y d lo]++eB y.f2 lo++eB y.f3 lo).length:Nat):Int),seeV bw] 183 (0,0))/\Gw Wb W W5 b/\(aN (l.take k) d lo++[Th.stmt y d lo]++eB y.f2 lo++eB y.f3 lo).any f=ac from⟨by rw[ba,cH,←ja];exact hw3 ha,H2.out.2.1.trans hg3,by rw[il,H2.out.2.2,ha];rfl⟩);rw[fG ha];clear ha hw3 hg3 FULL BN;go_wp2_with fail
    have HX:=aa (show aN (l.take k) d lo++[Th.stmt y d lo]++eB y.f2 lo++eB y.f3 lo=aN (l.take (k+1)) d lo by
     have h2:=T.out;simp only[eU]at h2
     rw[h2,SPK.out] <;> simp)
    refine⟨⟨k+1,W5,by go_num,rfl,by omega,⟨?_,H3.out.2.1,?_⟩⟩,by simp[intOf];omega⟩
    ·rw[←HX.out];exact H3.out.1
    ·rw[←HX.out];exact H3.out.2.2
   ·rw[h0]at q0;have H0:=aa h0;clear h0
    have SPK:=aa (show stTh y d lo=Th.stmt y d lo::((eB y.f3 lo)++(aN y.f6 (d+1) lo)++(aN y.f7 (d+1) lo)) by
     skip
     rw[d6]
     simp[H0.out,inLoop])
    have KQ:=aa (aj (RG.out 12 _ rfl) (RG.out 13 _ rfl));go_wp2_with fail;have FULL:=aa (show aN l d lo=(aN (l.take k) d lo++[Th.stmt y d lo])++(eB y.f3 lo++(aN y.f6 (d+1) lo++(aN y.f7 (d+1) lo++(aN (l.drop (k+1)) d lo)))) by rw[SP.out,SPK.out];simp);have BN:=aa (show n+(aN (l.take k) d lo++[Th.stmt y d lo]).length+(eB y.f3 lo).length<4611686018427387904 by have h1:=HN.out.1;rw[FULL.out]at h1;simp only[ba]at h1 ⊢;omega);have C:=kX HS.out HBB.out _ y.f3 (aq _) W3 (n+(aN (l.take k) d lo++[Th.stmt y d lo]).length) (.pointer (ag ⟨bb,oo+6,ak⟩)) (.pointer lq) lo (fun t ht=>HRR.out t (by rw[FULL.out];simp[ht])) H1.out.2.1.below H1.out.1 EE.out (HSC.out.step HW.out H1.out.2.1.grown) (by have:=BN.out;rw[cH]at this;exact this);refine C.mono ?_;clear C;rintro _ W4 ⟨rfl,hw3,hg3⟩
    rcases aL ((eB y.f3 lo).any f)with ha | ha
    ·obtain⟨mm,hm⟩:=gW (n:=n+(aN (l.take k) d lo++[Th.stmt y d lo]).length) ha;rw[hm];refine⟨rfl,?_,?_,H1.out.2.1.trans hg3⟩
     ·rw[FULL.out,fH H1.out.2.2,gG ha,←hm]
     ·intro h;rw[FULL.out]at h;simp[ha]at h
    have H2:=aa (show W4.heap[b]? =ag (.cells #[.int .i64 ((n+(aN (l.take k) d lo++[Th.stmt y d lo]++eB y.f3 lo).length:Nat):Int),seeV bw] 183 (0,0))/\Gw Wb W W4 b/\(aN (l.take k) d lo++[Th.stmt y d lo]++eB y.f3 lo).any f=ac from⟨by rw[ba,cH,←ja];exact hw3 ha,H1.out.2.1.trans hg3,by rw[il,H1.out.2.2,ha];rfl⟩);rw[fG ha];clear ha hw3 hg3 FULL BN;have q20:W4.cell? ⟨bb,oo+12,ak⟩=ag (.slice A12 y.f6.length c12):=aE H2.out.2.1.below KQ.out.1;go_wp2_with fail;have FULL:=aa (show aN l d lo=(aN (l.take k) d lo++[Th.stmt y d lo]++eB y.f3 lo)++(aN y.f6 (d+1) lo++(aN y.f7 (d+1) lo++(aN (l.drop (k+1)) d lo))) by rw[SP.out,SPK.out];simp);have BN:=aa (show n+(aN (l.take k) d lo++[Th.stmt y d lo]++eB y.f3 lo).length+(aN y.f6 (d+1) lo).length<4611686018427387904 by have h1:=HN.out.1;rw[FULL.out]at h1;simp only[ba]at h1 ⊢;omega);have C:=IH1.out.1 W4 (n+(aN (l.take k) d lo++[Th.stmt y d lo]++eB y.f3 lo).length) (.pointer lq) lo A12 c12 (d+1) (wrap64 ((d:Int)+1)) (fun t ht=>HRR.out t (by rw[FULL.out];simp[ht])) (lO (by have:=HN.out.2;omega)) FM.out.2.2.2.2.1 H2.out.2.1.below H2.out.1 K.out.2.1 K.out.1 (HSC.out.step HW.out H2.out.2.1.grown) BN.out (by have h1:=HN.out.2;have h2:=BK.out;omega);refine C.mono ?_;clear C;rintro _ W5 ⟨rfl,hw3,hg3⟩
    rcases aL ((aN y.f6 (d+1) lo).any f)with ha | ha
    ·obtain⟨mm,hm⟩:=gW (n:=n+(aN (l.take k) d lo++[Th.stmt y d lo]++eB y.f3 lo).length) ha;rw[hm];refine⟨rfl,?_,?_,H2.out.2.1.trans hg3⟩
     ·rw[FULL.out,fH H2.out.2.2,gG ha,←hm]
     ·intro h;rw[FULL.out]at h;simp[ha]at h
    have H3:=aa (show W5.heap[b]? =ag (.cells #[.int .i64 ((n+(aN (l.take k) d lo++[Th.stmt y d lo]++eB y.f3 lo++aN y.f6 (d+1) lo).length:Nat):Int),seeV bw] 183 (0,0))/\Gw Wb W W5 b/\(aN (l.take k) d lo++[Th.stmt y d lo]++eB y.f3 lo++aN y.f6 (d+1) lo).any f=ac from⟨by rw[ba,←ja];exact hw3 ha,H2.out.2.1.trans hg3,by rw[il,H2.out.2.2,ha];rfl⟩);rw[fG ha];clear ha hw3 hg3 FULL BN;have q21:W5.cell? ⟨bb,oo+13,ak⟩=ag (.slice A13 y.f7.length c13):=aE H3.out.2.1.below KQ.out.2;go_wp2_with fail;have FULL:=aa (show aN l d lo=(aN (l.take k) d lo++[Th.stmt y d lo]++eB y.f3 lo++aN y.f6 (d+1) lo)++(aN y.f7 (d+1) lo++(aN (l.drop (k+1)) d lo)) by rw[SP.out,SPK.out];simp);have BN:=aa (show n+(aN (l.take k) d lo++[Th.stmt y d lo]++eB y.f3 lo++aN y.f6 (d+1) lo).length+(aN y.f7 (d+1) lo).length<4611686018427387904 by have h1:=HN.out.1;rw[FULL.out]at h1;simp only[ba]at h1 ⊢;omega);have C:=IH1.out.2 W5 (n+(aN (l.take k) d lo++[Th.stmt y d lo]++eB y.f3 lo++aN y.f6 (d+1) lo).length) (.pointer lq) lo A13 c13 (d+1) (wrap64 ((d:Int)+1)) (fun t ht=>HRR.out t (by rw[FULL.out];simp[ht])) (lO (by have:=HN.out.2;omega)) FM.out.2.2.2.2.2 H3.out.2.1.below H3.out.1 K.out.2.2.2 K.out.2.2.1 (HSC.out.step HW.out H3.out.2.1.grown) BN.out (by have h1:=HN.out.2;have h2:=BK.out;omega);refine C.mono ?_;clear C;rintro _ W6 ⟨rfl,hw3,hg3⟩
    rcases aL ((aN y.f7 (d+1) lo).any f)with ha | ha
    ·obtain⟨mm,hm⟩:=gW (n:=n+(aN (l.take k) d lo++[Th.stmt y d lo]++eB y.f3 lo++aN y.f6 (d+1) lo).length) ha;rw[hm];refine⟨rfl,?_,?_,H3.out.2.1.trans hg3⟩
     ·rw[FULL.out,fH H3.out.2.2,gG ha,←hm]
     ·intro h;rw[FULL.out]at h;simp[ha]at h
    have H4:=aa (show W6.heap[b]? =ag (.cells #[.int .i64 ((n+(aN (l.take k) d lo++[Th.stmt y d lo]++eB y.f3 lo++aN y.f6 (d+1) lo++aN y.f7 (d+1) lo).length:Nat):Int),seeV bw] 183 (0,0))/\Gw Wb W W6 b/\(aN (l.take k) d lo++[Th.stmt y d lo]++eB y.f3 lo++aN y.f6 (d+1) lo++aN y.f7 (d+1) lo).any f=ac from⟨by rw[ba,←ja];exact hw3 ha,H3.out.2.1.trans hg3,by rw[il,H3.out.2.2,ha];rfl⟩);rw[fG ha];clear ha hw3 hg3 FULL BN;go_wp2_with fail
    have HX:=aa (show aN (l.take k) d lo++[Th.stmt y d lo]++eB y.f3 lo++aN y.f6 (d+1) lo++aN y.f7 (d+1) lo=aN (l.take (k+1)) d lo by
     have h2:=T.out;simp only[eU]at h2
     rw[h2,SPK.out] <;> simp)
    refine⟨⟨k+1,W6,by go_num,rfl,by omega,⟨?_,H4.out.2.1,?_⟩⟩,by simp[intOf];omega⟩
    ·rw[←HX.out];exact H4.out.1
    ·rw[←HX.out];exact H4.out.2.2
   ·rw[h0]at q0;have H0:=aa h0;clear h0
    have SPK:=aa (show stTh y d lo=Th.stmt y d lo::((aN y.f6 (d+1) (lo++[y.f1]))) by
     have FE:=FM.out.2.2.2.1 H0.out;rw[d6]
     simp[H0.out,FE,aN,inLoop])
    have FULL:=aa (show aN l d lo=(aN (l.take k) d lo++[Th.stmt y d lo])++(aN y.f6 (d+1) (lo++[y.f1])++(aN (l.drop (k+1)) d lo)) by rw[SP.out,SPK.out];simp);have BN:=aa (show n+(aN (l.take k) d lo++[Th.stmt y d lo]).length+(aN y.f6 (d+1) (lo++[y.f1])).length<4611686018427387904 by have h1:=HN.out.1;rw[FULL.out]at h1;simp only[ba]at h1 ⊢;omega)
    go_upto_region 15 with (fail)
    have t12:∀g':G W3,g'.W.cell? ⟨bb,oo+12,ak⟩=ag (.slice A12 y.f6.length c12):=fun g'=>aE g'.below (aE H1.out.2.1.below (RG.out 12 _ rfl));have t1:∀g':G W3,g'.W.cell? ⟨bb,oo+1,ak⟩=ag (.string y.f1):=fun g'=>aE g'.below (aE H1.out.2.1.below (RG.out 1 _ rfl));refine eP (n:=15) (S:=fun w'=>∃g':G W3,w'=g'.W) (ds:=[14]) #[ac,ac,ac,ac,ac,ac,ac,ac,ac,ac,ac,ac,ac,ac,ac] (by kernel_rfl) rfl rfl ⟨mkG (ar _ _).drew,rfl⟩ (fun hHeld=> ?_);obtain⟨gd,hgd⟩:=hHeld;rw[hgd];clear hgd;refine aP (i:=0) (N:=ag 72) (v:= ?_) (a':= ?_) #[af,ac,ac,ac,ac,ac,ac,ac,ac,ac,ac,ac,ac,ac,ac] rfl rfl (by kernel_rfl) (fun _ _ _ h=>h) (bc ⟨by rfl,?_⟩) ?_ ?_;rotate_left
    ·intro w';go_simp;with_reducible rfl
    rotate_left
    ·simp only[ay,ae,ah,ai,aJ,aK];rfl
    refine aP (i:=1) (N:=ag 73) (v:= ?_) (a':= ?_) #[af,af,ac,ac,ac,ac,ac,ac,ac,ac,ac,ac,ac,ac,ac] rfl rfl (by kernel_rfl) (fun _ _ _ h=>h) (bc ⟨by rfl,?_⟩) ?_ ?_;rotate_left
    ·intro w';go_simp;with_reducible rfl
    rotate_left
    ·simp only[ay,ae,ah,ai,aJ,aK];rfl
    refine aP (i:=2) (N:=ag 74) (v:= ?_) (a':= ?_) #[af,af,af,ac,ac,ac,ac,ac,ac,ac,ac,ac,ac,ac,ac] rfl rfl (by kernel_rfl) (fun _ _ _ h=>h) (bc ⟨by rfl,?_⟩) ?_ ?_;rotate_left
    ·intro w';go_simp;with_reducible rfl
    rotate_left
    ·simp only[ay,ae,ah,ai,aJ,aK];rfl
    refine aP (i:=3) (N:=ag 75) (v:= ?_) (a':= ?_) #[af,af,af,af,ac,ac,ac,ac,ac,ac,ac,ac,ac,ac,ac] rfl rfl (by kernel_rfl) (fun _ _ _ h=>h) (bc ⟨by rfl,?_⟩) ?_ ?_;rotate_left
    ·intro w';go_simp;with_reducible rfl
    rotate_left
    ·simp only[ay,ae,ah,ai,aJ,aK];rfl
    refine aP (i:=5) (N:=ag 77) (v:= ?_) (a':= ?_) #[af,af,af,af,ac,af,ac,ac,ac,ac,ac,ac,ac,ac,ac] rfl rfl (by kernel_rfl) (fun _ _ _ h=>h) (bc ⟨by rfl,?_⟩) ?_ ?_;rotate_left
    ·intro w';go_simp;with_reducible rfl
    rotate_left
    ·simp only[ay,ae,ah,ai,aJ,aK];rfl
    refine aP (i:=6) (N:=ag 78) (v:= ?_) (a':= ?_) #[af,af,af,af,ac,af,af,ac,ac,ac,ac,ac,ac,ac,ac] rfl rfl (by kernel_rfl) (fun _ _ _ h=>h) (bc ⟨by rfl,?_⟩) ?_ ?_;rotate_left
    ·intro w';go_simp;with_reducible rfl
    rotate_left
    ·simp only[ay,ae,ah,ai,aJ,aK];rfl
    refine aP (i:=7) (N:=ag 79) (v:= ?_) (a':= ?_) #[af,af,af,af,ac,af,af,af,ac,ac,ac,ac,ac,ac,ac] rfl rfl (by kernel_rfl) (fun _ _ _ h=>h) (bc ⟨by rfl,?_⟩) ?_ ?_;rotate_left
    ·intro w';go_simp;with_reducible rfl
    rotate_left
    ·simp only[ay,ae,ah,ai,aJ,aK];rfl
    refine aP (i:=8) (N:=ag 80) (v:= ?_) (a':= ?_) #[af,af,af,af,ac,af,af,af,af,ac,ac,ac,ac,ac,ac] rfl rfl (by kernel_rfl) (fun _ _ _ h=>h) (bc ⟨by rfl,?_⟩) ?_ ?_;rotate_left
    ·intro w';go_simp;with_reducible rfl
    rotate_left
    ·simp only[ay,ae,ah,ai,aJ,aK];rfl
    refine aP (i:=9) (N:=ag 81) (v:= ?_) (a':= ?_) #[af,af,af,af,ac,af,af,af,af,af,ac,ac,ac,ac,ac] rfl rfl (by kernel_rfl) (fun _ _ _ h=>h) (bc ⟨by rfl,?_⟩) ?_ ?_;rotate_left
    ·intro w';go_simp;with_reducible rfl
    rotate_left
    ·simp only[ay,ae,ah,ai,aJ,aK];rfl
    refine aP (i:=11) (N:=ag 83) (v:= ?_) (a':= ?_) #[af,af,af,af,ac,af,af,af,af,af,ac,af,ac,ac,ac] rfl rfl (by kernel_rfl) (fun _ _ _ h=>h) (bc ⟨by rfl,?_⟩) ?_ ?_;rotate_left
    ·intro w';go_simp;with_reducible rfl
    rotate_left
    ·simp only[ay,ae,ah,ai,aJ,aK];rfl
    refine cY (i:=4) (N:=ag 76) (v:= ?_) (a':= ?_) #[af,af,af,af,af,af,af,af,af,af,ac,af,ac,ac,ac] rfl rfl (by kernel_rfl) (fun _ _ _ h=>h) (bc ⟨by rfl,?_⟩) ⟨gd,rfl⟩ ?_ ?_;rotate_left
    ·rintro w' ⟨g',rfl⟩;go_simp;with_reducible rfl
    rotate_left
    ·simp only[ay,ae,ah,ai,aJ,aK];rfl
    refine cY (i:=10) (N:=ag 82) (v:= ?_) (a':= ?_) #[af,af,af,af,af,af,af,af,af,af,af,af,ac,ac,ac] rfl rfl (by kernel_rfl) (fun _ _ _ h=>h) (bc ⟨by rfl,?_⟩) ⟨gd,rfl⟩ ?_ ?_;rotate_left
    ·rintro w' ⟨g',rfl⟩;go_simp;with_reducible rfl
    rotate_left
    ·simp only[ay,ae,ah,ai,aJ,aK];rfl
    refine aP (i:=12) (N:=ag 84) (v:= ?_) (a':= ?_) #[af,af,af,af,af,af,af,af,af,af,af,af,af,ac,ac] rfl rfl (by kernel_rfl) (fun _ _ _ h=>h) (bc ⟨by rfl,?_⟩) ?_ ?_;rotate_left
    ·intro w';go_simp;with_reducible rfl
    rotate_left
    ·simp only[ay,ae,ah,ai,aJ,aK];rfl
    refine kH (i:=13) (N:=ag 85) #[af,af,af,af,af,af,af,af,af,af,af,af,af,af,ac] rfl rfl (by kernel_rfl) (by simp) (fun K9 hK=> ?_);refine box_step ?hg (N:=85) ?hd (cs:= #[.string y.f1,.pointer lq]) (t:=121) ?hr ?_;(case hd=>rfl);(case hg=>rfl);(case hr=>first | (go_simp;done) | (go_simp;rfl));intro b9 hb9 w9 hbx hbl;obtain⟨ge,rfl⟩:∃g':G W3,w9=g'.W:=⟨mkG (gd.below.trans (hbl.mono gd.below.size)),rfl⟩;refine hK.out _ _ ⟨ge,rfl⟩ (fun _=> ?_);clear hK K9;refine cW (a':= ?_) ?_ ?_;rotate_left
    ·show ay _ (ag 85) _ = _
     simp only[ay,ae,ah,ai,aJ,aK];rfl
    have HE:=aa (show Gw Wb W ge.W b from H1.out.2.1.trans (Gw.of_below b H1.out.2.1.below ge.below));have HEB:=aa (aB H1.out.1 ge.below);have HES:=aa (show d9 ge.W (.pointer (ag ⟨b9,0,ak⟩)) (lo++[y.f1]).reverse by rw[List.reverse_append];exact⟨b9,.pointer lq,rfl,hbx,(HSC.out.step HW.out H1.out.2.1.grown).below ge.below⟩);refine o4 (i:=14) (N:=ag 86) #[af,af,af,af,af,af,af,af,af,af,af,af,af,af,af] rfl rfl (by kernel_rfl) (by simp) (fun K9 hK=> ?_);refine callP_ 123 #[.pointer (ag ⟨b,0,ak⟩),.slice A12 y.f6.length c12,.int .i64 (wrap64 ((d:Int)+1)),.pointer (ag ⟨b9,0,ak⟩)] (by rfl) rfl (by first | (go_simp;done) | (go_simp;rfl)) ?_;have C:=IH1.out.1 ge.W (n+(aN (l.take k) d lo++[Th.stmt y d lo]).length) (.pointer (ag ⟨b9,0,ak⟩)) (lo++[y.f1]) A12 c12 (d+1) (wrap64 ((d:Int)+1)) (fun t ht=>HRR.out t (by rw[FULL.out];simp[ht])) (lO (by have:=HN.out.2;omega)) FM.out.2.2.2.2.1 HE.out.below HEB.out K.out.2.1 K.out.1 HES.out BN.out (by have h1:=HN.out.2;have h2:=BK.out;omega);refine C.mono ?_;clear C;rintro _ W4 ⟨rfl,hw3,hg3⟩
    rcases aL ((aN y.f6 (d+1) (lo++[y.f1])).any f)with ha | ha
    ·right;obtain⟨mm,hm⟩:=gW (n:=n+(aN (l.take k) d lo++[Th.stmt y d lo]).length) ha;rw[hm];refine⟨_,rfl,rfl,?_,?_,HE.out.trans hg3⟩
     ·rw[FULL.out,fH H1.out.2.2,gG ha,←hm]
     ·intro h;rw[FULL.out]at h;simp[ha]at h
    have H2:=aa (show W4.heap[b]? =ag (.cells #[.int .i64 ((n+(aN (l.take k) d lo++[Th.stmt y d lo]++aN y.f6 (d+1) (lo++[y.f1])).length:Nat):Int),seeV bw] 183 (0,0))/\Gw Wb W W4 b/\(aN (l.take k) d lo++[Th.stmt y d lo]++aN y.f6 (d+1) (lo++[y.f1])).any f=ac from⟨by rw[ba,←ja];exact hw3 ha,HE.out.trans hg3,by rw[il,H1.out.2.2,ha];rfl⟩);left;refine⟨.tuple #[],by rw[fG ha],?_⟩;clear ha hw3 hg3;refine hK.out _ _ ?_;clear hK K9;refine cW (a':= ?_) ?_ ?_;rotate_left
    ·show ay _ (ag 86) _ = _
     simp only[ay,ae,ah,ai,aJ,aK];rfl
    refine iF (by kernel_rfl) ?_;clear t12 t1;go_wp2_with fail
    have HX:=aa (show aN (l.take k) d lo++[Th.stmt y d lo]++aN y.f6 (d+1) (lo++[y.f1])=aN (l.take (k+1)) d lo by
     have h2:=T.out;simp only[eU]at h2
     rw[h2,SPK.out] <;> simp)
    refine⟨⟨k+1,W4,by go_num,rfl,by omega,⟨?_,H2.out.2.1,?_⟩⟩,by simp[intOf];omega⟩
    ·rw[←HX.out];exact H2.out.1
    ·rw[←HX.out];exact H2.out.2.2
   ·rw[h0]at q0;have H0:=aa h0;clear h0
    have SPK:=aa (show stTh y d lo=Th.stmt y d lo::([]) by
     have FE:=FM.out.2.2.1 (by have:=H0.out;omega);rw[d6]
     simp[H0.out,FE.1,FE.2,aN])
    go_wp2_with fail
    have HX:=aa (show aN (l.take k) d lo++[Th.stmt y d lo]=aN (l.take (k+1)) d lo by
     have h2:=T.out;simp only[eU]at h2
     rw[h2,SPK.out] <;> simp)
    refine⟨⟨k+1,W3,by go_num,rfl,by omega,⟨?_,H1.out.2.1,?_⟩⟩,by simp[intOf];omega⟩
    ·rw[←HX.out];exact H1.out.1
    ·rw[←HX.out];exact H1.out.2.2
  ·go_wp2_with fail
   first | go_end0 | skip
   have hke:k=l.length:=by omega
   have h1:=HK.out;rw[hke,eu]at h1;exact⟨(fG h1.2.2).symm,fun _=>h1.1,h1.2.1⟩
theorem wstmts_calls {Wb:World}{bw b:Nat}{R:Th->Prop}{f:Th->Bool}(hs:SeeOK Wb bw R f)(hbb:Wb.heap.size<=b):∀(n:Nat) (l:List S119),cz l<=n->WStmts Wb bw b R f l:=by
 intro n
 induction n with
 |zero=>intro l h;cases l <;> simp at h <;> omega
 |succ n ih=>
  intro l h;refine wstmts_walk hs hbb l fun x hx=> ?_;have h1:=gq hx;obtain⟨a,b,c,d,e,f,g,k⟩:=x;simp only[S119.mk.sizeOf_spec]at h1;exact⟨ih _ (by show cz g<=n;omega),ih _ (by show cz k<=n;omega)⟩
end
section
attribute [local go_sem] G.cell
theorem wp_name {P:Program}{c:Code}{Q:Exit->Act->World->Prop}{a:Act}{w:World}(h:∀X,X=w->c.wp P Q a X):c.wp P Q a w:=h w rfl
theorem Gw.out {Wb W X W':World}{b:Nat}(h:Gw Wb X W' b)(hX:Below W.heap.size W X)(hb:W.heap.size<=b):Below W.heap.size W W':=
 ⟨h.grown.os.trans hX.os,h.grown.tape.trans hX.tape,h.grown.output.trans hX.output,bi hX.size h.grown.size,fun i hi=>(h.grown.block i (br hi hX.size) (fun e=>by injection e with e;omega)).trans (hX.block i hi)⟩
def outA (f:Th->Bool)(l:List Th):Ending:=if l.any f=af then rA f 0 l else .returned (.int .i64 (l.length:Int))
theorem decls_split (ds:List S70)(k:Nat)(hk:k<ds.length):(bu ds.length).map Th.decl=(bu k).map Th.decl++([Th.decl k]++((bu ds.length).drop (k+1)).map Th.decl):=by
 have h:(bu ds.length)=bu k++([k]++(bu ds.length).drop (k+1)):=by
  have h1:=(List.take_append_drop (k+1) (bu ds.length)).symm;rw[List.take_range,di (by omega),jz,dr]at h1;exact h1
 conv=>lhs;rw[h]
 rw[ef,ef];rfl
theorem all_calls {Wb:World}{bw:Nat}{R:Th->Prop}{f:Th->Bool}(hs:SeeOK Wb bw R f)(nm:ByteArray)(wd ln:Int)(ds:List S70)(bd:List S119)(A3:Option Addr)(c3:Nat)(A4:Option Addr)(c4:Nat)(hp:ProgAt Wb ds bd A3 c3 A4 c4)(hform:bdB bd=af)(hdl:ds.length<=1048576)(hbb:Ot.cK bd<=1048576)
 (hR:∀t∈things ds bd,R t) (W:World) (hB:Below Wb.heap.size Wb W):
 Calls au 76 #[.agg #[.string nm,.int .i64 wd,.int .i64 ln,.slice A3 ds.length c3,.slice A4 bd.length c4],seeV bw] W fun r W'=>r=outA f (things ds bd)/\Below W.heap.size W W':=by
 have HS:=aa hs;have HRR:=aa hR;clear hR;have HP:=aa hp;have HF:=aa hform;have HZ:=aa (aj hdl hbb);have HB:=aa hB;have hlm:=hp.hd.2.1;have hl4:=hp.hlb;clear hs hp hform hdl hbb hB;go_enter Tryz.func76,Tryz.ntmps76
 go_upto_region 2 with (fail)
 refine wp_name ?_;intro X hX;have HWX:=aa (show Below W.heap.size W X by rw[hX];exact((ar _ _).alloc (aq _) _).alloc (by simp) _);have HBX:=aa (HB.out.trans (HWX.out.mono HB.out.size));have HXb:=aa (show X.heap[W.heap.size+1]? =ag (.cells #[.int .i64 ((0:Nat):Int),seeV bw] 183 (0,0)) by rw[hX];exact heap_alloc2_new _ _ _);have HXp:=aa (show X.heap[W.heap.size]? =ag (.cells #[.string nm,.int .i64 wd,.int .i64 ln,.slice A3 ds.length c3,.slice A4 bd.length c4] 25 (0,0)) by rw[hX,ic _ _ _ (by simp)];exact aW _ _);clear hX;have pc:∀{W':World},Gw Wb X W' (W.heap.size+1)->W'.heap[W.heap.size]? =ag (.cells #[.string nm,.int .i64 wd,.int .i64 ln,.slice A3 ds.length c3,.slice A4 bd.length c4] 25 (0,0)):=fun h=>(h.grown.block _ (aX HXp.out) (fun e=>by injection e with e;omega)).trans HXp.out;have x3:X.cell? ⟨W.heap.size,3,ak⟩=ag (.slice A3 ds.length c3):=(aA HXp.out 3).trans rfl;have x4:X.cell? ⟨W.heap.size,4,ak⟩=ag (.slice A4 bd.length c4):=(aA HXp.out 4).trans rfl;go_wp2_with fail
 go_loopw [13] (fun i W3=>∃(k:Nat) (W2:World),i=.int .i64 k/\W2=W3/\k<=ds.length/\Aside0 (W2.heap[W.heap.size+1]? =ag (.cells #[.int .i64 (k:Int),seeV bw] 183 (0,0))/\Gw Wb X W2 (W.heap.size+1)/\((bu k).map Th.decl).any f=ac)) (fun i _=>ds.length - (intOf i).toNat)
 case atStart=>exact⟨0,_,rfl,rfl,bk _,⟨HXb.out,⟨HBX.out,⟨rfl,rfl,rfl,aq _,fun _ _ _=>rfl⟩⟩,by simp⟩⟩
 case round=>
  obtain⟨k,W2,rfl,rfl,hk,HK⟩:=hrel;have z3:W2.cell? ⟨W.heap.size,3,ak⟩=ag (.slice A3 ds.length c3):=(aA (pc HK.out.2.1) 3).trans rfl;have z4:W2.cell? ⟨W.heap.size,4,ak⟩=ag (.slice A4 bd.length c4):=(aA (pc HK.out.2.1) 4).trans rfl
  by_cases hlt:k<ds.length
  ·obtain⟨ad,A9,c9,e1,_⟩:=eD HP.out.hd (k:Int) (bo _) (by omega);cases e1
   have hk1:(k:Int)<(ds.length:Int):=by omega
   have SP:=aa (decls_split ds k hlt);go_wp2_with fail;refine(oO HS.out (bi HB.out.size (jj _)) W2 k (by have:=HZ.out.1;omega) (.pointer (ag (ad.add (k*4)))) (.pointer ak) (.pointer ak) 0 0 (.pointer ak) (.decl k) (HRR.out _ (by unfold things;rw[SP.out];simp)) HK.out.2.1.below HK.out.1 ⟨⟨_,rfl⟩,rfl,rfl,rfl,rfl⟩).mono ?_;rintro _ W3 ⟨rfl,hw1,hg1⟩
   rcases aL (f (.decl k))with hf | hf
   ·rw[hf];refine⟨rfl,?_,(HK.out.2.1.trans hg1).out HWX.out (jj _)⟩
    have e:rA f 0 (things ds bd)=.panicked (nI k):=by
     unfold things;rw[SP.out,dr,fH HK.out.2.2,dr,List.singleton_append,rA,if_pos hf]
     simp
    unfold outA;rw[if_pos (by unfold things;rw[SP.out];simp[hf]),e]
   ·rw[hf];have HN:=aa (aj hw1 (aj hg1 hf));clear hw1 hg1 hf;rw[show outE ac k=.returned (.tuple #[]) from rfl];go_wp2_with fail;refine⟨⟨k+1,W3,by go_num,rfl,by omega,⟨HN.out.1,HK.out.2.1.trans HN.out.2.1,by rw[mN,il,HK.out.2.2];simp[HN.out.2.2]⟩⟩,by simp[intOf];omega⟩
  ·have hke:k=ds.length:=by omega
   have hk1:¬(k:Int)<(ds.length:Int):=by omega
   have H0:=aa (show((bu ds.length).map Th.decl).any f=ac by have:=HK.out.2.2;rw[hke]at this;exact this);have HL:=aa (show k+(aN bd 1 []).length=(things ds bd).length by unfold things;rw[hke];simp);clear hke;go_wp2_with fail;have hle:=dF bd 1 [];refine(wstmts_calls HS.out (bi HB.out.size (jj _)) _ bd (aq _) W2 k (.pointer ak) [] A4 c4 1 1 (fun t ht=>HRR.out t (by unfold things;simp[ht])) rfl HF.out HK.out.2.1.below HK.out.1 HP.out.hb HP.out.hlb rfl (by have:=HZ.out;omega) (by have:=HZ.out;omega)).mono ?_;rintro _ W3 ⟨rfl,hw3,hg3⟩
   rcases aL ((aN bd 1 []).any f)with ha | ha
   ·obtain⟨mm,hm⟩:=gW (n:=k) ha;rw[hm];refine⟨rfl,?_,(HK.out.2.1.trans hg3).out HWX.out (jj _)⟩;unfold outA;rw[if_pos (by unfold things;rw[il,ha];simp),show things ds bd=(bu ds.length).map Th.decl++aN bd 1 [] from rfl,fH H0.out]
    have hk2:0+((bu ds.length).map Th.decl).length=k:=by simp;omega
    rw[hk2];exact hm.symm
   ·rw[fG ha];have hw4:=hw3 ha;rw[HL.out]at hw4;have HA:=aa (aj ha hg3);have u0:W3.cell? ⟨W.heap.size+1,0,ak⟩=ag (.int .i64 ((things ds bd).length:Int)):=(aA hw4 0).trans rfl;clear ha hw3 hg3 hw4;go_wp2_with fail;go_ret;refine⟨?_,(HK.out.2.1.trans HA.out.2).out HWX.out (jj _)⟩;unfold outA;rw[if_neg (by unfold things;rw[il,H0.out,HA.out.1];simp)];rfl
end
section
attribute [local go_sem] G.cell
theorem wpS_norm {P:Program}{c:Code}{Q:Exit->Act->List Frame->World->Prop}{a a':Act}{cs:List Frame}{w:World}(h:a=a')(k:c.wpS P Q a' cs w):c.wpS P Q a cs w:=h ▸ k
def kW (W0:World)(p1 p2:Value)(R:Th->Prop)(f:Th->Bool):Prop:=∀(Wb W:World) (n:Nat) (dp sp ep:Value) (dI:Int) (lp:Value) (t:Th),R t->Below W0.heap.size W0 Wb->Below Wb.heap.size Wb W->ThP Wb W dp sp ep dI lp t->
 Calls au 251 #[.agg #[.int .i64 n,dp,sp,ep,.int .i64 dI,lp],p1,p2] W fun r W'=>r=.returned (.bool (f t))/\Below W.heap.size W W'
theorem see_ok {W0 Wb:World}{bw:Nat}{p1 p2:Value}{R:Th->Prop}{f:Th->Bool}(hb0:Below W0.heap.size W0 Wb)(hbw:Wb.heap[bw]? =ag (.cells #[.func (.func 251) #[] #[p1,p2]] 272 (0,0)))(hw:kW W0 p1 p2 R f):SeeOK Wb bw R f:=by
 intro W n dp sp ep dI lp t hR hB ht;have gout:=@gA W;have HRT:=aa hR;clear hR;have HB:=aa hB;have HT:=aa ht;have HW:=aa (hw Wb);have H0:=aa hb0;have HBW:=aa ((hB.block bw (aX hbw)).trans hbw);have hlt:=aX HBW.out;have z0:W.cell? ⟨bw,0,ak⟩=ag (.func (.func 251) #[] #[p1,p2]):=(aA HBW.out 0).trans rfl;clear hB ht hw hb0 hbw;go_enter Tryz.func284,Tryz.ntmps284
 go_upto_region 1 with (fail)
 refine aG ?_;intro gg;go_wp2_with fail;refine(aD (g:=gg) (HW.out gg.W n dp sp ep dI lp t HRT.out H0.out (HB.out.trans ((gout gg).mono HB.out.size)) (HT.out.below (gout gg)))).mono ?_;rintro _ _ ⟨rfl,gg,rfl⟩
 cases hf:f t
 ·have HF:=aa hf;clear hf;go_wp2_with fail
  first | go_end0 | skip
  exact⟨by rw[HF.out];rfl,gout _⟩
 ·have HF:=aa hf;clear hf;go_wp2_with fail;exact⟨rfl,by rw[HF.out];rfl,gout _⟩
theorem catch_idle (a4 a5:Value)(w:World):CallsD au 283 #[a4,a5] .returning w fun e u' w'=>e=.returned (.tuple #[])/\u'=.returning/\w'=w:=by
 refine callsD_of_wpS Tryz.func283 rfl fun c₀ cs hu=> ?_;apply wpS_seq;apply wpS_region;simp[wpOpsS,go_sem,recoverD,hu,Tryz.ntmps283,Exit.thenS];refine wpS_of_wp ?_;go_wp2_with fail;cases c₀
 simp_all[bodyPostS,results,Tryz.results104]
theorem assert_found (m:Nat)(w:World):(Instr.typeAssert (.iface 289 (.agg #[.int .i64 m])) 20 289 af).run au w=.ok (.tuple #[.agg #[.int .i64 m],.bool af]) w:=by
 unfold Instr.typeAssert;simp[go_sem]
theorem sZ (b4 b5:Nat)(x:Int)(y:Bool)(m:Nat)(w:World)(h4:w.heap[b4]? =ag (.cells #[.int .i64 x] 3 (0,0)))(h5:w.heap[b5]? =ag (.cells #[.bool y] 4 (0,0)))(hne:b4≠b5):
 CallsD au 283 #[.pointer (ag ⟨b4,0,ak⟩),.pointer (ag ⟨b5,0,ak⟩)] (.panicking (nI m)) w fun e u' w'=>
  e=.returned (.tuple #[])/\u'=.panicking [{ v:=.iface 289 (.agg #[.int .i64 m]),recovered:=af }]/\w'.heap[b4]? =ag (.cells #[.int .i64 m] 3 (0,0))/\w'.heap[b5]? =ag (.cells #[.bool af] 4 (0,0))/\(∀B,B<=b4->B<=b5->B<=w.heap.size->Below B w w'):=by
 have c4:w.cell? ⟨b4,0,ak⟩=ag (.int .i64 x):=(aA h4 0).trans rfl;have c5:w.cell? ⟨b5,0,ak⟩=ag (.bool y):=(aA h5 0).trans rfl;have f4:=aH h4 0;have f5:=aH h5 0;refine callsD_of_wpS Tryz.func283 rfl fun c₀ cs hu=> ?_;unfold nI at hu;apply wpS_seq;apply wpS_region;simp[wpOpsS,go_sem,recoverD,hu,Tryz.ntmps283,Exit.thenS];refine wpS_norm (a':={ tmps:= #[.pointer (ag ⟨b4,0,ak⟩),.pointer (ag ⟨b5,0,ak⟩),.iface 289 (.agg #[.int .i64 m]),undef,undef,.iface 289 (.agg #[.int .i64 m]),undef,undef,undef,undef,undef,undef,undef,undef,undef,undef,undef,undef],defers:=[] }) (by rfl) ?_;refine wpS_of_wp ?_;have hta:=assert_found m;have l4:=aX h4;have l5:=aX h5;have n4:¬b4=b5:=hne;have n5:¬b5=b4:=fun e=>hne e.symm
 have m4:¬b4=w.heap.size:=by omega
 have m5:¬b5=w.heap.size:=by omega
 have H4:=aa h4;have H5:=aa h5;clear hne h4 h5;go_wp2_with fail;refine⟨rfl,_,rfl,.tuple #[],results_none rfl _ _ _,rfl,rfl,?_,?_,fun B hB4 hB5 hBw=>(((ar B w).setCell (p:=⟨b4,0,ak⟩) hB4 _).setCell (p:=⟨b5,0,ak⟩) hB5 _).alloc (by simpa[ji]using hBw) _⟩
 ·rw[ic _ _ _ (by simpa[ji]using l4),dn _ _ _ _ n4];exact bQ H4.out 0 _ rfl
 ·rw[ic _ _ _ (by simpa[ji]using l5)];exact bQ ((dn _ _ _ _ n5).trans H5.out) 0 _ rfl
end
section
attribute [local go_sem] G.cell
theorem blk_new' {w:World}{o:Obj}{n:Nat}(h:n=w.heap.size):(w.alloc o).heap[n]? =ag o:=by subst h;exact aW w o
def fW (f:Th->Bool)(l:List Th):Int × Bool:=match bB l.length (fun i=>f (bK l i))with
 |some i=>((i:Int),af)
 |none=>(0,ac)
theorem thAt_lt {l:List Th}{i:Nat}(h:i<l.length):bK l i=l[i]:=by unfold bK;rw[aw,az h];rfl
theorem any_none {f:Th->Bool}{l:List Th}(h:l.any f=ac):fW f l=(0,ac):=by
 unfold fW;rw[bI fun j hj=> ?_];rw[List.any_eq_false]at h;rw[thAt_lt hj]
 simpa using h _ (gn hj)
theorem outL_first {f:Th->Bool}:∀{n:Nat} {l:List Th},l.any f=af->∃i,i<l.length/\rA f n l=.panicked (nI (n+i))/\f (bK l i)=af/\∀j,j<i->f (bK l j)=ac
 |_,[],h=>by simp at h
 |n,t::r,h=>by
  rw[rA]
  by_cases ht:f t=af
  ·exact⟨0,by simp,by rw[if_pos ht];rfl,ht,fun j hj=>by omega⟩
  ·rw[if_neg ht];rw[jv]at h
   obtain⟨i,h1,h2,h3,h4⟩:=outL_first (n:=n+1) (l:=r) (by simpa[ht]using h)
   refine⟨i+1,by simp;omega,by rw[h2,show n+1+i=n+(i+1) by omega],h3,fun j hj=> ?_⟩
   match j with
   |0=>exact Bool.eq_false_iff.2 ht
   |j+1=>exact h4 j (by omega)
theorem any_some {f:Th->Bool}{l:List Th}(h:l.any f=af):∃i:Nat,rA f 0 l=.panicked (nI i)/\fW f l=((i:Int),af):=by
 obtain⟨i,h1,h2,h3,h4⟩:=outL_first (n:=0) h
 refine⟨i,by rw[h2,Nat.zero_add],?_⟩;unfold fW;rw[cD h1 h3 h4]
theorem first_calls {W0:World}{p1 p2:Value}{R:Th->Prop}{f:Th->Bool}(hw:kW W0 p1 p2 R f)(nm:ByteArray)(wd ln:Int)(ds:List S70)(bd:List S119)(A3:Option Addr)(c3:Nat)(A4:Option Addr)(c4:Nat)(W:World)(hp:ProgAt W ds bd A3 c3 A4 c4)(hform:bdB bd=af)(hdl:ds.length<=1048576)(hbb:Ot.cK bd<=1048576)(hR:∀t∈things ds bd,R t)(hB:Below W0.heap.size W0 W):
 Calls au 250 #[.agg #[.string nm,.int .i64 wd,.int .i64 ln,.slice A3 ds.length c3,.slice A4 bd.length c4],.func (.func 251) #[] #[p1,p2]] W fun r W'=>r=.returned (.tuple #[.int .i64 (fW f (things ds bd)).1,.bool (fW f (things ds bd)).2])/\Below W.heap.size W W':=by
 have hmf:∀(fn:Fn) (first cap:Array Value) (w:World),(Instr.makeFunc fn first cap).run au w=.ok (.func fn first cap) w:=fun _ _ _ _=>rfl;have HW:=aa hw;have HRR:=aa hR;clear hR;have HP:=aa hp;have HZ:=aa (aj hform (aj hdl hbb));have HB:=aa hB;clear hw hp hform hdl hbb hB
 go_enter_defers Tryz.func250,Tryz.ntmps250
 go_upto_region 1 with (fail)
 refine wp_name ?_;intro X hX;have BX:=aa (show Below W.heap.size W X by rw[hX];exact((((ar _ _).alloc (aq _) _).alloc (by simp) _).alloc (by simp;omega) _).alloc (by simp;omega) _);have k3:=aa (show X.heap[W.heap.size+1+1+1]? =ag (.cells #[.bool ac] 4 (0,0)) by rw[hX];exact blk_new' (by simp));have k2:=aa (show X.heap[W.heap.size+1+1]? =ag (.cells #[.int .i64 0] 3 (0,0)) by rw[hX,ic _ _ _ (by simp)];exact blk_new' (by simp));have k1:=aa (show X.heap[W.heap.size+1]? =ag (.cells #[.func (.func 251) #[] #[p1,p2]] 272 (0,0)) by rw[hX,ic _ _ _ (by simp),ic _ _ _ (by simp)];exact blk_new' (by simp));have k0:=aa (show X.heap[W.heap.size]? =ag (.cells #[.string nm,.int .i64 wd,.int .i64 ln,.slice A3 ds.length c3,.slice A4 bd.length c4] 25 (0,0)) by rw[hX,ic _ _ _ (by simp;omega),ic _ _ _ (by simp;omega),ic _ _ _ (by simp)];exact(aW _ _));clear hX;have x0:X.cell? ⟨W.heap.size,0,ak⟩=ag (.string nm):=(aA k0.out 0).trans rfl;have x1:X.cell? ⟨W.heap.size,1,ak⟩=ag (.int .i64 wd):=(aA k0.out 1).trans rfl;have x2:X.cell? ⟨W.heap.size,2,ak⟩=ag (.int .i64 ln):=(aA k0.out 2).trans rfl;have x3:X.cell? ⟨W.heap.size,3,ak⟩=ag (.slice A3 ds.length c3):=(aA k0.out 3).trans rfl;have x4:X.cell? ⟨W.heap.size,4,ak⟩=ag (.slice A4 bd.length c4):=(aA k0.out 4).trans rfl;go_wp2_with fail;refine(all_calls (Wb:=X) (bw:=W.heap.size+1) (R:=R) (f:=f) (see_ok (HB.out.trans (BX.out.mono HB.out.size)) k1.out HW.out) nm wd ln ds bd A3 c3 A4 c4 (HP.out.below BX.out) HZ.out.1 HZ.out.2.1 HZ.out.2.2 HRR.out X (ar _ _)).mono ?_;rintro _ W1 ⟨rfl,hB1⟩;have l3:=br (aX k3.out) hB1.size;have l2:=br (aX k2.out) hB1.size;have j3:=aa (aB k3.out hB1);have j2:=aa (aB k2.out hB1);have B1:=aa (BX.out.trans (hB1.mono BX.out.size));clear hB1 x0 x1 x2 x3 x4;unfold outA
 rcases aL ((things ds bd).any f)with ha | ha
 ·obtain⟨i,hi,hfs⟩:=any_some ha;rw[if_pos ha,hi];refine leaves_cons (f:=283) (args:= #[.pointer (ag ⟨W.heap.size+1+1,0,ak⟩),.pointer (ag ⟨W.heap.size+1+1+1,0,ak⟩)]) (by simp) (by simp[go_sem]) ?_;refine(sZ (W.heap.size+1+1) (W.heap.size+1+1+1) 0 ac i W1 j2.out j3.out (by omega)).mono ?_;rintro e u' w'' ⟨rfl,rfl,h4,h5,hb⟩;have hc4:w''.cell? ⟨W.heap.size+1+1,0,ak⟩=ag (.int .i64 i):=(aA h4 0).trans rfl;have hc5:w''.cell? ⟨W.heap.size+1+1+1,0,ak⟩=ag (.bool af):=(aA h5 0).trans rfl;have hb2:=aa (B1.out.trans (hb W.heap.size (by omega) (by omega) B1.out.size));simp[Leaves,settle,results,Tryz.results94,go_sem,nI,hc4,hc5,hfs];exact hb2.out
 ·rw[if_neg (by simp[ha])];have HA:=aa ha;clear ha;have c4:W1.cell? ⟨W.heap.size+1+1,0,ak⟩=ag (.int .i64 0):=(aA j2.out 0).trans rfl;have c5:W1.cell? ⟨W.heap.size+1+1+1,0,ak⟩=ag (.bool ac):=(aA j3.out 0).trans rfl;have f4:=aH j2.out 0;have f5:=aH j3.out 0;go_wp2_with fail;refine leaves_cons (f:=283) (args:= #[.pointer (ag ⟨W.heap.size+1+1,0,ak⟩),.pointer (ag ⟨W.heap.size+1+1+1,0,ak⟩)]) (by simp) (by simp[go_sem]) ?_;refine(catch_idle _ _ _).mono ?_;rintro e u' w'' ⟨rfl,rfl,rfl⟩;have hfs:=any_none HA.out;have hb2:Below W.heap.size W ((W1.setCell ⟨W.heap.size+1+1,0,ak⟩ (.int .i64 0)).setCell ⟨W.heap.size+1+1+1,0,ak⟩ (.bool ac)):=(B1.out.setCell (p:=⟨W.heap.size+1+1,0,ak⟩) (by show W.heap.size<=W.heap.size+1+1;omega) _).setCell (p:=⟨W.heap.size+1+1+1,0,ak⟩) (by show W.heap.size<=W.heap.size+1+1+1;omega) _;simp[Leaves,settle,results,Tryz.results94,go_sem,c4,c5,hfs];exact hb2
end
section
attribute [local go_sem] G.cell
theorem d9.one {w:World}:∀{l l':List ByteArray} {v:Value},d9 w v l->d9 w v l'->l=l'
 | [],[],_,_,_=>rfl
 | [],_::_,v,h,⟨b,nx,hv,_⟩=>by rw[show v=.pointer ak from h]at hv;cases hv
 |_::_,[],v,⟨b,nx,hv,_⟩,h=>by rw[show v=.pointer ak from h]at hv;cases hv
 |a::r,a'::r',v,⟨b,nx,hv,hc,hr⟩,⟨b',nx',hv',hc',hr'⟩=>by
  rw[hv]at hv';injection hv' with e;injection e with e;injection e with e;subst e;rw[hc]at hc';injection hc' with e;injection e with e
  have e1:Value.string a=.string a':=by have:=congrArg (fun x:Array Value=>x.getD 0 undef) e;simpa using this
  have e2:nx=nx':=by have:=congrArg (fun x:Array Value=>x.getD 1 undef) e;simpa using this
  injection e1 with e1;subst e1 e2;rw[d9.one hr hr']
open Classical in
noncomputable def scL (w:World)(v:Value):List ByteArray:=if h:∃l,d9 w v l then Classical.choose h else []
theorem scL_eq {w:World}{v:Value}{l:List ByteArray}(h:d9 w v l):scL w v=l:=by
 unfold scL;rw[dif_pos ⟨l,h⟩];exact d9.one (Classical.choose_spec (⟨l,h⟩:∃l,d9 w v l)) h
theorem has_calls (w:World)(v:Value)(l:List ByteArray)(s:ByteArray)(b:Bool)(hsc:d9 w v l)(hb:iL l s=b):Calls au 195 #[v,.string s] w fun e w'=>e=.returned (.bool b)/\Below w.heap.size w w':=by
 have HSC:=aa hsc;have HB:=aa hb;clear hsc hb;go_enter Tryz.func195,Tryz.ntmps195;go_wp2_with fail
 go_loopw [0] (fun p W=>∃(l1:List ByteArray) (p1:Value),p1=p/\w=W/\Aside0 (d9 w p1 l1/\iL l1 s=b)) (fun p _=>(scL w p).length)
 case atStart=>exact⟨l,v,rfl,rfl,⟨HSC.out,HB.out⟩⟩
 case round=>
  obtain⟨l1,p1,rfl,rfl,HK⟩:=hrel
  cases l1 with
  |nil=>
   have hp:=HK.out.1;have hb:=HK.out.2;rw[show p1=.pointer ak from hp];go_wp2_with fail;go_ret;exact⟨aC (by rw[←hb];rfl),ar _ _⟩
  |cons a r=>
   obtain⟨c,nx,hv,hc,hr⟩:=HK.out.1;have hb:=HK.out.2;have HR:=aa hr;have HL:=aa (aj (scL_eq HK.out.1) (scL_eq hr));subst hv;have c0:w.cell? ⟨c,0,ak⟩=ag (.string a):=(aA hc 0).trans rfl;have c1:w.cell? ⟨c,1,ak⟩=ag nx:=(aA hc 1).trans rfl;obtain⟨q,rfl⟩:=hr.ptr;clear hc hr
   by_cases h:a.toList=s.toList
   ·have HH:=aa hb;clear hb;have HE:=aa h;have bb:(a.toList==s.toList)=af:=beq_iff_eq.mpr h;clear h;go_wp2_with fail;go_ret;exact⟨aC (by rw[←HH.out];simp[iL,eqS,HE.out]),ar _ _⟩
   ·have HH:=aa hb;clear hb;have HE:=aa h;have bb:(a.toList==s.toList)=ac:=beq_eq_false_iff_ne.mpr h;clear h;go_wp2_with fail;refine⟨⟨r,_,rfl,by first | rfl | trivial,⟨HR.out,?_⟩⟩,?_⟩
    ·rw[←HH.out];simp[iL,eqS,HE.out]
    ·rw[HL.out.1,HL.out.2];simp
theorem has_v {w:World}{v:Value}{lo:List ByteArray}{s:ByteArray}{b:Bool}(hsc:d9 w v lo.reverse)(hb:iL lo s=b):Calls au 195 #[v,.string s] w fun e w'=>e=.returned (.bool b)/\Below w.heap.size w w':=
 has_calls w v lo.reverse s b hsc (by unfold iL at hb ⊢;rw[List.any_reverse];exact hb)
def FindR (A3:Option Addr)(ds:List S70)(s:ByteArray)(q:Option Addr):Prop:=(q.isSome=(cG ds s).isSome)/\∀i,cG ds s=ag i->∃ad,A3=ag ad/\q=ag (ad.add (i*4))
theorem find_calls (nm:ByteArray)(wd ln:Int)(ds:List S70)(A3:Option Addr)(c3:Nat)(A4:Option Addr)(n4 c4:Nat)(s:ByteArray)(w:World)(hd:k70.C w A3 ds.length ds)(hld:ds.length<=c3):
 Calls au 181 #[.agg #[.string nm,.int .i64 wd,.int .i64 ln,.slice A3 ds.length c3,.slice A4 n4 c4],.string s] w fun e w'=>∃q,e=.returned (.pointer q)/\FindR A3 ds s q/\Below w.heap.size w w':=by
 have gout:=@gA w;have HD:=aa hd;have hlm:=hd.2.1;clear hd;go_enter Tryz.func181,Tryz.ntmps181
 go_upto_region 2 with (fail)
 refine aG ?_;intro gg;go_wp2_with fail
 go_loopw [9] (fun i W=>∃(k:Nat),i=.int .i64 k/\W=gg.W/\k<=ds.length/\Aside0 (∀j,j<k->eqS (aI ds (j:Int)).f1 s=ac)) (fun i _=>ds.length - (intOf i).toNat)
 case atStart=>exact⟨0,rfl,rfl,bk _,⟨fun j hj=>absurd hj (da _)⟩⟩
 case round=>
  obtain⟨k,rfl,rfl,hk,HK⟩:=hrel
  by_cases hlt:k<ds.length
  ·obtain⟨ad,A9,c9,e1,q0,q1,q2,q3,l9,g9⟩:=eD HD.out (k:Int) (bo _) (by omega);cases e1;rw[ax]at q1;replace q1:=aE (gout gg) q1;clear q0 q2 q3 l9 g9
   have hk1:(k:Int)<(ds.length:Int):=by omega
   by_cases h:(aI ds (k:Int)).f1.toList=s.toList
   ·have HE:=aa h;have bb:((aI ds (k:Int)).f1.toList==s.toList)=af:=beq_iff_eq.mpr h;clear h;go_wp2_with fail;go_ret;have e:cG ds s=ag k:=cD (by omega) (by show eqS _ _ =af;unfold eqS;rw[HE.out];simp) HK.out;exact⟨_,rfl,⟨by rw[e];rfl,fun i hi=>by rw[e]at hi;injection hi with hi;subst hi;exact⟨_,rfl,rfl⟩⟩,gout _⟩
   ·have HE:=aa h;have bb:((aI ds (k:Int)).f1.toList==s.toList)=ac:=beq_eq_false_iff_ne.mpr h;clear h;go_wp2_with fail;refine⟨⟨k+1,by go_num,by first | rfl | trivial,by omega,⟨fun j hj=>(gy (j=k)).elim (fun h=>by rw[h];exact decide_eq_false HE.out) (fun h=>HK.out j (by omega))⟩⟩,by simp[intOf];omega⟩
  ·have hk1:¬(k:Int)<(ds.length:Int):=by omega
   go_wp2_with fail;go_ret;have e:cG ds s=ak:=bI fun j hj=>HK.out j (by omega);exact⟨_,rfl,⟨by rw[e];rfl,fun i hi=>by rw[e]at hi;cases hi⟩,gout _⟩
theorem pow_table:(bu 257).all (fun m=>m==0||((bits BinOp.and IntKind.i64 (m:Int) (wrap64 ((m:Int) - 1))==0)==dJ (m:Int)))=af:=by kernel_rfl
theorem pow_and {n:Int}(h1:1<=n)(h2:n<=256):(bits BinOp.and IntKind.i64 n (wrap64 (n - 1))==0)=dJ n:=by
 obtain⟨m,rfl⟩:=ew (show 0<=n by omega);have h:=fw.1 pow_table m (jg.2 (by omega))
 have hm:(m==0)=ac:=by simp;omega
 rw[hm,Bool.false_or]at h;exact beq_iff_eq.1 h
theorem pow_out {n:Int}(h:n<1\/256<n):dJ n=ac:=by
 cases hp:dJ n with
 |false=>rfl
 |true=>have:=rL hp;omega
theorem lW (n most:Int)(w:World)(hm:most<=256)(b:Bool)(hb:b=(decide (n<=most)&&dJ n)):Calls au 176 #[.int .i64 n,.int .i64 most] w fun e w'=>e=.returned (.bool b)/\Below w.heap.size w w':=by
 have HB:=aa hb;clear hb
 rcases dh n 1 with h | h
 ·have h1:¬n ≥ 1:=by omega
  go_enter Tryz.func176,Tryz.ntmps176;go_wp2_with fail;go_ret;exact⟨aC (by rw[HB.out,pow_out (.inl h)];simp),ar _ _⟩
 ·have h1:n ≥ 1:=h
  rcases dh most n with k | k
  ·have k1:¬n<=most:=by omega
   go_enter Tryz.func176,Tryz.ntmps176;go_wp2_with fail;go_ret;exact⟨aC (by rw[HB.out];simp;omega),ar _ _⟩
  ·have KK:=aa (show(bits BinOp.and IntKind.i64 n (n - 1)==0)=dJ n by have e:=pow_and h (show n<=256 by omega);rw[show wrap64 (n - 1)=n - 1 by unfold wrap64;omega]at e;exact e);have K2:=aa k;go_enter Tryz.func176,Tryz.ntmps176;go_wp2_with fail;go_ret;exact⟨aC (by rw[HB.out,KK.out];simp[K2.out]),ar _ _⟩
theorem m9 (wd x:Int)(w:World)(h1:0<=wd)(hx:0<=x)(b:Bool)(hb:gP wd x=b):Calls au 187 #[.int .i64 wd,.int .u64 x] w fun e w'=>e=.returned (.bool b)/\Below w.heap.size w w':=by
 have HB:=aa hb;have HX:=aa hx;clear hb hx
 by_cases h2:wd ≥ 64
 ·go_enter Tryz.func187,Tryz.ntmps187;go_wp2_with fail;go_ret;exact⟨aC (by rw[←HB.out];unfold gP;rw[decide_eq_true h2];rfl),ar _ _⟩
 ·have H2:=aa h2;go_enter Tryz.func187,Tryz.ntmps187;go_wp2_with fail;go_ret;refine⟨aC ?_,ar _ _⟩;rw[←HB.out];unfold gP;rw[decide_eq_false (show ¬64<=wd by have:=H2.out;omega),Bool.false_or];have hp:(0:Int)<2 ^ wd.toNat:=Int.pow_pos (by decide)
  have e:(x / 2 ^ wd.toNat=0) ↔ x<2 ^ wd.toNat:=by
   constructor
   ·intro h;have:=Int.lt_ediv_add_one_mul_self x hp;rw[h]at this;omega
   ·intro h;exact Int.ediv_eq_zero_of_lt HX.out h
  by_cases h:x<2 ^ wd.toNat
  ·rw[decide_eq_true h];exact beq_iff_eq.2 (e.2 h)
  ·rw[decide_eq_false h];exact beq_eq_false_iff_ne.2 (fun k=>h (e.1 k))
end
section
attribute [local go_sem] G.cell
def RT (t:Th):Prop:=sW t/\match t with
 | .stmt s _ _=>1<=s.f0/\s.f0<=5
 |_=>True
theorem ret_use {a b:ByteArray}{c d:Bool}(h1:a=b)(h2:c=d):gj (.tuple #[.string a,.bool c])=.returned (.tuple #[.string b,.bool d]):=by rw[h1,h2]
theorem use_calls {Wb:World}(W:World)(n:Nat)(dp sp ep:Value)(dI:Int)(lp:Value)(t:Th)(hR:RT t)(hB:Below Wb.heap.size Wb W)(ht:ThP Wb W dp sp ep dI lp t)(r1:ByteArray)(r2:Bool)(hr:(r1,r2)=((jS t).getD ⟨#[]⟩,(jS t).isSome)):
 Calls au 194 #[.agg #[.int .i64 n,dp,sp,ep,.int .i64 dI,lp]] W fun e w'=>e=.returned (.tuple #[.string r1,.bool r2])/\Below W.heap.size W w':=by
 have hb:∀o:Obj,Below W.heap.size W (W.alloc o):=fun o=>(ar _ _).alloc (aq _) o;have h1:r1=(jS t).getD ⟨#[]⟩:=congrArg Prod.fst hr;have h2:r2=(jS t).isSome:=congrArg Prod.snd hr;have HR:=aa (aj h1 h2);clear hr h1 h2
 cases t with
 |decl i=>
  obtain⟨⟨a,rfl⟩,rfl,rfl,rfl,rfl⟩:=ht;go_enter Tryz.func194,Tryz.ntmps194;go_wp2_with fail;go_ret2;exact⟨ret_use (by rw[HR.out.1];rfl) (by rw[HR.out.2];rfl),hb _⟩
 |stmt s d lo=>
  obtain⟨rfl,⟨a,A5,c5,A9,c9,A12,c12,A13,c13,rfl,hr,_⟩,rfl,rfl,hsc⟩:=ht;have q0:=aE (hB.trans ((hb (.cells #[.int .i64 n,.pointer ak,.pointer (ag ⟨a.block,a.off,ak⟩),.pointer ak,.int .i64 d,lp] 110)).mono hB.size)) (hr 0 _ rfl);have q1:=aE (hB.trans ((hb (.cells #[.int .i64 n,.pointer ak,.pointer (ag ⟨a.block,a.off,ak⟩),.pointer ak,.int .i64 d,lp] 110)).mono hB.size)) (hr 1 _ rfl);rw[gm]at q0
  have hk:s.f0=1\/s.f0=2\/s.f0=5\/s.f0=3\/s.f0=4:=by have:=hR.2.1;have:=hR.2.2;omega
  clear hr hsc hR hB
  rcases hk with k | k | k | k | k
  all_goals
   rw[k]at q0;have K:=aa k;clear k;go_enter Tryz.func194,Tryz.ntmps194;go_wp2_with fail;go_ret2;exact⟨ret_use (by rw[HR.out.1];simp[jS,K.out]) (by rw[HR.out.2];simp[jS,K.out]),hb _⟩
 |expr x lo=>
  obtain⟨rfl,rfl,⟨a,A,c,rfl,hr,_⟩,rfl,hsc⟩:=ht;have q0:=aE (hB.trans ((hb (.cells #[.int .i64 n,.pointer ak,.pointer ak,.pointer (ag ⟨a.block,a.off,ak⟩),.int .i64 0,lp] 110)).mono hB.size)) (hr 0 _ rfl);have q2:=aE (hB.trans ((hb (.cells #[.int .i64 n,.pointer ak,.pointer ak,.pointer (ag ⟨a.block,a.off,ak⟩),.int .i64 0,lp] 110)).mono hB.size)) (hr 2 _ rfl);rw[gm]at q0;clear hr hsc hR hB
  have hk:x.f0=2\/x.f0=3\/(¬x.f0=2/\¬x.f0=3):=by omega
  rcases hk with k | k | ⟨k2,k3⟩
  rotate_right
  ·have b2:=bf k2;have b3:=bf k3;have K:=aa (aj k2 k3);clear k2 k3;go_enter Tryz.func194,Tryz.ntmps194;go_wp2_with fail;go_ret2;exact⟨ret_use (by rw[HR.out.1];simp[jS,K.out.1,K.out.2]) (by rw[HR.out.2];simp[jS,K.out.1,K.out.2]),hb _⟩
  all_goals
   rw[k]at q0;have K:=aa k;clear k;go_enter Tryz.func194,Tryz.ntmps194;go_wp2_with fail;go_ret2;exact⟨ret_use (by rw[HR.out.1];simp[jS,K.out]) (by rw[HR.out.2];simp[jS,K.out]),hb _⟩
end
section
attribute [local go_sem] G.cell
theorem ThP.scope {Wb W:World}{dp sp ep:Value}{dI:Int}{lp:Value}{t:Th}(h:ThP Wb W dp sp ep dI lp t):d9 W lp (gN t).reverse:=by
 cases t with
 |decl i=>exact h.2.2.2.2
 |stmt s d lo=>exact h.2.2.2.2
 |expr e lo=>exact h.2.2.2.2
theorem wkind_calls {Wb:World}(nm:ByteArray)(wd ln:Int)(ds:List S70)(bd:List S119)(A3:Option Addr)(c3:Nat)(A4:Option Addr)(c4:Nat)(hp:ProgAt Wb ds bd A3 c3 A4 c4)(hd0:∀d∈ds,0<=d.f2)(W:World)(n:Nat)(dp sp ep:Value)(dI:Int)(lp:Value)(t:Th)(hR:RT t)(hB:Below Wb.heap.size Wb W)(ht:ThP Wb W dp sp ep dI lp t)
 (s:ByteArray) (hu:jS t=ag s) (hk:iL (gN t) s=af\/∃i,cG ds s=ag i) (b:Bool) (hb:b=sS ds t s):
 Calls au 197 #[(.agg #[.string nm,.int .i64 wd,.int .i64 ln,.slice A3 ds.length c3,.slice A4 bd.length c4]),.agg #[.int .i64 n,dp,sp,ep,.int .i64 dI,lp],.string s] W fun e w'=>e=.returned (.bool b)/\Below W.heap.size W w':=by
 have gout:∀{o o':Obj} (g:G ((W.alloc o).alloc o')),Below W.heap.size W g.W:=fun g=>(((ar _ _).alloc (aq _) _).alloc (by simp) _).trans (g.below.mono (by simp;omega));have HB:=aa hB;have HP:=aa hp;have HR:=aa hb;have HSC:=aa ht.scope;have HD:=aa hd0;have hlm:=hp.hd.2.1;clear hb hp hd0;go_enter Tryz.func197,Tryz.ntmps197
 go_upto_region 1 with (fail)
 refine aG ?_;intro gg;have goutW:∀(g:G (gw0 gg)),Below W.heap.size W g.W:=fun g=>gout g;have goutB:∀(g:G (gw0 gg)),Below Wb.heap.size Wb g.W:=fun g=>HB.out.trans ((goutW g).mono HB.out.size);go_wp2_with fail
 rcases aL (iL (gN t) s)with hh | hh
 ·refine(aD (g:=gg) (has_v (HSC.out.below (gout gg)) hh)).mono ?_;rintro _ _ ⟨rfl,gg,rfl⟩;have HK:=aa (show b=pU t by rw[HR.out];unfold sS;rw[if_pos hh]);clear hh hk
  cases t with
  |decl i=>simp[jS]at hu
  |stmt x d lo=>
   obtain⟨rfl,⟨a,A5,c5,A9,c9,A12,c12,A13,c13,rfl,hr,_⟩,rfl,rfl,hsc⟩:=ht;clear hr hsc hR hu hB;go_wp2_with fail;go_ret;exact⟨aC (by rw[HK.out];rfl),goutW _⟩
  |expr x lo=>
   obtain⟨rfl,rfl,⟨a,A,c,rfl,hr,_⟩,rfl,hsc⟩:=ht;have q0:∀g:G (gw0 gg),g.W.cell? ⟨a.block,a.off,ak⟩=ag (.int .i64 x.f0):=fun g=>aE (goutB g) (by have:=hr 0 _ rfl;rwa [gm]at this);clear hr hsc hR hu hB
   by_cases k:x.f0=2
   ·have K:=aa k;rw[k]at q0;clear k;have q:=q0 gg;go_wp2_with fail;go_ret;exact⟨aC (by rw[HK.out];simp[pU,K.out]),goutW _⟩
   ·have b2:=bf k;have K:=aa k;clear k;have q:=q0 gg;go_wp2_with fail;go_ret;exact⟨aC (by rw[HK.out];simp[pU,K.out]),goutW _⟩
 ·refine(aD (g:=gg) (has_v (HSC.out.below (gout gg)) hh)).mono ?_;rintro _ _ ⟨rfl,gg,rfl⟩;obtain⟨i,hi⟩:∃i,cG ds s=ag i:=hk.elim (fun h=>by rw[hh]at h;cases h) id;have hlt:=findB_lt hi;have HK:=aa (show b=sD (aI ds (i:Int)) t by rw[HR.out];unfold sS;rw[if_neg (by simp[hh]),hi];rfl);clear hh hk;go_wp2_with fail;refine(find_calls nm wd ln ds A3 c3 A4 bd.length c4 s gg.W (Kd.aF HP.out.hd (goutB gg)) HP.out.hld).mono ?_;rintro _ w9 ⟨q,rfl,hF,hb9⟩;obtain⟨ad,hA,rfl⟩:=hF.2 i hi;obtain⟨gg,rfl⟩:∃g:G (gw0 gg),w9=g.W:=⟨mkG (gg.below.trans (hb9.mono gg.below.size)),rfl⟩;obtain⟨ad2,A9d,c9d,e1,p0,p1,p2,p3,_⟩:=eD HP.out.hd (i:Int) (bo _) (by omega);rw[hA]at e1;cases e1;rw[ax]at p0 p2;have he:=addr_eta p0;have z0:=aE (goutB gg) p0;have z2:=aE (goutB gg) p2;rw[he]at z0;have D0:=aa (HD.out _ (eJ hlt));clear hb9 hF p0 p1 p2 p3 hA hi;generalize (ad.add (i*4)).block=bb at*;generalize (ad.add (i*4)).off=oo at*
  cases t with
  |decl j=>simp[jS]at hu
  |stmt x d lo=>
   obtain⟨rfl,⟨a,A5,c5,A9,c9,A12,c12,A13,c13,rfl,hr,_⟩,rfl,rfl,hsc⟩:=ht
   have hx:x.f0=1\/x.f0=2\/x.f0=5:=by
    simp only[jS]at hu
    split at hu
    ·assumption
    ·cases hu
   have q0:gg.W.cell? ⟨a.block,a.off,ak⟩=ag (.int .i64 x.f0):=aE (goutB gg) (by have:=hr 0 _ rfl;rwa [gm]at this);clear hr hsc hR hu hB
   rcases hx with k | k | k
   ·rw[k]at q0;have K:=aa k;clear k;go_wp2_with fail;go_ret;exact⟨aC (by rw[HK.out];simp[sD,K.out] <;> rfl),goutW _⟩
   ·rw[k]at q0;have K:=aa k;clear k
    by_cases h2:(aI ds (i:Int)).f2=0
    ·have g2:¬(aI ds (i:Int)).f2 > 0:=by omega
     have H2:=aa h2;clear h2;go_wp2_with fail;go_ret;exact⟨aC (by rw[HK.out];simp[sD,K.out,H2.out]),goutW _⟩
    ·have g2:(aI ds (i:Int)).f2 > 0:=by have:=D0.out;omega
     have H2:=aa h2;clear h2;go_wp2_with fail;go_ret;exact⟨aC (by rw[HK.out];simp[sD,K.out,H2.out] <;> rfl),goutW _⟩
   ·rw[k]at q0;have K:=aa k;clear k;go_wp2_with fail;go_ret;exact⟨aC (by rw[HK.out];simp[sD,K.out] <;> rfl),goutW _⟩
  |expr x lo=>
   obtain⟨rfl,rfl,⟨a,A,c,rfl,hr,_⟩,rfl,hsc⟩:=ht
   have hx:x.f0=2\/x.f0=3:=by
    simp only[jS]at hu
    split at hu
    ·assumption
    ·cases hu
   have q0:gg.W.cell? ⟨a.block,a.off,ak⟩=ag (.int .i64 x.f0):=aE (goutB gg) (by have:=hr 0 _ rfl;rwa [gm]at this);clear hr hsc hR hu hB
   rcases hx with k | k
   ·rw[k]at q0;have K:=aa k;clear k;go_wp2_with fail;go_ret;exact⟨aC (by rw[HK.out];simp[sD,K.out] <;> rfl),goutW _⟩
   ·rw[k]at q0;have K:=aa k;clear k
    by_cases h2:(aI ds (i:Int)).f2=0
    ·have g2:¬(aI ds (i:Int)).f2 > 0:=by omega
     have H2:=aa h2;clear h2;go_wp2_with fail;go_ret;exact⟨aC (by rw[HK.out];simp[sD,K.out,H2.out]),goutW _⟩
    ·have g2:(aI ds (i:Int)).f2 > 0:=by have:=D0.out;omega
     have H2:=aa h2;clear h2;go_wp2_with fail;go_ret;exact⟨aC (by rw[HK.out];simp[sD,K.out,H2.out]),goutW _⟩
end
end Go.Proofs.YtfigjpehecibeaaGreat.L
