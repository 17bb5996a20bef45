/- Texts joined by a program of mine: Wy Wl Lr Lq Wf Wc Va Ta Tc Td. -/
import Derived.Deep.MidRow
import Derived.Test.YtfigjpehecibeaaGreatZh2
import Derived.Test.YtfigjpehecibeaaGreatZh3
set_option maxRecDepth 100000
open And renaming intro -> aj
open Bool renaming false -> ac, true -> af, false_and -> jk, false_eq_true -> kn
open Decidable renaming em -> gy
open Go.Act renaming put -> ay
open Go.Ending renaming returned -> gj
open Go.IntKind renaming bits -> jf, signed -> js
open Go.Oper renaming wp -> jm
open Go.Proofs.Tryz renaming prog -> au, underlying125 -> fz
open Go.Proofs.YtfigjpehecibeaaGreatW.PrintWords.Aside0 renaming mk -> aa
open Go.Region renaming wanted -> dq
open Go.RowKit.Below renaming refl -> ar, heap_alloc -> ic, heap_setCell -> dn
open Go.Value renaming ownBlock -> ee, int -> bh
open Go.World renaming block_lt_of_cell? -> av, setCell -> ji
open Int renaming natCast_nonneg -> bo, toNat_natCast -> ax, natCast_mul -> iy, lt_or_le -> dh
open List renaming mem_cons -> iv, cons_append -> gp, map_append -> ef, length_append -> ba, length_singleton -> bq, setIfInBounds_toArray -> ae, set_cons_zero -> ah, set_cons_succ -> ai, take_length -> eu, sizeOf_lt_of_mem -> gq, range -> bu, range_succ -> jz, drop_eq_nil_of_le -> jw, getD_eq_getElem?_getD -> aw, drop_eq_getElem_cons -> jd, getElem_mem -> gn, getElem?_map -> jb, getElem?_eq_getElem -> az, map_toArray -> cd, map_cons -> cg, map_nil -> db, take_zero -> jx, length_take -> dm
open Nat renaming zero_le -> bk, le_refl -> aq, le_trans -> bi, lt_of_lt_of_le -> br, eq_zero_or_pos -> cq, div_le_self -> jh, lt_or_ge -> gu, min_eq_right -> iz, mul_le_mul_right -> fq, min_eq_left -> di, add_assoc -> ja, not_lt_zero -> da, not_lt -> jt
open Option renaming some -> ag, none -> ak
open Or renaming inl -> bc
open SizeOf renaming sizeOf -> cz
set_option linter.unusedVariables false
set_option linter.unusedSimpArgs false
set_option maxHeartbeats 8000000
namespace Go.Proofs.YtfigjpehecibeaaGreat.L
open Go.RowKit Go.Proofs.YtfigjpehecibeaaGreatW.PrintWords Go.Proofs.YtfigjpehecibeaaGreatW.PrintLast Go.Proofs.YtfigjpehecibeaaGreatW.PrintMore Go.Proofs.YtfigjpehecibeaaGreat.Gr
section
def H (W0 wb:World)(v:Value):={ p:World × Value // Gro W0 wb p.1 v p.2 }
def H.W {W0 wb:World}{v:Value}(h:H W0 wb v):World:=h.1.1
def H.v {W0 wb:World}{v:Value}(h:H W0 wb v):Value:=h.1.2
theorem H.gro {W0 wb:World}{v:Value}(h:H W0 wb v):Gro W0 wb h.W v h.v:=h.2
def mkH {W0 wb w:World}{v v1:Value}(h:Gro W0 wb w v v1):H W0 wb v:=⟨(w,v1),h⟩
theorem H.cell {W0 wb:World}{v:Value}(h:H W0 wb v){b o:Nat}(hb:b<wb.heap.size)(hn:ag b≠v.ownBlock):h.W.cell? ⟨b,o,ak⟩=wb.cell? ⟨b,o,ak⟩:=h.gro.cell (a:=⟨b,o,ak⟩) hb hn
attribute [local go_sem] G.cell H.cell
theorem under78:Tryz.prog.underlying 52=ag (.slice 9):=by kernel_rfl
def StmtsC (l:List S119):Prop:=∀(W0 w:World) (v lv:Value) (xs:List Th) (lo:List ByteArray) (A:Option Addr) (c d:Nat) (dI:Int),dI=(d:Int)->Below W0.heap.size W0 w->dN.C W0 A l.length l->l.length<=c->
 Li 125 W0 w v xs->Lo W0 w v lv lo->xs.length+Ot.cK l<=8388608->d+Ot.cK l<=8388608->lo.length<=d->
 Calls au 127 #[v,.slice A l.length c,.int .i64 dI,lv] w fun r w'=>∃v1,r=.returned v1/\Li 125 W0 w' v1 (xs++aN l d lo)/\Gro W0 w w' v v1
theorem j9 {l:List S119}{x:S119}(h:x∈l):Ot.oM x<=Ot.cK l:=by
 induction l with
 |nil=>cases h
 |cons y r ih=>
  rw[Ot.cK]
  rcases iv.1 h with rfl | h
  ·omega
  ·have:=ih h;omega
theorem oC (l r:List S119):Ot.cK (l++r)=Ot.cK l+Ot.cK r:=by
 induction l with
 |nil=>simp[Ot.cK]
 |cons y s ih=>rw[gp,Ot.cK,ih,Ot.cK];omega
theorem bulkTs_take (l:List S119)(k:Nat):Ot.cK (l.take k)<=Ot.cK l:=by
 have h:=oC (l.take k) (l.drop k);rw[List.take_append_drop]at h;omega
theorem bO (x:S119):Ot.oM x=1+Ot.qB x.f2+Ot.qB x.f3+Ot.cK x.f6+Ot.cK x.f7:=by
 obtain⟨a,b,c,d,e,f,g,h⟩:=x;rw[Ot.oM]
theorem reps_nil {w:World}{b:Nat}{ok:Nat->Prop}:gQ (Kd.string.M w b ok) Kd.string.sz [] []:=⟨rfl,fun j p hj=>by simp at hj⟩
theorem R_lt {α:Type}{d:Kd α}{e:Nat}{w:World}{base:Nat}{ok:Nat->Prop}{v:Value}{xs:List α}(h:d.R e w base ok v xs):∀k,v.ownBlock=ag k->k<w.heap.size:=by
 obtain⟨_,inner,ho,_⟩:=h;exact fun k hk=>rK ho k hk
theorem R_apart {α:Type}{d:Kd α}{e:Nat}{w w1:World}{base:Nat}{ok:Nat->Prop}{v u:Value}{xs:List α}(h:d.R e w base ok v xs)(hg:w.grownBy w1 ak){b:Nat}(hb:u.ownBlock=ag b)(hle:w.heap.size<=b):d.R e w1 base (fun k=>ag k≠u.ownBlock) v xs:=
 Kd.dW (Kd.lQ (Kd.d7 h) hg (fun _ _=>by simp)) (fun k hk he=>by
  rw[hb]at he;injection he with he;have:=hk.2.2.1
  omega)
theorem Lo.reads {W0 w:World}{v:Value}{A:Option Addr}{n c:Nat}{lo:List ByteArray}(h:Lo W0 w v (.slice A n c) lo):Kd.string.C w A lo.length lo:=by
 obtain⟨A',c',e,l,g⟩:=Kd.cO h;injection e with e1 e2 e3;subst e1;exact g
theorem Lo.new {W0 w w1:World}{v lv:Value}{lo:List ByteArray}(hv:∀k,v.ownBlock=ag k->k<w.heap.size)(hb:W0.heap.size<=w.heap.size)(h:Kd.string.R 9 w1 w.heap.size (fun _=>True) lv lo):Lo W0 w1 v lv lo:=
 Kd.fK (Kd.dW (Kd.d7 h) (fun k hk he=>by
  have h1:=hk.2.1;have h2:=hv k he.symm
  omega)) hb
theorem stmts_walk (l:List S119)(ih:∀x∈l,StmtsC x.f6/\StmtsC x.f7):StmtsC l:=by
 intro W0 w v lv xs lo A c d dI hdI hb hc hl HL HO hn hd hld;obtain⟨La,lc,rfl⟩:=Kd.bN HO;have IH:=aa ih;have HC:=aa hc;have HB:=aa hb;have HLi:=aa HL;have HLo:=aa HO;have HN:=aa (aj hn (aj hd hld));subst hdI;have hlm:=hc.2.1;clear ih hc hb HL HO hn hd hld;go_enter Tryz.func127,Tryz.ntmps127;go_wp2_with fail
 go_loopw [9,0] (fun i l2 W=>∃(k:Nat) (l1:Value) (W1:World),i=.int .i64 k/\l1=l2/\W1=W/\k<=l.length/\Aside0 (Li 125 W0 W1 l1 (xs++aN (l.take k) d lo)/\Gro W0 w W1 v l1/\Lo W0 W1 l1 (.slice La lo.length lc) lo)) (fun i _ _=>l.length - (intOf i).toNat)
 case atStart=>exact⟨0,_,_,rfl,rfl,rfl,bk _,⟨by simpa[aN]using HLi.out,Gro.of_below v HB.out (ar _ _),HLo.out⟩⟩
 case round=>
  obtain⟨k,l1,W1,rfl,rfl,rfl,hk,HREL⟩:=hrel
  by_cases hlt:k<l.length
  ·obtain⟨ad,A5,c5,A9,c9,A12,c12,A13,c13,e1,q0,q1,q2,q3,q4,q5,q6,q7,q8,q9,q10,q11,q12,q13,l5,g5,l9,g9,l12,g12,l13,g13⟩:=jX HC.out (k:Int) (bo _) (by omega);cases e1;rw[ax]at q0 q1 q2 q3 q4 q5 q6 q7 q8 q9 q10 q11 q12 q13;have hBB:=HREL.out.2.1.below;replace q0:=(hBB.cell (av W0 _ q0)).trans q0;replace q1:=(hBB.cell (av W0 _ q1)).trans q1;replace q2:=(hBB.cell (av W0 _ q2)).trans q2;replace q3:=(hBB.cell (av W0 _ q3)).trans q3;replace q4:=(hBB.cell (av W0 _ q4)).trans q4;replace q5:=(hBB.cell (av W0 _ q5)).trans q5;replace q6:=(hBB.cell (av W0 _ q6)).trans q6;replace q7:=(hBB.cell (av W0 _ q7)).trans q7;replace q8:=(hBB.cell (av W0 _ q8)).trans q8;replace q9:=(hBB.cell (av W0 _ q9)).trans q9;replace q10:=(hBB.cell (av W0 _ q10)).trans q10;replace q11:=(hBB.cell (av W0 _ q11)).trans q11;replace q12:=(hBB.cell (av W0 _ q12)).trans q12;replace q13:=(hBB.cell (av W0 _ q13)).trans q13
   have hi1:(k:Int)<(l.length:Int):=by omega
   have K:=aa (aj l5 (aj g5 (aj l9 (aj g9 (aj l12 (aj g12 (aj l13 g13)))))));have HBB:=aa hBB;clear l5 g5 l9 g9 l12 g12 l13 g13 hBB;have MEM:=j5 hlt;have T:=aa (congrArg (fun l=>aN l d lo) (e9 hlt));have T2:=aa (aj (congrArg Ot.cK (e9 hlt)) (bulkTs_take l (k+1)));have IH1:=aa (IH.out _ MEM);clear MEM;generalize aR l (k:Int)=y at*
   have HSZ:xs.length+(aN (l.take k) d lo).length+Ot.oM y<=8388608/\d+Ot.oM y<=8388608:=by
    obtain⟨h1,h2⟩:=T2.out;obtain⟨h3,h4,_⟩:=HN.out;have h5:=dF (l.take k) d lo;rw[oC]at h1;simp only[Ot.cK]at h1;omega
   have HS:=aa HSZ;clear HSZ;have hvl:=aa (Li.lt HREL.out.1);have hne:ag W1.heap.size≠l1.ownBlock:=fY hvl.out (aq _)
   have kk:y.f0=1\/y.f0=3\/y.f0=2\/y.f0=4\/(¬y.f0=1/\¬y.f0=3/\¬y.f0=2/\¬y.f0=4):=by omega
   rcases kk with h0 | h0 | h0 | h0 | ⟨n1,n3,n2,n4⟩
   ·rw[h0]at q0;have H0:=aa h0;clear h0
    go_upto_region 5 with (fail)
    refine aG ?_;intro gg;have gout:∀{o:Obj} (g:G (W1.alloc o)),Below W1.heap.size W1 g.W:=fun g=>((ar _ _).alloc (aq _) _).trans (g.below.mono (by simp))
    go_wp2_with ((with_reducible refine eY (b:=.append) (xs:= #[.tmp 22,.tmp 27]) rfl ?_);at_builtin;refine Kd.cX (kTh W0) (w0:=W0) W0.heap.size rfl (.tmp 22) (.tmp 27) 112 125 zTh 304 rfl mX rU rfl (show 0<22 by decide) (by decide) l1 ((xs++aN (l.take k) d lo).map aZ) (aZ (.stmt y d lo)) [.int .i64 1,.int .i64 0,.int .i64 1,.string y.f1,.int .i64 y.f2.f0,.int .u64 y.f2.f1,.string y.f2.f2,.slice A5 y.f2.f3.length c5,.int .i64 y.f3.f0,.int .u64 y.f3.f1,.string y.f3.f2,.slice A9 y.f3.f3.length c9,.int .u64 y.f4,.int .u64 y.f5,.slice A12 y.f6.length c12,.slice A13 y.f7.length c13,.int .i64 0,.int .u64 0,.string ⟨#[]⟩,.slice ak 0 0,.int .i64 (d:Int),.slice La lo.length lc] (fun _=>True) (fun k=>ag k≠l1.ownBlock) rfl rfl (by have hm:=(qU (x:=aZ (.stmt y d lo)) (mU W0 y K.out.1 K.out.2.1 K.out.2.2.1 K.out.2.2.2.1 K.out.2.2.2.2.1 K.out.2.2.2.2.2.1 K.out.2.2.2.2.2.2.1 K.out.2.2.2.2.2.2.2) (kK W0) (HREL.out.2.2.below (gout gg)));rw[H0.out]at hm;exact hm) (fun _ h=>⟨trivial,h⟩) (fun _ _=>trivial) (HREL.out.1.below (gout gg)) (HBB.out.trans ((gout gg).mono HBB.out.size)) (bi HBB.out.size (gout gg).size) (by have:=HS.out;have:=bO y;simp;omega) ?_;intro v2 w2 ho hb2 hg2 hat2;obtain⟨h,rfl,rfl⟩:∃h:H W0 (gw0 gg) l1,h.W=w2/\h.v=v2:=⟨mkH ((Gro.of_below l1 (HBB.out.trans (((ar W1.heap.size W1).alloc (aq _) _).mono HBB.out.size)) gg.below).trans ⟨hb2,hg2,hat2⟩),rfl,rfl⟩;have HL2:=aa (show Li 125 W0 h.W h.v (xs++aN (l.take k) d lo++[.stmt y d lo]) by unfold Li;rw[ef];exact ho);have HO2:=aa ((HREL.out.2.2.below (gout gg)).step ⟨hb2,hg2,hat2⟩);clear ho hb2 hg2 hat2)
    have C:=kM _ y.f3 (aq _) W0 h.W h.v (.slice La lo.length lc) (xs++aN (l.take k) d lo++[Th.stmt y d lo]) lo A9 c9 h.gro.below K.out.2.2.2.1 K.out.2.2.1 HL2.out HO2.out (by have h1:=HS.out.1;have h2:=bO y;have h3:=aS y.f3;have h4:=aS y.f2;simp only[ba,bq,cH];omega);refine C.mono ?_;clear C;rintro _ w3 ⟨v3,rfl,hL,hG⟩;have HL2:=aa hL;have HO2:=aa (HO2.out.step hG);obtain⟨h,rfl,rfl⟩:∃h':H W0 (gw0 gg) l1,h'.W=w3/\h'.v=v3:=⟨mkH (h.gro.trans hG),rfl,rfl⟩;clear hL hG;go_wp2_with fail;have C:=IH1.out.1 W0 h.W h.v (.slice La lo.length lc) (xs++aN (l.take k) d lo++[Th.stmt y d lo]++eB y.f3 lo) (lo) A12 c12 (d+1) (wrap64 ((d:Int)+1)) (lO (by have:=HN.out.2.1;omega)) h.gro.below K.out.2.2.2.2.2.1 K.out.2.2.2.2.1 HL2.out HO2.out (by have h1:=HS.out.1;have h2:=bO y;have h3:=aS y.f3;have h4:=aS y.f2;have h5:=dF y.f6 (d+1) (lo);simp only[ba,bq,cH];omega) (by have h1:=HS.out.2;have h2:=bO y;omega) (by have h1:=HN.out.2.2;simp;omega);refine C.mono ?_;clear C;rintro _ w3 ⟨v3,rfl,hL,hG⟩;have HL2:=aa hL;have HO2:=aa (HO2.out.step hG);obtain⟨h,rfl,rfl⟩:∃h':H W0 (gw0 gg) l1,h'.W=w3/\h'.v=v3:=⟨mkH (h.gro.trans hG),rfl,rfl⟩;clear hL hG;go_wp2_with fail;have C:=IH1.out.2 W0 h.W h.v (.slice La lo.length lc) (xs++aN (l.take k) d lo++[Th.stmt y d lo]++eB y.f3 lo++aN y.f6 (d+1) (lo)) (lo) A13 c13 (d+1) (wrap64 ((d:Int)+1)) (lO (by have:=HN.out.2.1;omega)) h.gro.below K.out.2.2.2.2.2.2.2 K.out.2.2.2.2.2.2.1 HL2.out HO2.out (by have h1:=HS.out.1;have h2:=bO y;have h3:=aS y.f3;have h4:=aS y.f2;have h5:=dF y.f6 (d+1) (lo);simp only[ba,bq,cH];omega) (by have h1:=HS.out.2;have h2:=bO y;omega) (by have h1:=HN.out.2.2;simp;omega);refine C.mono ?_;clear C;rintro _ w3 ⟨v3,rfl,hL,hG⟩;have HL2:=aa hL;have HO2:=aa (HO2.out.step hG);obtain⟨h,rfl,rfl⟩:∃h':H W0 (gw0 gg) l1,h'.W=w3/\h'.v=v3:=⟨mkH (h.gro.trans hG),rfl,rfl⟩;clear hL hG;go_wp2_with fail
    have hx:xs++aN (l.take k) d lo++[Th.stmt y d lo]++eB y.f3 lo++aN y.f6 (d+1) (lo)++aN y.f7 (d+1) (lo)=xs++aN (l.take (k+1)) d lo:=by
     have e1:=T.out;simp only[eU]at e1;rw[e1,d6];simp[H0.out,inLoop]
    refine⟨⟨k+1,h.v,h.W,by go_num,rfl,rfl,by omega,⟨hx ▸ HL2.out,HREL.out.2.1.trans ((Gro.of_below l1 HBB.out ((ar _ _).alloc (aq _) _)).trans h.gro),HO2.out⟩⟩,by simp[intOf];omega⟩
   ·rw[h0]at q0;have H0:=aa h0;clear h0
    go_upto_region 5 with (fail)
    refine aG ?_;intro gg;have gout:∀{o:Obj} (g:G (W1.alloc o)),Below W1.heap.size W1 g.W:=fun g=>((ar _ _).alloc (aq _) _).trans (g.below.mono (by simp))
    go_wp2_with ((with_reducible refine eY (b:=.append) (xs:= #[.tmp 22,.tmp 27]) rfl ?_);at_builtin;refine Kd.cX (kTh W0) (w0:=W0) W0.heap.size rfl (.tmp 22) (.tmp 27) 112 125 zTh 304 rfl mX rU rfl (show 0<22 by decide) (by decide) l1 ((xs++aN (l.take k) d lo).map aZ) (aZ (.stmt y d lo)) [.int .i64 1,.int .i64 0,.int .i64 3,.string y.f1,.int .i64 y.f2.f0,.int .u64 y.f2.f1,.string y.f2.f2,.slice A5 y.f2.f3.length c5,.int .i64 y.f3.f0,.int .u64 y.f3.f1,.string y.f3.f2,.slice A9 y.f3.f3.length c9,.int .u64 y.f4,.int .u64 y.f5,.slice A12 y.f6.length c12,.slice A13 y.f7.length c13,.int .i64 0,.int .u64 0,.string ⟨#[]⟩,.slice ak 0 0,.int .i64 (d:Int),.slice La lo.length lc] (fun _=>True) (fun k=>ag k≠l1.ownBlock) rfl rfl (by have hm:=(qU (x:=aZ (.stmt y d lo)) (mU W0 y K.out.1 K.out.2.1 K.out.2.2.1 K.out.2.2.2.1 K.out.2.2.2.2.1 K.out.2.2.2.2.2.1 K.out.2.2.2.2.2.2.1 K.out.2.2.2.2.2.2.2) (kK W0) (HREL.out.2.2.below (gout gg)));rw[H0.out]at hm;exact hm) (fun _ h=>⟨trivial,h⟩) (fun _ _=>trivial) (HREL.out.1.below (gout gg)) (HBB.out.trans ((gout gg).mono HBB.out.size)) (bi HBB.out.size (gout gg).size) (by have:=HS.out;have:=bO y;simp;omega) ?_;intro v2 w2 ho hb2 hg2 hat2;obtain⟨h,rfl,rfl⟩:∃h:H W0 (gw0 gg) l1,h.W=w2/\h.v=v2:=⟨mkH ((Gro.of_below l1 (HBB.out.trans (((ar W1.heap.size W1).alloc (aq _) _).mono HBB.out.size)) gg.below).trans ⟨hb2,hg2,hat2⟩),rfl,rfl⟩;have HL2:=aa (show Li 125 W0 h.W h.v (xs++aN (l.take k) d lo++[.stmt y d lo]) by unfold Li;rw[ef];exact ho);have HO2:=aa ((HREL.out.2.2.below (gout gg)).step ⟨hb2,hg2,hat2⟩);clear ho hb2 hg2 hat2)
    have C:=kM _ y.f3 (aq _) W0 h.W h.v (.slice La lo.length lc) (xs++aN (l.take k) d lo++[Th.stmt y d lo]) lo A9 c9 h.gro.below K.out.2.2.2.1 K.out.2.2.1 HL2.out HO2.out (by have h1:=HS.out.1;have h2:=bO y;have h3:=aS y.f3;have h4:=aS y.f2;simp only[ba,bq,cH];omega);refine C.mono ?_;clear C;rintro _ w3 ⟨v3,rfl,hL,hG⟩;have HL2:=aa hL;have HO2:=aa (HO2.out.step hG);obtain⟨h,rfl,rfl⟩:∃h':H W0 (gw0 gg) l1,h'.W=w3/\h'.v=v3:=⟨mkH (h.gro.trans hG),rfl,rfl⟩;clear hL hG;go_wp2_with fail;have C:=IH1.out.1 W0 h.W h.v (.slice La lo.length lc) (xs++aN (l.take k) d lo++[Th.stmt y d lo]++eB y.f3 lo) (lo) A12 c12 (d+1) (wrap64 ((d:Int)+1)) (lO (by have:=HN.out.2.1;omega)) h.gro.below K.out.2.2.2.2.2.1 K.out.2.2.2.2.1 HL2.out HO2.out (by have h1:=HS.out.1;have h2:=bO y;have h3:=aS y.f3;have h4:=aS y.f2;have h5:=dF y.f6 (d+1) (lo);simp only[ba,bq,cH];omega) (by have h1:=HS.out.2;have h2:=bO y;omega) (by have h1:=HN.out.2.2;simp;omega);refine C.mono ?_;clear C;rintro _ w3 ⟨v3,rfl,hL,hG⟩;have HL2:=aa hL;have HO2:=aa (HO2.out.step hG);obtain⟨h,rfl,rfl⟩:∃h':H W0 (gw0 gg) l1,h'.W=w3/\h'.v=v3:=⟨mkH (h.gro.trans hG),rfl,rfl⟩;clear hL hG;go_wp2_with fail;have C:=IH1.out.2 W0 h.W h.v (.slice La lo.length lc) (xs++aN (l.take k) d lo++[Th.stmt y d lo]++eB y.f3 lo++aN y.f6 (d+1) (lo)) (lo) A13 c13 (d+1) (wrap64 ((d:Int)+1)) (lO (by have:=HN.out.2.1;omega)) h.gro.below K.out.2.2.2.2.2.2.2 K.out.2.2.2.2.2.2.1 HL2.out HO2.out (by have h1:=HS.out.1;have h2:=bO y;have h3:=aS y.f3;have h4:=aS y.f2;have h5:=dF y.f6 (d+1) (lo);simp only[ba,bq,cH];omega) (by have h1:=HS.out.2;have h2:=bO y;omega) (by have h1:=HN.out.2.2;simp;omega);refine C.mono ?_;clear C;rintro _ w3 ⟨v3,rfl,hL,hG⟩;have HL2:=aa hL;have HO2:=aa (HO2.out.step hG);obtain⟨h,rfl,rfl⟩:∃h':H W0 (gw0 gg) l1,h'.W=w3/\h'.v=v3:=⟨mkH (h.gro.trans hG),rfl,rfl⟩;clear hL hG;go_wp2_with fail
    have hx:xs++aN (l.take k) d lo++[Th.stmt y d lo]++eB y.f3 lo++aN y.f6 (d+1) (lo)++aN y.f7 (d+1) (lo)=xs++aN (l.take (k+1)) d lo:=by
     have e1:=T.out;simp only[eU]at e1;rw[e1,d6];simp[H0.out,inLoop]
    refine⟨⟨k+1,h.v,h.W,by go_num,rfl,rfl,by omega,⟨hx ▸ HL2.out,HREL.out.2.1.trans ((Gro.of_below l1 HBB.out ((ar _ _).alloc (aq _) _)).trans h.gro),HO2.out⟩⟩,by simp[intOf];omega⟩
   ·rw[h0]at q0;have H0:=aa h0;clear h0
    go_upto_region 5 with (fail)
    refine aG ?_;intro gg;have gout:∀{o:Obj} (g:G (W1.alloc o)),Below W1.heap.size W1 g.W:=fun g=>((ar _ _).alloc (aq _) _).trans (g.below.mono (by simp))
    go_wp2_with ((with_reducible refine eY (b:=.append) (xs:= #[.tmp 22,.tmp 27]) rfl ?_);at_builtin;refine Kd.cX (kTh W0) (w0:=W0) W0.heap.size rfl (.tmp 22) (.tmp 27) 112 125 zTh 304 rfl mX rU rfl (show 0<22 by decide) (by decide) l1 ((xs++aN (l.take k) d lo).map aZ) (aZ (.stmt y d lo)) [.int .i64 1,.int .i64 0,.int .i64 2,.string y.f1,.int .i64 y.f2.f0,.int .u64 y.f2.f1,.string y.f2.f2,.slice A5 y.f2.f3.length c5,.int .i64 y.f3.f0,.int .u64 y.f3.f1,.string y.f3.f2,.slice A9 y.f3.f3.length c9,.int .u64 y.f4,.int .u64 y.f5,.slice A12 y.f6.length c12,.slice A13 y.f7.length c13,.int .i64 0,.int .u64 0,.string ⟨#[]⟩,.slice ak 0 0,.int .i64 (d:Int),.slice La lo.length lc] (fun _=>True) (fun k=>ag k≠l1.ownBlock) rfl rfl (by have hm:=(qU (x:=aZ (.stmt y d lo)) (mU W0 y K.out.1 K.out.2.1 K.out.2.2.1 K.out.2.2.2.1 K.out.2.2.2.2.1 K.out.2.2.2.2.2.1 K.out.2.2.2.2.2.2.1 K.out.2.2.2.2.2.2.2) (kK W0) (HREL.out.2.2.below (gout gg)));rw[H0.out]at hm;exact hm) (fun _ h=>⟨trivial,h⟩) (fun _ _=>trivial) (HREL.out.1.below (gout gg)) (HBB.out.trans ((gout gg).mono HBB.out.size)) (bi HBB.out.size (gout gg).size) (by have:=HS.out;have:=bO y;simp;omega) ?_;intro v2 w2 ho hb2 hg2 hat2;obtain⟨h,rfl,rfl⟩:∃h:H W0 (gw0 gg) l1,h.W=w2/\h.v=v2:=⟨mkH ((Gro.of_below l1 (HBB.out.trans (((ar W1.heap.size W1).alloc (aq _) _).mono HBB.out.size)) gg.below).trans ⟨hb2,hg2,hat2⟩),rfl,rfl⟩;have HL2:=aa (show Li 125 W0 h.W h.v (xs++aN (l.take k) d lo++[.stmt y d lo]) by unfold Li;rw[ef];exact ho);have HO2:=aa ((HREL.out.2.2.below (gout gg)).step ⟨hb2,hg2,hat2⟩);clear ho hb2 hg2 hat2)
    have C:=kM _ y.f2 (aq _) W0 h.W h.v (.slice La lo.length lc) (xs++aN (l.take k) d lo++[Th.stmt y d lo]) lo A5 c5 h.gro.below K.out.2.1 K.out.1 HL2.out HO2.out (by have h1:=HS.out.1;have h2:=bO y;have h3:=aS y.f3;have h4:=aS y.f2;simp only[ba,bq,cH];omega);refine C.mono ?_;clear C;rintro _ w3 ⟨v3,rfl,hL,hG⟩;have HL2:=aa hL;have HO2:=aa (HO2.out.step hG);obtain⟨h,rfl,rfl⟩:∃h':H W0 (gw0 gg) l1,h'.W=w3/\h'.v=v3:=⟨mkH (h.gro.trans hG),rfl,rfl⟩;clear hL hG;go_wp2_with fail;have C:=kM _ y.f3 (aq _) W0 h.W h.v (.slice La lo.length lc) (xs++aN (l.take k) d lo++[Th.stmt y d lo]++eB y.f2 lo) lo A9 c9 h.gro.below K.out.2.2.2.1 K.out.2.2.1 HL2.out HO2.out (by have h1:=HS.out.1;have h2:=bO y;have h3:=aS y.f3;have h4:=aS y.f2;simp only[ba,bq,cH];omega);refine C.mono ?_;clear C;rintro _ w3 ⟨v3,rfl,hL,hG⟩;have HL2:=aa hL;have HO2:=aa (HO2.out.step hG);obtain⟨h,rfl,rfl⟩:∃h':H W0 (gw0 gg) l1,h'.W=w3/\h'.v=v3:=⟨mkH (h.gro.trans hG),rfl,rfl⟩;clear hL hG;go_wp2_with fail;have C:=IH1.out.1 W0 h.W h.v (.slice La lo.length lc) (xs++aN (l.take k) d lo++[Th.stmt y d lo]++eB y.f2 lo++eB y.f3 lo) (lo) A12 c12 (d+1) (wrap64 ((d:Int)+1)) (lO (by have:=HN.out.2.1;omega)) h.gro.below K.out.2.2.2.2.2.1 K.out.2.2.2.2.1 HL2.out HO2.out (by have h1:=HS.out.1;have h2:=bO y;have h3:=aS y.f3;have h4:=aS y.f2;have h5:=dF y.f6 (d+1) (lo);simp only[ba,bq,cH];omega) (by have h1:=HS.out.2;have h2:=bO y;omega) (by have h1:=HN.out.2.2;simp;omega);refine C.mono ?_;clear C;rintro _ w3 ⟨v3,rfl,hL,hG⟩;have HL2:=aa hL;have HO2:=aa (HO2.out.step hG);obtain⟨h,rfl,rfl⟩:∃h':H W0 (gw0 gg) l1,h'.W=w3/\h'.v=v3:=⟨mkH (h.gro.trans hG),rfl,rfl⟩;clear hL hG;go_wp2_with fail;have C:=IH1.out.2 W0 h.W h.v (.slice La lo.length lc) (xs++aN (l.take k) d lo++[Th.stmt y d lo]++eB y.f2 lo++eB y.f3 lo++aN y.f6 (d+1) (lo)) (lo) A13 c13 (d+1) (wrap64 ((d:Int)+1)) (lO (by have:=HN.out.2.1;omega)) h.gro.below K.out.2.2.2.2.2.2.2 K.out.2.2.2.2.2.2.1 HL2.out HO2.out (by have h1:=HS.out.1;have h2:=bO y;have h3:=aS y.f3;have h4:=aS y.f2;have h5:=dF y.f6 (d+1) (lo);simp only[ba,bq,cH];omega) (by have h1:=HS.out.2;have h2:=bO y;omega) (by have h1:=HN.out.2.2;simp;omega);refine C.mono ?_;clear C;rintro _ w3 ⟨v3,rfl,hL,hG⟩;have HL2:=aa hL;have HO2:=aa (HO2.out.step hG);obtain⟨h,rfl,rfl⟩:∃h':H W0 (gw0 gg) l1,h'.W=w3/\h'.v=v3:=⟨mkH (h.gro.trans hG),rfl,rfl⟩;clear hL hG;go_wp2_with fail
    have hx:xs++aN (l.take k) d lo++[Th.stmt y d lo]++eB y.f2 lo++eB y.f3 lo++aN y.f6 (d+1) (lo)++aN y.f7 (d+1) (lo)=xs++aN (l.take (k+1)) d lo:=by
     have e1:=T.out;simp only[eU]at e1;rw[e1,d6];simp[H0.out,inLoop]
    refine⟨⟨k+1,h.v,h.W,by go_num,rfl,rfl,by omega,⟨hx ▸ HL2.out,HREL.out.2.1.trans ((Gro.of_below l1 HBB.out ((ar _ _).alloc (aq _) _)).trans h.gro),HO2.out⟩⟩,by simp[intOf];omega⟩
   ·rw[h0]at q0;have H0:=aa h0;clear h0
    go_upto_region 5 with (fail)
    refine aG ?_;intro gg;have gout:∀{o:Obj} (g:G (W1.alloc o)),Below W1.heap.size W1 g.W:=fun g=>((ar _ _).alloc (aq _) _).trans (g.below.mono (by simp))
    go_wp2_with ((with_reducible refine eY (b:=.append) (xs:= #[.tmp 22,.tmp 27]) rfl ?_);at_builtin;refine Kd.cX (kTh W0) (w0:=W0) W0.heap.size rfl (.tmp 22) (.tmp 27) 112 125 zTh 304 rfl mX rU rfl (show 0<22 by decide) (by decide) l1 ((xs++aN (l.take k) d lo).map aZ) (aZ (.stmt y d lo)) [.int .i64 1,.int .i64 0,.int .i64 4,.string y.f1,.int .i64 y.f2.f0,.int .u64 y.f2.f1,.string y.f2.f2,.slice A5 y.f2.f3.length c5,.int .i64 y.f3.f0,.int .u64 y.f3.f1,.string y.f3.f2,.slice A9 y.f3.f3.length c9,.int .u64 y.f4,.int .u64 y.f5,.slice A12 y.f6.length c12,.slice A13 y.f7.length c13,.int .i64 0,.int .u64 0,.string ⟨#[]⟩,.slice ak 0 0,.int .i64 (d:Int),.slice La lo.length lc] (fun _=>True) (fun k=>ag k≠l1.ownBlock) rfl rfl (by have hm:=(qU (x:=aZ (.stmt y d lo)) (mU W0 y K.out.1 K.out.2.1 K.out.2.2.1 K.out.2.2.2.1 K.out.2.2.2.2.1 K.out.2.2.2.2.2.1 K.out.2.2.2.2.2.2.1 K.out.2.2.2.2.2.2.2) (kK W0) (HREL.out.2.2.below (gout gg)));rw[H0.out]at hm;exact hm) (fun _ h=>⟨trivial,h⟩) (fun _ _=>trivial) (HREL.out.1.below (gout gg)) (HBB.out.trans ((gout gg).mono HBB.out.size)) (bi HBB.out.size (gout gg).size) (by have:=HS.out;have:=bO y;simp;omega) ?_;intro v2 w2 ho hb2 hg2 hat2;obtain⟨h,rfl,rfl⟩:∃h:H W0 (gw0 gg) l1,h.W=w2/\h.v=v2:=⟨mkH ((Gro.of_below l1 (HBB.out.trans (((ar W1.heap.size W1).alloc (aq _) _).mono HBB.out.size)) gg.below).trans ⟨hb2,hg2,hat2⟩),rfl,rfl⟩;have HL2:=aa (show Li 125 W0 h.W h.v (xs++aN (l.take k) d lo++[.stmt y d lo]) by unfold Li;rw[ef];exact ho);have HO2:=aa ((HREL.out.2.2.below (gout gg)).step ⟨hb2,hg2,hat2⟩);clear ho hb2 hg2 hat2)
    go_upto_region 15 with (fail)
    have hsz:W1.heap.size<h.W.heap.size:=br (by simp[gw0]) h.gro.grown.size;have hw:Below W1.heap.size W1 h.W->True:=fun _=>trivial;clear hw;refine eP (n:=8) (S:=fun w'=>∃g':G h.W,w'=g'.W) (ds:=[]) #[ac,ac,ac,ac,ac,ac,ac,ac] (by kernel_rfl) rfl rfl ⟨mkG (ar _ _).drew,rfl⟩ (fun hHeld=> ?_);obtain⟨gd,hgd⟩:=hHeld;rw[hgd];clear hgd;refine aP (i:=1) (N:=ag 56) (v:= ?_) (a':= ?_) #[ac,af,ac,ac,ac,ac,ac,ac] rfl rfl (by kernel_rfl) (fun _ _ _ h=>h) (bc ⟨by rfl,?_⟩) ?_ ?_;rotate_left
    ·intro w';go_simp;with_reducible rfl
    rotate_left
    ·simp only[ay,ae,ah,ai,aJ,aK];rfl
    refine aP (i:=3) (N:=ag 58) (v:= ?_) (a':= ?_) #[ac,af,ac,af,ac,ac,ac,ac] rfl rfl (by kernel_rfl) (fun _ _ _ h=>h) (bc ⟨by rfl,?_⟩) ?_ ?_;rotate_left
    ·intro w';go_simp;with_reducible rfl
    rotate_left
    ·simp only[ay,ae,ah,ai,aJ,aK];rfl
    refine cY (i:=4) (N:=ag 59) (v:= ?_) (a':= ?_) #[ac,af,ac,af,af,ac,ac,ac] rfl rfl (by kernel_rfl) (fun _ _ _ h=>h) (bc ⟨by rfl,?_⟩) ⟨gd,rfl⟩ ?_ ?_;rotate_left
    ·rintro w' ⟨g',rfl⟩;go_simp;with_reducible rfl
    rotate_left
    ·simp only[ay,ae,ah,ai,aJ,aK];rfl
    refine join_ (σ:=Value × Value × Value) 2 #[af,af,af,af,af,af,ac,ac] (fun s=>[(55,s.1),(57,s.2.1),(60,s.2.2)]) (fun s w'=>∃g:G h.W,w'=g.W/\Kd.string.R 9 g.W h.W.heap.size (fun _=>True) s.2.1 lo/\Kd.string.R 9 g.W h.W.heap.size (fun _=>True) s.2.2 [y.f1]) ?_ (fun hJ=> ?_);rotate_left
    ·refine two_ (i:=0) (j:=5) (Ni:=ag 55) (Nj:=ag 60) #[af,af,ac,af,af,ac,ac,ac] #[ac,af,ac,af,af,af,ac,ac] rfl rfl rfl rfl (by kernel_rfl) (by simp) (by simp) ?_ ?_
     ·intro K hK;refine Kd.iM Kd.string (w0:=h.W) h.W.heap.size 9 (by rfl) (N:=55) rfl (xs:=[]) (inner:=[]) (ok:=fun _=>True) (okp:=fun _=>False) (by first | (go_simp;done) | (go_simp;rfl)) reps_nil (fun _ h=>h.elim) trivial gd.below gd.below.size (by simp) ?_;intro v55 w5 ho5 hb5 hg5 hat5;obtain⟨g5,rfl⟩:∃g:G h.W,w5=g.W:=⟨mkG hb5,rfl⟩;refine hK.out _ _ ⟨g5,rfl⟩ (fun _=> ?_);clear hK K;refine cW (a':= ?_) ?_ ?_;rotate_left
      ·show ay _ (ag 55) _ = _
       simp only[ay,ae,ah,ai,aJ,aK];rfl
      refine two_ (i:=2) (j:=5) (Ni:=ag 57) (Nj:=ag 60) #[af,af,af,af,af,ac,ac,ac] #[af,af,ac,af,af,af,ac,ac] rfl rfl rfl rfl (by kernel_rfl) (by simp) (by simp) ?_ ?_
      ·intro K hK;refine Kd.dY Kd.string (Rr:=Kd.string.K g5.W) (w0:=h.W) h.W.heap.size (by rfl) (.tmp 55) (.tmp 56) 52 9 (.string ⟨#[]⟩) 16 rfl under78 info9 rfl (by decide) (by decide) v55 [] lo La lo.length lc (fun _=>True) (fun _=>False) rfl rfl ho5 (Lo.reads (HO2.out.below g5.below)) (fun _ _ h=>h) (fun _ h=>h.elim) (fun _ _=>trivial) g5.below g5.below.size (by have:=HN.out;simp;omega) ?_;intro v57 w7 ho7 hb7 hg7 hat7;obtain⟨g7,rfl⟩:∃g:G h.W,w7=g.W:=⟨mkG hb7,rfl⟩;refine hK.out _ _ ⟨g7,rfl⟩ (fun _=> ?_);clear hK K;refine cW (a':= ?_) ?_ ?_;rotate_left
       ·show ay _ (ag 57) _ = _
        simp only[ay,ae,ah,ai,aJ,aK];rfl
       refine kH (i:=5) (N:=ag 60) #[af,af,af,af,af,af,ac,ac] rfl rfl (by kernel_rfl) (by simp) (fun K hK=> ?_);refine Kd.iM Kd.string (w0:=h.W) h.W.heap.size 9 (by rfl) (N:=60) rfl (xs:=[y.f1]) (inner:=[.string y.f1]) (ok:=fun _=>True) (okp:=fun _=>False) (by first | (go_simp;done) | (go_simp;rfl)) (Kd.kO (enc:=Value.string) [y.f1]) (fun _ h=>h.elim) trivial g7.below g7.below.size (by simp) ?_;intro v60 w6 ho6 hb6 hg6 hat6;obtain⟨g6,rfl⟩:∃g:G h.W,w6=g.W:=⟨mkG hb6,rfl⟩;refine hK.out _ _ ⟨g6,rfl⟩ (fun _=> ?_);clear hK K;refine cW (a':= ?_) ?_ ?_;rotate_left
       ·show ay _ (ag 60) _ = _
        simp only[ay,ae,ah,ai,aJ,aK];rfl
       exact cW (by first | (simp only[i9,ay,ae,ah,ai];done) | (simp only[i9,ay,ae,ah,ai];rfl)) (hJ (v55,v57,v60) _ ⟨_,rfl,Kd.lQ ho7 hg6 (fun _ _=>by simp),ho6⟩)
      ·intro K hK;refine Kd.iM Kd.string (w0:=h.W) h.W.heap.size 9 (by rfl) (N:=60) rfl (xs:=[y.f1]) (inner:=[.string y.f1]) (ok:=fun k=>ag k≠v55.ownBlock) (okp:=fun _=>False) (by first | (go_simp;done) | (go_simp;rfl)) (Kd.kO (enc:=Value.string) [y.f1]) (fun _ h=>h.elim) (fun e=>by have:=R_lt ho5 _ e.symm;omega) g5.below g5.below.size (by simp) ?_;intro v60 w6 ho6 hb6 hg6 hat6;obtain⟨g6,rfl⟩:∃g:G h.W,w6=g.W:=⟨mkG hb6,rfl⟩;refine hK.out _ _ ⟨g6,rfl⟩ (fun _=> ?_);clear hK K;refine cW (a':= ?_) ?_ ?_;rotate_left
       ·show ay _ (ag 60) _ = _
        simp only[ay,ae,ah,ai,aJ,aK];rfl
       refine kH (i:=2) (N:=ag 57) #[af,af,af,af,af,af,ac,ac] rfl rfl (by kernel_rfl) (by simp) (fun K hK=> ?_);refine Kd.dY Kd.string (Rr:=Kd.string.K g6.W) (w0:=h.W) h.W.heap.size (by rfl) (.tmp 55) (.tmp 56) 52 9 (.string ⟨#[]⟩) 16 rfl under78 info9 rfl (by decide) (by decide) v55 [] lo La lo.length lc (fun _=>True) (fun _=>False) rfl rfl (Kd.lQ ho5 hg6 (fun _ _=>by simp)) (Lo.reads (HO2.out.below g6.below)) (fun _ _ h=>h) (fun _ h=>h.elim) (fun _ _=>trivial) g6.below g6.below.size (by have:=HN.out;simp;omega) ?_;intro v57 w7 ho7 hb7 hg7 hat7;obtain⟨g7,rfl⟩:∃g:G h.W,w7=g.W:=⟨mkG hb7,rfl⟩;refine hK.out _ _ ⟨g7,rfl⟩ (fun _=> ?_);clear hK K;refine cW (a':= ?_) ?_ ?_;rotate_left
       ·show ay _ (ag 57) _ = _
        simp only[ay,ae,ah,ai,aJ,aK];rfl
       exact cW (by first | (simp only[i9,ay,ae,ah,ai];done) | (simp only[i9,ay,ae,ah,ai];rfl)) (hJ (v55,v57,v60) _ ⟨_,rfl,ho7,Kd.dW (Kd.lQ ho6 hg7 (fun k hk=>hk)) (fun _ _=>trivial)⟩)
     ·intro K hK;refine Kd.iM Kd.string (w0:=h.W) h.W.heap.size 9 (by rfl) (N:=60) rfl (xs:=[y.f1]) (inner:=[.string y.f1]) (ok:=fun _=>True) (okp:=fun _=>False) (by first | (go_simp;done) | (go_simp;rfl)) (Kd.kO (enc:=Value.string) [y.f1]) (fun _ h=>h.elim) trivial gd.below gd.below.size (by simp) ?_;intro v60 w6 ho6 hb6 hg6 hat6;obtain⟨g6,rfl⟩:∃g:G h.W,w6=g.W:=⟨mkG hb6,rfl⟩;refine hK.out _ _ ⟨g6,rfl⟩ (fun _=> ?_);clear hK K;refine cW (a':= ?_) ?_ ?_;rotate_left
      ·show ay _ (ag 60) _ = _
       simp only[ay,ae,ah,ai,aJ,aK];rfl
      refine kH (i:=0) (N:=ag 55) #[af,af,ac,af,af,af,ac,ac] rfl rfl (by kernel_rfl) (by simp) (fun K hK=> ?_);refine Kd.iM Kd.string (w0:=h.W) h.W.heap.size 9 (by rfl) (N:=55) rfl (xs:=[]) (inner:=[]) (ok:=fun _=>True) (okp:=fun _=>False) (by first | (go_simp;done) | (go_simp;rfl)) reps_nil (fun _ h=>h.elim) trivial g6.below g6.below.size (by simp) ?_;intro v55 w5 ho5 hb5 hg5 hat5;obtain⟨g5,rfl⟩:∃g:G h.W,w5=g.W:=⟨mkG hb5,rfl⟩;refine hK.out _ _ ⟨g5,rfl⟩ (fun _=> ?_);clear hK K;refine cW (a':= ?_) ?_ ?_;rotate_left
      ·show ay _ (ag 55) _ = _
       simp only[ay,ae,ah,ai,aJ,aK];rfl
      obtain⟨b5,hb5',hle5⟩:=hat5;have ho6:=R_apart ho6 hg5 hb5' hle5;refine kH (i:=2) (N:=ag 57) #[af,af,af,af,af,af,ac,ac] rfl rfl (by kernel_rfl) (by simp) (fun K hK=> ?_);refine Kd.dY Kd.string (Rr:=Kd.string.K g5.W) (w0:=h.W) h.W.heap.size (by rfl) (.tmp 55) (.tmp 56) 52 9 (.string ⟨#[]⟩) 16 rfl under78 info9 rfl (by decide) (by decide) v55 [] lo La lo.length lc (fun _=>True) (fun _=>False) rfl rfl ho5 (Lo.reads (HO2.out.below g5.below)) (fun _ _ h=>h) (fun _ h=>h.elim) (fun _ _=>trivial) g5.below g5.below.size (by have:=HN.out;simp;omega) ?_;intro v57 w7 ho7 hb7 hg7 hat7;obtain⟨g7,rfl⟩:∃g:G h.W,w7=g.W:=⟨mkG hb7,rfl⟩;refine hK.out _ _ ⟨g7,rfl⟩ (fun _=> ?_);clear hK K;refine cW (a':= ?_) ?_ ?_;rotate_left
      ·show ay _ (ag 57) _ = _
       simp only[ay,ae,ah,ai,aJ,aK];rfl
      exact cW (by first | (simp only[i9,ay,ae,ah,ai];done) | (simp only[i9,ay,ae,ah,ai];rfl)) (hJ (v55,v57,v60) _ ⟨_,rfl,ho7,Kd.dW (Kd.lQ ho6 hg7 (fun k hk=>hk)) (fun _ _=>trivial)⟩)
    rintro⟨v55,v57,v60⟩ _ ⟨gd,rfl,ho7,ho6⟩;refine cW (a':= ?_) ?_ ?_;rotate_left
    ·simp only[i9,ay,ae,ah,ai];rfl
    obtain⟨A60,c60,e60,l60,g60⟩:=Kd.cO ho6;simp only at e60;subst e60;refine kH (i:=6) (N:=ag 61) #[af,af,af,af,af,af,af,ac] rfl rfl (by kernel_rfl) (by simp) (fun K hK=> ?_);refine Kd.dY Kd.string (Rr:=Kd.string.K gd.W) (w0:=h.W) h.W.heap.size (by rfl) (.tmp 57) (.tmp 60) 52 9 (.string ⟨#[]⟩) 16 rfl under78 info9 rfl (by decide) (by decide) v57 lo [y.f1] A60 1 c60 (fun _=>True) (fun _=>False) rfl rfl ho7 g60 (fun _ _ h=>h) (fun _ h=>h.elim) (fun _ _=>trivial) gd.below gd.below.size (by have:=HN.out;simp;omega) ?_;intro v61 w8 ho8 hb8 hg8 hat8;refine hK.out _ _ ⟨mkG hb8,rfl⟩ (fun _=> ?_);clear hK K;refine cW (a':= ?_) ?_ ?_;rotate_left
    ·show ay _ (ag 61) _ = _
     simp only[ay,ae,ah,ai,aJ,aK];rfl
    refine aP (i:=7) (N:=ag 11) (v:= ?_) (a':= ?_) #[af,af,af,af,af,af,af,af] rfl rfl (by kernel_rfl) (fun _ _ _ h=>h) (bc ⟨by rfl,?_⟩) ?_ ?_;rotate_left
    ·intro w';go_simp;with_reducible rfl
    rotate_left
    ·simp only[ay,ae,ah,ai,aJ,aK];rfl
    refine iF (by kernel_rfl) ?_;have HO4:=aa (show Lo W0 w8 h.v v61 (lo++[y.f1]) from Lo.new (Li.lt HL2.out) h.gro.below.size ho8);have HO2:=aa (HO2.out.below hb8);have HL2:=aa (HL2.out.below hb8);obtain⟨h,rfl,hv⟩:∃h':H W0 (gw0 gg) l1,h'.W=w8/\h'.v=h.v:=⟨mkH (h.gro.trans (Gro.of_below h.v h.gro.below hb8)),rfl,rfl⟩;rw[←hv]at HL2 HO2 HO4 ⊢;obtain⟨L61,c61,rfl⟩:=Kd.bN HO4.out;clear hv;rw[show(lo++[y.f1]).length=lo.length+1 by simp]at HO4 ⊢;go_wp2_with fail;have C:=IH1.out.1 W0 h.W h.v (.slice L61 (lo.length+1) c61) (xs++aN (l.take k) d lo++[Th.stmt y d lo]) (lo++[y.f1]) A12 c12 (d+1) (wrap64 ((d:Int)+1)) (lO (by have:=HN.out.2.1;omega)) h.gro.below K.out.2.2.2.2.2.1 K.out.2.2.2.2.1 HL2.out HO4.out (by have h1:=HS.out.1;have h2:=bO y;have h3:=aS y.f3;have h4:=aS y.f2;have h5:=dF y.f6 (d+1) (lo++[y.f1]);simp only[ba,bq,cH];omega) (by have h1:=HS.out.2;have h2:=bO y;omega) (by have h1:=HN.out.2.2;simp;omega);refine C.mono ?_;clear C;rintro _ w3 ⟨v3,rfl,hL,hG⟩;have HL2:=aa hL;have HO2:=aa (HO2.out.step hG);have HO4:=aa (HO4.out.step hG);obtain⟨h,rfl,rfl⟩:∃h':H W0 (gw0 gg) l1,h'.W=w3/\h'.v=v3:=⟨mkH (h.gro.trans hG),rfl,rfl⟩;clear hL hG;go_wp2_with fail;have C:=IH1.out.2 W0 h.W h.v (.slice L61 (lo.length+1) c61) (xs++aN (l.take k) d lo++[Th.stmt y d lo]++aN y.f6 (d+1) (lo++[y.f1])) (lo++[y.f1]) A13 c13 (d+1) (wrap64 ((d:Int)+1)) (lO (by have:=HN.out.2.1;omega)) h.gro.below K.out.2.2.2.2.2.2.2 K.out.2.2.2.2.2.2.1 HL2.out HO4.out (by have h1:=HS.out.1;have h2:=bO y;have h3:=aS y.f3;have h4:=aS y.f2;have h5:=dF y.f6 (d+1) (lo++[y.f1]);simp only[ba,bq,cH];omega) (by have h1:=HS.out.2;have h2:=bO y;omega) (by have h1:=HN.out.2.2;simp;omega);refine C.mono ?_;clear C;rintro _ w3 ⟨v3,rfl,hL,hG⟩;have HL2:=aa hL;have HO2:=aa (HO2.out.step hG);have HO4:=aa (HO4.out.step hG);obtain⟨h,rfl,rfl⟩:∃h':H W0 (gw0 gg) l1,h'.W=w3/\h'.v=v3:=⟨mkH (h.gro.trans hG),rfl,rfl⟩;clear hL hG;go_wp2_with fail
    have hx:xs++aN (l.take k) d lo++[Th.stmt y d lo]++aN y.f6 (d+1) (lo++[y.f1])++aN y.f7 (d+1) (lo++[y.f1])=xs++aN (l.take (k+1)) d lo:=by
     have e1:=T.out;simp only[eU]at e1;rw[e1,d6];simp[H0.out,inLoop]
    refine⟨⟨k+1,h.v,h.W,by go_num,rfl,rfl,by omega,⟨hx ▸ HL2.out,HREL.out.2.1.trans ((Gro.of_below l1 HBB.out ((ar _ _).alloc (aq _) _)).trans h.gro),HO2.out⟩⟩,by simp[intOf];omega⟩
   ·go_upto_region 5 with (fail)
    refine aG ?_;intro gg;have gout:∀{o:Obj} (g:G (W1.alloc o)),Below W1.heap.size W1 g.W:=fun g=>((ar _ _).alloc (aq _) _).trans (g.below.mono (by simp))
    go_wp2_with ((with_reducible refine eY (b:=.append) (xs:= #[.tmp 22,.tmp 27]) rfl ?_);at_builtin;refine Kd.cX (kTh W0) (w0:=W0) W0.heap.size rfl (.tmp 22) (.tmp 27) 112 125 zTh 304 rfl mX rU rfl (show 0<22 by decide) (by decide) l1 ((xs++aN (l.take k) d lo).map aZ) (aZ (.stmt y d lo)) [.int .i64 1,.int .i64 0,.int .i64 y.f0,.string y.f1,.int .i64 y.f2.f0,.int .u64 y.f2.f1,.string y.f2.f2,.slice A5 y.f2.f3.length c5,.int .i64 y.f3.f0,.int .u64 y.f3.f1,.string y.f3.f2,.slice A9 y.f3.f3.length c9,.int .u64 y.f4,.int .u64 y.f5,.slice A12 y.f6.length c12,.slice A13 y.f7.length c13,.int .i64 0,.int .u64 0,.string ⟨#[]⟩,.slice ak 0 0,.int .i64 (d:Int),.slice La lo.length lc] (fun _=>True) (fun k=>ag k≠l1.ownBlock) rfl rfl (qU (x:=aZ (.stmt y d lo)) (mU W0 y K.out.1 K.out.2.1 K.out.2.2.1 K.out.2.2.2.1 K.out.2.2.2.2.1 K.out.2.2.2.2.2.1 K.out.2.2.2.2.2.2.1 K.out.2.2.2.2.2.2.2) (kK W0) (HREL.out.2.2.below (gout gg))) (fun _ h=>⟨trivial,h⟩) (fun _ _=>trivial) (HREL.out.1.below (gout gg)) (HBB.out.trans ((gout gg).mono HBB.out.size)) (bi HBB.out.size (gout gg).size) (by have:=HS.out;have:=bO y;simp;omega) ?_;intro v2 w2 ho hb2 hg2 hat2;obtain⟨h,rfl,rfl⟩:∃h:H W0 (gw0 gg) l1,h.W=w2/\h.v=v2:=⟨mkH ((Gro.of_below l1 (HBB.out.trans (((ar W1.heap.size W1).alloc (aq _) _).mono HBB.out.size)) gg.below).trans ⟨hb2,hg2,hat2⟩),rfl,rfl⟩;have HL2:=aa (show Li 125 W0 h.W h.v (xs++aN (l.take k) d lo++[.stmt y d lo]) by unfold Li;rw[ef];exact ho);have HO2:=aa ((HREL.out.2.2.below (gout gg)).step ⟨hb2,hg2,hat2⟩);clear ho hb2 hg2 hat2)
    have C:=IH1.out.1 W0 h.W h.v (.slice La lo.length lc) (xs++aN (l.take k) d lo++[Th.stmt y d lo]) (lo) A12 c12 (d+1) (wrap64 ((d:Int)+1)) (lO (by have:=HN.out.2.1;omega)) h.gro.below K.out.2.2.2.2.2.1 K.out.2.2.2.2.1 HL2.out HO2.out (by have h1:=HS.out.1;have h2:=bO y;have h3:=aS y.f3;have h4:=aS y.f2;have h5:=dF y.f6 (d+1) (lo);simp only[ba,bq,cH];omega) (by have h1:=HS.out.2;have h2:=bO y;omega) (by have h1:=HN.out.2.2;simp;omega);refine C.mono ?_;clear C;rintro _ w3 ⟨v3,rfl,hL,hG⟩;have HL2:=aa hL;have HO2:=aa (HO2.out.step hG);obtain⟨h,rfl,rfl⟩:∃h':H W0 (gw0 gg) l1,h'.W=w3/\h'.v=v3:=⟨mkH (h.gro.trans hG),rfl,rfl⟩;clear hL hG;go_wp2_with fail;have C:=IH1.out.2 W0 h.W h.v (.slice La lo.length lc) (xs++aN (l.take k) d lo++[Th.stmt y d lo]++aN y.f6 (d+1) (lo)) (lo) A13 c13 (d+1) (wrap64 ((d:Int)+1)) (lO (by have:=HN.out.2.1;omega)) h.gro.below K.out.2.2.2.2.2.2.2 K.out.2.2.2.2.2.2.1 HL2.out HO2.out (by have h1:=HS.out.1;have h2:=bO y;have h3:=aS y.f3;have h4:=aS y.f2;have h5:=dF y.f6 (d+1) (lo);simp only[ba,bq,cH];omega) (by have h1:=HS.out.2;have h2:=bO y;omega) (by have h1:=HN.out.2.2;simp;omega);refine C.mono ?_;clear C;rintro _ w3 ⟨v3,rfl,hL,hG⟩;have HL2:=aa hL;have HO2:=aa (HO2.out.step hG);obtain⟨h,rfl,rfl⟩:∃h':H W0 (gw0 gg) l1,h'.W=w3/\h'.v=v3:=⟨mkH (h.gro.trans hG),rfl,rfl⟩;clear hL hG;go_wp2_with fail
    have hx:xs++aN (l.take k) d lo++[Th.stmt y d lo]++aN y.f6 (d+1) (lo)++aN y.f7 (d+1) (lo)=xs++aN (l.take (k+1)) d lo:=by
     have e1:=T.out;simp only[eU]at e1;rw[e1,d6];simp[n1,n2,n3,n4,inLoop]
    refine⟨⟨k+1,h.v,h.W,by go_num,rfl,rfl,by omega,⟨hx ▸ HL2.out,HREL.out.2.1.trans ((Gro.of_below l1 HBB.out ((ar _ _).alloc (aq _) _)).trans h.gro),HO2.out⟩⟩,by simp[intOf];omega⟩
  ·go_wp2_with fail;go_ret;refine⟨l1,rfl,?_,HREL.out.2.1⟩;have h1:=HREL.out.1;rw[show k=l.length by omega,eu]at h1;exact h1
theorem stmts_calls:∀(n:Nat) (l:List S119),cz l<=n->StmtsC l:=by
 intro n
 induction n with
 |zero=>intro l h;cases l <;> simp at h <;> omega
 |succ n ih=>
  intro l h;refine stmts_walk l fun x hx=> ?_;have h1:=gq hx;obtain⟨a,b,c,d,e,f,g,k⟩:=x;simp only[S119.mk.sizeOf_spec]at h1;exact⟨ih _ (by show cz g<=n;omega),ih _ (by show cz k<=n;omega)⟩
end
section
attribute [local go_sem] G.cell H.cell
theorem mN (k:Nat):(bu (k+1)).map Th.decl=(bu k).map Th.decl++[Th.decl k]:=by rw[jz,ef];rfl
theorem List_calls (nm:ByteArray)(wd ln:Int)(ds:List S70)(bd:List S119)(A3:Option Addr)(c3:Nat)(A4:Option Addr)(c4:Nat)(w:World)(hdl:ds.length<=1048576)(hb:dN.C w A4 bd.length bd)(hlb:bd.length<=c4)(hbb:Ot.cK bd<=1048576):
 Calls au 79 #[.agg #[.string nm,.int .i64 wd,.int .i64 ln,.slice A3 ds.length c3,.slice A4 bd.length c4]] w fun r w'=>∃v1,r=.returned v1/\Li 125 w w' v1 (things ds bd)/\Below w.heap.size w w':=by
 have HB:=aa hb;have HD:=aa (aj hdl (aj hlb hbb))
 have hlm:ds.length<=9223372036854775807:=by omega
 clear hb hdl hlb hbb;go_enter Tryz.func79,Tryz.ntmps79
 go_upto_region 2 with (fail)
 refine aG ?_;intro gg;go_wp2_with fail
 go_loopw [4,3] (fun i l2 W=>∃(k:Nat) (h:H w (gw0 gg) (.slice ak 0 0)),i=.int .i64 k/\h.v=l2/\h.W=W/\k<=ds.length/\Aside0 (Li 125 w h.W h.v ((bu k).map Th.decl))) (fun i _ _=>ds.length - (intOf i).toNat)
 case atStart=>
  refine⟨0,mkH (v1:=.slice ak 0 0) (w:=gg.W) (Gro.of_below _ ((ar _ _).alloc (aq _) _) gg.below),rfl,rfl,rfl,bk _,⟨Kd.iG _ _ _ _ _⟩⟩
 case round=>
  obtain⟨k,h,rfl,rfl,rfl,hk,HL⟩:=hrel
  have hne:ag w.heap.size≠(Value.slice ak 0 0).ownBlock:=by simp[ee]
  by_cases hlt:k<ds.length
  ·have hi1:(k:Int)<(ds.length:Int):=by omega
   go_wp2_with ((with_reducible refine eY (b:=.append) (xs:= #[.tmp 12,.tmp 15]) rfl ?_);at_builtin;refine Kd.cX (kTh w) (w0:=w) w.heap.size rfl (.tmp 12) (.tmp 15) 112 125 zTh 304 rfl mX rU rfl (show 0<22 by decide) (by decide) h.v ((bu k).map Th.decl |>.map aZ) (aZ (.decl k)) [.int .i64 0,.int .i64 (k:Int),.int .i64 0,.string ⟨#[]⟩,.int .i64 0,.int .u64 0,.string ⟨#[]⟩,.slice ak 0 0,.int .i64 0,.int .u64 0,.string ⟨#[]⟩,.slice ak 0 0,.int .u64 0,.int .u64 0,.slice ak 0 0,.slice ak 0 0,.int .i64 0,.int .u64 0,.string ⟨#[]⟩,.slice ak 0 0,.int .i64 0,.slice ak 0 0] (fun _=>True) (fun k=>ag k≠h.v.ownBlock) rfl rfl (qU (x:=aZ (.decl k)) (k119_zero w) (kK w) (Kd.iG _ _ _ _ _)) (fun _ h=>⟨trivial,h⟩) (fun _ _=>trivial) HL.out h.gro.below (h.gro.below.size) (by have:=HD.out.1;simp;omega) ?_;intro v2 w2 ho hb2 hg2 hat2;have HL2:=aa (show Li 125 w w2 v2 ((bu (k+1)).map Th.decl) by unfold Li;rw[mN,ef];exact ho);obtain⟨h,rfl,rfl⟩:∃h':H w (gw0 gg) (.slice ak 0 0),h'.W=w2/\h'.v=v2:=⟨mkH (h.gro.trans ⟨hb2,hg2,hat2⟩),rfl,rfl⟩;clear ho hb2 hg2 hat2)
   exact⟨⟨k+1,h,by go_num,rfl,rfl,by omega,HL2⟩,by simp[intOf];omega⟩
  ·go_wp2_with fail;have C:=stmts_calls _ bd (aq _) w h.W h.v (.slice ak 0 0) ((bu k).map Th.decl) [] A4 c4 1 1 rfl h.gro.below HB.out HD.out.2.1 HL.out (Lo.nil _ _ _) (by have:=HD.out;simp;omega) (by have:=HD.out;omega) (by simp);refine C.mono ?_;clear C;rintro _ w3 ⟨v3,rfl,hL,hG⟩;have HR:=aa (aj hL hG);clear hL hG;go_wp2_with fail;go_ret;refine⟨v3,rfl,?_,HR.out.2.below⟩;have h1:=HR.out.1;rw[show k=ds.length by omega]at h1;exact h1
end
section
attribute [local go_sem] G.cell
theorem plus_min:∀(d:Nat) (l:List Nat) (i k s:Nat),(∀x∈l,x<=1099511627776)->i+d=l.length->d<k->s<=1099511627776->l.length<100->
 wf_plus.l0 k (s:Int) (l.map fun(n:Nat)=>(n:Int)) (l.length:Int) (i:Int)=ag ((min (s+(l.drop i).sum) 1099511627776:Nat):Int):=by
 intro d
 induction d with
 |zero=>
  intro l i k s hp h hk hs _;obtain⟨k,rfl⟩:∃a,k=a+1:=⟨k - 1,by omega⟩;rw[wf_plus.l0,if_neg (by omega),jw (by omega)];simp;omega
 |succ d ih=>
  intro l i k s hp h hk hs hl;obtain⟨k,rfl⟩:∃a,k=a+1:=⟨k - 1,by omega⟩
  have hi:i<l.length:=by omega
  have e:wrap64 ((i:Int)+1)=((i+1:Nat):Int):=by unfold wrap64;omega
  have er:rd (l.map fun(n:Nat)=>(n:Int)) (i:Int)=((l[i]:Nat):Int):=by simp[rd,aw,hi]
  have hd:l.drop i=l[i]::l.drop (i+1):=jd hi;have hx:=hp _ (gn hi);rw[hd,List.sum_cons];generalize l[i]=x at*
  have hm:mn ((s+x:Nat):Int) 1099511627776=((min (s+x) 1099511627776:Nat):Int):=by unfold mn;split <;> omega
  rw[wf_plus.l0,if_pos (by omega),if_pos (by omega),if_pos (by simp;omega),e,er,iH (by omega),hm,ih l (i+1) k _ hp (by omega) (by omega) (by omega) hl];refine congrArg ag ?_;omega
theorem d8 (l:List Nat)(r:Nat)(hr:r=min l.sum 1099511627776)(hx:∀x∈l,x<=1099511627776)(hl:l.length<100)(A:Option Addr)(c:Nat)(w:World)(hk:Kd.C (Kd.int .i64) w A l.length (l.map fun(n:Nat)=>(n:Int)))(hc:l.length<=c):
 Calls au 155 #[.slice A l.length c] w fun e w'=>e=.returned (.int .i64 (r:Int))/\Below w.heap.size w w':=by
 have h:=wf_plus.calls 101 A c (l.map fun(n:Nat)=>(n:Int)) (r:Int) w (by simpa using hk) (by simpa using hc) (by
  have:=plus_min l.length l 0 101 0 hx (by omega) (by omega) (by omega) hl;unfold wf_plus.f;rw[hr]
  simpa using this)
 simpa using h
theorem gT (w:World)(l:List Nat)(e:TypeId)(hm:l.length<=100):Kd.C (Kd.int .i64) (w.alloc (.cells (l.map fun(n:Nat)=>bh .i64 n).toArray e)) (ag ⟨w.heap.size,0,ak⟩) l.length (l.map fun(n:Nat)=>(n:Int)):=by
 have h:=lit_ints w (l.map fun(n:Nat)=>(n:Int)) e (by simpa using hm)
 simpa[List.map_map,Function.comp_def]using h
theorem times_calls (n s r:Nat)(hn:n<18446744073709551616)(hs:s<=1099511627776)(hr:r=min (n*s) 1099511627776)(w:World):
 Calls au 157 #[.int .u64 n,.int .i64 s] w fun e w'=>e=.returned (.int .i64 (r:Int))/\Below w.heap.size w w':=by
 have HR:=aa hr;clear hr
 rcases cq s with rfl | h0
 ·go_enter Tryz.func157,Tryz.ntmps157;go_wp2_with fail;go_ret;exact⟨by rw[HR.out];simp,(by first | exact ar _ _ | exact(ar _ _).drew)⟩
 rcases cq n with rfl | h1
 ·have b0:((s:Int)==0)=ac:=by simp;omega
  have b1:¬(s:Int)=0:=by omega
  go_enter Tryz.func157,Tryz.ntmps157;go_wp2_with fail;go_ret;exact⟨by rw[HR.out];simp,(by first | exact ar _ _ | exact(ar _ _).drew)⟩
 have b0:((s:Int)==0)=ac:=by simp;omega
 have b1:¬(s:Int)=0:=by omega
 have b2:((n:Int)==0)=ac:=by simp;omega
 have b3:¬(n:Int)=0:=by omega
 have hq:Int.tdiv 1099511627776 (s:Int)=((1099511627776 / s:Nat):Int):=by
  rw[show(1099511627776:Int)=((1099511627776:Nat):Int) from rfl,←Int.ofNat_tdiv]
 have hq1:1099511627776 / s<=1099511627776:=jh _ _;obtain⟨q,hq2⟩:∃q,q=1099511627776 / s:=⟨_,rfl⟩;rw[←hq2]at hq hq1;have hw1:wrap64 (q:Int)=(q:Int):=jW (by omega) (by omega)
 have hw2:IntKind.u64.wrap (q:Int)=(q:Int):=by simp only[IntKind.wrap,jf,js,jk,kn,if_false];omega
 have Q2:=aa hq2;have H0:=aa h0;clear hq2 hn h0 h1
 rcases gu q n with h | h
 ·have h3:(q:Int)<(n:Int):=by omega
  have HH:=aa h;clear h;go_enter Tryz.func157,Tryz.ntmps157;go_wp2_with fail;go_ret;refine⟨?_,(by first | exact ar _ _ | exact(ar _ _).drew)⟩
  have:1099511627776<=n*s:=by
   have h6:=HH.out;rw[Q2.out]at h6;have h5:=(Nat.div_lt_iff_lt_mul H0.out).1 h6;omega
  rw[HR.out,iz this];rfl
 ·have h3:¬(q:Int)<(n:Int):=by omega
  have HH:=aa h;have hw3:wrap64 (n:Int)=(n:Int):=jW (by omega) (by omega);clear h;go_enter Tryz.func157,Tryz.ntmps157;go_wp2_with fail;go_ret;refine⟨?_,(by first | exact ar _ _ | exact(ar _ _).drew)⟩
  have h5:n*s<=1099511627776:=by
   have:=Nat.div_mul_le_self 1099511627776 s;rw[←Q2.out]at this;exact bi (fq s HH.out) this
  rw[HR.out,di h5]
  show gj (bh .i64 (wrap64 ((n:Int)*(s:Int))))= _
  rw[jW (by rw[←iy];omega) (by rw[←iy];omega),iy]
theorem weigh_v {x:S116}(hb:aM x<=1099511627776)(A:Option Addr)(c:Nat)(w:World)(hc:dC.C w A x.f3.length x.f3)(hl:x.f3.length<=c):
 Calls au 156 #[.agg #[.int .i64 x.f0,.int .u64 x.f1,.string x.f2,.slice A x.f3.length c]] w fun e w'=>e=.returned (.int .i64 ((aM x:Nat):Int))/\Below w.heap.size w w':=weigh_calls _ x (aq _) hb A c w hc hl
theorem mK {f:FuncId}{cap:Nat}{l:List S119}(h:SizeC f cap l){r:Nat}(hr:r=min (bS l) cap)(A:Option Addr)(c:Nat)(w:World)(hc:dN.C w A l.length l)(hl:l.length<=c):
 Calls au f #[.slice A l.length c] w fun e w'=>e=.returned (.int .i64 (r:Int))/\Below w.heap.size w w':=hr ▸ h A c w hc hl
end
section
attribute [local go_sem] G.cell
theorem refSize_walk (l:List S119)(hg:∀x∈l,0<=x.f4/\0<=x.f5/\x.f4<18446744073709551616/\x.f5<18446744073709551616/\aM x.f2<=1099511627776/\aM x.f3<=1099511627776)(ih:∀x∈l,SizeC 147 65537 x.f6/\SizeC 147 65537 x.f7):SizeC 147 65537 l:=by
 intro A c w hc hl;have IH:=aa ih;have HC:=aa hc;have GD:=aa hg;have hlm:=hc.2.1;clear ih hc hg;go_enter Tryz.func147,Tryz.ntmps147
 go_wp2
 go_loopw [4,3] (fun i n W=>∃(k:Nat) (g:G w),i=.int .i64 k/\(∃m:Nat,n=.int .i64 m/\m=min (bS (l.take k)) 65537)/\W=g.W/\k<=l.length) (fun i n _=>l.length - (intOf i).toNat)
 case atStart=>exact⟨0,⟨w,ar _ _⟩,rfl,⟨0,rfl,by simp[bS]⟩,rfl,bk _⟩
 case round=>
  obtain⟨k,g,rfl,⟨m,rfl,hm⟩,rfl,hk⟩:=hrel
  by_cases hlt:k<l.length
  ·obtain⟨ad,A5,c5,A9,c9,A12,c12,A13,c13,e1,q0,q1,q2,q3,q4,q5,q6,q7,q8,q9,q10,q11,q12,q13,l5,g5,l9,g9,l12,g12,l13,g13⟩:=jX HC.out (k:Int) (bo _) (by omega);cases e1;rw[ax]at q0 q1 q2 q3 q4 q5 q6 q7 q8 q9 q10 q11 q12 q13;replace q0:=(g.below.cell (av w _ q0)).trans q0;replace q1:=(g.below.cell (av w _ q1)).trans q1;replace q2:=(g.below.cell (av w _ q2)).trans q2;replace q3:=(g.below.cell (av w _ q3)).trans q3;replace q4:=(g.below.cell (av w _ q4)).trans q4;replace q5:=(g.below.cell (av w _ q5)).trans q5;replace q6:=(g.below.cell (av w _ q6)).trans q6;replace q7:=(g.below.cell (av w _ q7)).trans q7;replace q8:=(g.below.cell (av w _ q8)).trans q8;replace q9:=(g.below.cell (av w _ q9)).trans q9;replace q10:=(g.below.cell (av w _ q10)).trans q10;replace q11:=(g.below.cell (av w _ q11)).trans q11;replace q12:=(g.below.cell (av w _ q12)).trans q12;replace q13:=(g.below.cell (av w _ q13)).trans q13
   have hi1:(k:Int)<(l.length:Int):=by omega
   have K:=aa (aj l5 (aj g5 (aj l9 (aj g9 (aj l12 (aj g12 (aj l13 g13)))))));clear l5 g5 l9 g9 l12 g12 l13 g13;have MEM:=j5 hlt;have T:=congrArg bS (e9 hlt);rw[nT,fX]at T;have GD1:=aa (GD.out _ MEM);have IH1:=aa (IH.out _ MEM);clear MEM;generalize aR l (k:Int)=x at*;obtain⟨m1,hm1⟩:∃r,r=min (m+1) 65537:=⟨_,rfl⟩;have M:=aa (aj hm (aj hm1 T));have hz1:=aa (lO (n:=m) (by omega));have hm1b:=aa (show m1<=65537 by omega);clear hm hm1 T
   have kk:x.f0=1\/x.f0=2\/x.f0=3\/x.f0=4\/(¬x.f0=1/\¬x.f0=2/\¬x.f0=3/\¬x.f0=4):=by omega
   rcases kk with h0 | h0 | h0 | h0 | ⟨h1,h2,h3,h4⟩
   ·rw[h0]at q0;have H0:=aa h0;clear h0;go_wp2_with fail;refine(sN (eN _ (m+1) m1 hz1.out M.out.2.1 _)).mono ?_;rintro _ _ ⟨rfl,gg,rfl⟩;go_wp2_with fail;refine(aD (g:=gg) (jO _ x.f3 (aq _) GD1.out.2.2.2.2.2 A9 c9 gg.W (Kd.aF K.out.2.2.2.1 (G.deep (g:=g) gg)) K.out.2.2.1)).mono ?_;rintro _ _ ⟨rfl,gg,rfl⟩;go_wp2_with fail;obtain⟨m2,hm2⟩:∃r,r=min (m1+aM x.f3) 65537:=⟨_,rfl⟩;have HM2:=aa hm2;clear hm2;refine(aD (g:=gg) (eN _ (m1+aM x.f3) m2 (iH (by have:=GD1.out;have:=hm1b.out;omega)) HM2.out _)).mono ?_;rintro _ _ ⟨rfl,gg,rfl⟩;go_wp2_with fail;refine⟨⟨k+1,mkG (G.deep (g:=g) gg),by go_num,⟨m2,rfl,?_⟩,rfl,by omega⟩,by simp[intOf];omega⟩;obtain⟨e1,e2,e3⟩:=M.out;have e4:=HM2.out;rw[e3,H0.out,if_pos rfl];omega
   ·rw[h0]at q0;have H0:=aa h0;clear h0;go_wp2_with fail;refine(sN (eN _ (m+1) m1 hz1.out M.out.2.1 _)).mono ?_;rintro _ _ ⟨rfl,gg,rfl⟩;obtain⟨m2,hm2⟩:∃r,r=min (m1+aM x.f2+aM x.f3) 65537:=⟨_,rfl⟩;have HM2:=aa hm2;clear hm2;have B:=aa (aj hm1b.out GD1.out);have E1:=aa (iH (a:=m1) (b:=aM x.f2) (by have:=B.out;omega));have E2:=aa (iH (a:=m1+aM x.f2) (b:=aM x.f3) (by have:=B.out;omega))
    go_upto_region 11 with (fail)
    refine aQ (g:=gg) (by kernel_rfl) (by kernel_rfl) ?_
    repeat(go_big_quiet_step (fail))
    go_big_quiet_step (first | (go_at_call 230;exact aD (jO _ x.f2 (aq _) GD1.out.2.2.2.2.1 A5 c5 _ (Kd.aF K.out.2.1 (G.deep (g:=g) _)) K.out.1)))
    repeat(go_big_quiet_step (fail))
    go_big_quiet_step (first | (go_at_call 230;exact aD (jO _ x.f3 (aq _) GD1.out.2.2.2.2.2 A9 c9 _ (Kd.aF K.out.2.2.2.1 (G.deep (g:=g) _)) K.out.2.2.1)))
    repeat(go_big_quiet_step (fail))
    go_big_quiet_step (first | (go_at_call 229;exact aD (eN _ (m1+aM x.f2+aM x.f3) m2 (by rw[E1.out,E2.out]) HM2.out _)))
    repeat(go_big_quiet_step (fail))
    refine wpQuiet_nil ?_;rintro _ ⟨gg,rfl⟩;go_wp2_with fail;refine⟨⟨k+1,mkG (G.deep (g:=g) gg),by go_num,⟨m2,rfl,?_⟩,rfl,by omega⟩,by simp[intOf];omega⟩;obtain⟨e1,e2,e3⟩:=M.out;have e4:=HM2.out;rw[e3,H0.out,if_neg (by decide),if_pos rfl];omega
   ·rw[h0]at q0;have H0:=aa h0;clear h0;go_wp2_with fail;refine(sN (eN _ (m+1) m1 hz1.out M.out.2.1 _)).mono ?_;rintro _ _ ⟨rfl,gg,rfl⟩;obtain⟨s1,hs1⟩:∃r,r=min (bS x.f6) 65537:=⟨_,rfl⟩;obtain⟨s2,hs2⟩:∃r,r=min (bS x.f7) 65537:=⟨_,rfl⟩;obtain⟨m2,hm2⟩:∃r,r=min (m1+aM x.f3+s1+s2) 65537:=⟨_,rfl⟩;have HM2:=aa (aj hm2 (aj hs1 hs2));have SB:=aa (show s1<=65537/\s2<=65537 by omega);clear hm2 hs1 hs2;have B:=aa (aj hm1b.out GD1.out);have E1:=aa (iH (a:=m1) (b:=aM x.f3) (by have:=B.out;omega));have E2:=aa (iH (a:=m1+aM x.f3) (b:=s1) (by have:=B.out;have:=SB.out;omega));have E3:=aa (iH (a:=m1+aM x.f3+s1) (b:=s2) (by have:=B.out;have:=SB.out;omega))
    go_upto_region 13 with (fail)
    refine aQ (g:=gg) (by kernel_rfl) (by kernel_rfl) ?_
    repeat(go_big_quiet_step (fail))
    go_big_quiet_step (first | (go_at_call 230;exact aD (jO _ x.f3 (aq _) GD1.out.2.2.2.2.2 A9 c9 _ (Kd.aF K.out.2.2.2.1 (G.deep (g:=g) _)) K.out.2.2.1)))
    repeat(go_big_quiet_step (fail))
    go_big_quiet_step (first | (go_at_call 147;exact aD (mK IH1.out.1 HM2.out.2.1 A12 c12 _ (Kd.aF K.out.2.2.2.2.2.1 (G.deep (g:=g) _)) K.out.2.2.2.2.1)))
    repeat(go_big_quiet_step (fail))
    go_big_quiet_step (first | (go_at_call 147;exact aD (mK IH1.out.2 HM2.out.2.2 A13 c13 _ (Kd.aF K.out.2.2.2.2.2.2.2 (G.deep (g:=g) _)) K.out.2.2.2.2.2.2.1)))
    repeat(go_big_quiet_step (fail))
    go_big_quiet_step (first | (go_at_call 229;exact aD (eN _ (m1+aM x.f3+s1+s2) m2 (by rw[E1.out,E2.out,E3.out]) HM2.out.1 _)))
    repeat(go_big_quiet_step (fail))
    refine wpQuiet_nil ?_;rintro _ ⟨gg,rfl⟩;go_wp2_with fail;refine⟨⟨k+1,mkG (G.deep (g:=g) gg),by go_num,⟨m2,rfl,?_⟩,rfl,by omega⟩,by simp[intOf];omega⟩;obtain⟨e1,e2,e3⟩:=M.out;obtain⟨e4,e5,e6⟩:=HM2.out;rw[e3,H0.out,if_neg (by decide),if_neg (by decide),if_pos rfl];omega
   ·rw[h0]at q0;have H0:=aa h0;clear h0;go_wp2_with fail;refine(sN (eN _ (m+1) m1 hz1.out M.out.2.1 _)).mono ?_;rintro _ _ ⟨rfl,gg,rfl⟩
    rcases dh x.f4 x.f5 with h5 | h5
    ·obtain⟨t0,ht0⟩:∃t0:Nat,(x.f5 - x.f4).toNat=t0:=⟨_,rfl⟩;have H5:=aa (aj h5 ht0)
     have hw:IntKind.u64.wrap (x.f5 - x.f4)=(t0:Int):=by
      have:=GD1.out;rw[←ht0,Int.toNat_of_nonneg (by omega)];simp only[IntKind.wrap,jf,js,jk,kn,if_false];omega
     obtain⟨s1,hs1⟩:∃r,r=min (bS x.f6) 65537:=⟨_,rfl⟩;have HS:=aa hs1;have SB:=aa (show s1<=65537 by omega);clear hs1 ht0
     rcases gu 65536 t0 with h7 | h7
     ·have h8:(65536:Int)<(t0:Int):=by omega
      have H7:=aa h7;clear h7;obtain⟨m2,hm2⟩:∃r,r=min (m1+65537*(1+s1)) 65537:=⟨_,rfl⟩;have HM2:=aa hm2;clear hm2;go_wp2_with fail;refine(aD (g:=gg) (mK IH1.out.1 HS.out A12 c12 gg.W (Kd.aF K.out.2.2.2.2.2.1 (G.deep (g:=g) gg)) K.out.2.2.2.2.1)).mono ?_;rintro _ _ ⟨rfl,gg,rfl⟩;go_wp2_with fail;refine(aD (g:=gg) (eN _ (m1+65537*(1+s1)) m2 (for_sum m1 65537 s1 hm1b.out (by decide) SB.out) HM2.out _)).mono ?_;rintro _ _ ⟨rfl,gg,rfl⟩;go_wp2_with fail;refine⟨⟨k+1,mkG (G.deep (g:=g) gg),by go_num,⟨m2,rfl,?_⟩,rfl,by omega⟩,by simp[intOf];omega⟩;obtain⟨e1,e2,e3⟩:=M.out;rw[e3,H0.out,if_neg (by decide),if_neg (by decide),if_neg (by decide),if_pos rfl,H5.out.2,HM2.out,HS.out];have fc:=for_cut (bS (l.take k)+1) t0 (bS x.f6) 65537 (by decide);rw[iz (by have:=H7.out;omega:65537<=t0)]at fc;rw[show m1=min (bS (l.take k)+1) 65537 by omega,fc,ja]
     ·have h8:¬(65536:Int)<(t0:Int):=by omega
      have H7:=aa h7;have hc:wrap64 (t0:Int)=(t0:Int):=jW (by omega) (by omega);clear h7;obtain⟨m2,hm2⟩:∃r,r=min (m1+t0*(1+s1)) 65537:=⟨_,rfl⟩;have HM2:=aa hm2;clear hm2;go_wp2_with fail;refine(aD (g:=gg) (mK IH1.out.1 HS.out A12 c12 gg.W (Kd.aF K.out.2.2.2.2.2.1 (G.deep (g:=g) gg)) K.out.2.2.2.2.1)).mono ?_;rintro _ _ ⟨rfl,gg,rfl⟩;go_wp2_with fail;refine(aD (g:=gg) (eN _ (m1+t0*(1+s1)) m2 (for_sum m1 t0 s1 hm1b.out (by have:=H7.out;omega) SB.out) HM2.out _)).mono ?_;rintro _ _ ⟨rfl,gg,rfl⟩;go_wp2_with fail;refine⟨⟨k+1,mkG (G.deep (g:=g) gg),by go_num,⟨m2,rfl,?_⟩,rfl,by omega⟩,by simp[intOf];omega⟩;obtain⟨e1,e2,e3⟩:=M.out;rw[e3,H0.out,if_neg (by decide),if_neg (by decide),if_neg (by decide),if_pos rfl,H5.out.2,HM2.out,HS.out];have fc:=for_cut (bS (l.take k)+1) t0 (bS x.f6) 65537 (by decide);rw[di (by have:=H7.out;omega:t0<=65537)]at fc;rw[show m1=min (bS (l.take k)+1) 65537 by omega,fc,ja]
    ·have h6:¬x.f4<x.f5:=by omega
     have H5:=aa h5;clear h5;go_wp2_with fail;refine⟨⟨k+1,mkG (G.deep (g:=g) gg),by go_num,⟨m1,rfl,?_⟩,rfl,by omega⟩,by simp[intOf];omega⟩;obtain⟨e1,e2,e3⟩:=M.out;rw[e3,H0.out,if_neg (by decide),if_neg (by decide),if_neg (by decide),if_pos rfl,Int.toNat_of_nonpos (by have:=H5.out;omega)];omega
   ·have H1:=aa (aj h1 (aj h2 (aj h3 h4)))
    have b1:(x.f0==1)=ac:=by simpa using h1
    have b2:(x.f0==2)=ac:=by simpa using h2
    have b3:(x.f0==3)=ac:=by simpa using h3
    have b4:(x.f0==4)=ac:=by simpa using h4
    go_wp2_with fail;refine(sN (eN _ (m+1) m1 hz1.out M.out.2.1 _)).mono ?_;rintro _ _ ⟨rfl,gg,rfl⟩;go_wp2_with fail;refine⟨⟨k+1,mkG (G.deep (g:=g) gg),by go_num,⟨m1,rfl,?_⟩,rfl,by omega⟩,by simp[intOf];omega⟩;obtain⟨e1,e2,e3⟩:=M.out;obtain⟨f1,f2,f3,f4⟩:=H1.out;rw[e3,if_neg f1,if_neg f2,if_neg f3,if_neg f4];omega
  ·go_wp2_with fail;go_ret;refine⟨?_,g.below⟩;rw[hm,show k=l.length by omega,eu];rfl
end
section
attribute [local go_sem] G.cell
theorem refSize_calls:∀(n:Nat) (l:List S119),cz l<=n->Ot.kZ l->Ot.cK l<=1048576->SizeC 147 65537 l:=by
 intro n
 induction n with
 |zero=>intro l h;cases l <;> simp at h <;> omega
 |succ n ih=>
  intro l h hg hb;refine refSize_walk l (fun x hx=> ?_) fun x hx=> ?_
  ·have h1:=(Ot.cV l).1 hg x hx;have h2:=j9 hx;have h3:=bO x;have h4:=aS x.f2;have h5:=aS x.f3;obtain⟨a,b,c,d,e,f,g,k⟩:=x;rw[Ot.jV]at h1;have h6:=okU_b h1.2.2.2.2.1;have h7:=okU_b h1.2.2.2.2.2.1;exact⟨h6.1,h7.1,h6.2,h7.2,by omega,by omega⟩
  ·have h1:=gq hx;have h2:=(Ot.cV l).1 hg x hx;have h3:=j9 hx;have h4:=bO x;obtain⟨a,b,c,d,e,f,g,k⟩:=x;rw[Ot.jV]at h2;simp only[S119.mk.sizeOf_spec]at h1;exact⟨ih _ (by show cz g<=n;omega) h2.2.2.2.2.2.2.2.2.1 (by show Ot.cK g<=1048576;simp only at h4;omega),ih _ (by show cz k<=n;omega) h2.2.2.2.2.2.2.2.2.2 (by show Ot.cK k<=1048576;simp only at h4;omega)⟩
theorem Li.at {W0 w:World}{A:Option Addr}{n c:Nat}{xs:List Th}(h:Li 125 W0 w (.slice A n c) xs){i:Nat}(hi:i<xs.length):∃b A5 c5 A9 c9 A12 c12 A13 c13 A19 c19 A21 c21,A=ag ⟨b,0,ak⟩/\
 w.rangeAt b (i*22) [.int .i64 (aZ (bK xs i)).is,.int .i64 (aZ (bK xs i)).d,.int .i64 (aZ (bK xs i)).s.f0,.string (aZ (bK xs i)).s.f1,.int .i64 (aZ (bK xs i)).s.f2.f0,.int .u64 (aZ (bK xs i)).s.f2.f1,.string (aZ (bK xs i)).s.f2.f2,.slice A5 (aZ (bK xs i)).s.f2.f3.length c5,.int .i64 (aZ (bK xs i)).s.f3.f0,.int .u64 (aZ (bK xs i)).s.f3.f1,.string (aZ (bK xs i)).s.f3.f2,.slice A9 (aZ (bK xs i)).s.f3.f3.length c9,.int .u64 (aZ (bK xs i)).s.f4,.int .u64 (aZ (bK xs i)).s.f5,.slice A12 (aZ (bK xs i)).s.f6.length c12,.slice A13 (aZ (bK xs i)).s.f7.length c13,.int .i64 (aZ (bK xs i)).e.f0,.int .u64 (aZ (bK xs i)).e.f1,.string (aZ (bK xs i)).e.f2,.slice A19 (aZ (bK xs i)).e.f3.length c19,.int .i64 (aZ (bK xs i)).deep,.slice A21 (aZ (bK xs i)).loops.length c21]/\(aZ (bK xs i)).loops.length<=c21/\Kd.string.C w A21 (aZ (bK xs i)).loops.length (aZ (bK xs i)).loops:=by
 obtain⟨A',c',e',l',hC⟩:=Kd.cO h;obtain⟨_,inner,ho,_⟩:=h
 rcases ho.2 with ⟨_,hn⟩ | ⟨g,cap,cur,e,_⟩
 ·simp at hn
  rw[hn]at hi;exact absurd hi (da _)
 ·injection e with e1 e2 e3;injection e' with e4 e5 e6;subst e1 e4;obtain⟨ad,cs,eA,el,hK,hc⟩:=Kd.oZ hC (aZ (.decl 0)) (i:Int) (bo _) (by simp;omega);injection eA with eA;subst eA
  have ex:(xs.map aZ).getD (i:Int).toNat (aZ (.decl 0))=aZ (bK xs i):=by
   unfold bK;rw[ax,aw,aw,jb,az hi];rfl
  rw[ex]at hK;obtain⟨A5,c5,A9,c9,A12,c12,A13,c13,A19,c19,A21,c21,ecs,_,_,_,_,_,_,_,_,_,_,l21,g21⟩:=kTh_open hK;subst ecs;refine⟨g,A5,c5,A9,c9,A12,c12,A13,c13,A19,c19,A21,c21,rfl,fun j u hj=> ?_,l21,g21⟩;have:=hc j u hj;rw[Addr.add_mid,ax,Nat.zero_add]at this;exact this
theorem Li.len {W0 w:World}{A:Option Addr}{n c:Nat}{xs:List Th}(h:Li 125 W0 w (.slice A n c) xs):n=xs.length:=by
 obtain⟨A',c',e',l',hC⟩:=Kd.cO h;injection e' with e4 e5 e6;rw[e5];simp
theorem rangeAt_in {w W:World}{b o:Nat}{cs:List Value}(h:Below w.heap.size w W)(hr:w.rangeAt b o cs):W.rangeAt b o cs:=fun j v hj=>aE h (hr j v hj)
structure PGood (nm:ByteArray)(wd ln:Int)(ds:List S70)(bd:List S119):Prop where
 good:Ot.GoodP ⟨nm,wd,ln,ds,bd⟩
 bulk:Ot.bulkP ⟨nm,wd,ln,ds,bd⟩<=1048576
theorem okI_b {n:Int}(h:Ot.okI n): -9223372036854775808<=n/\n<=9223372036854775807:=by
 unfold Ot.okI at h;simp[Lit.wf,IntKind.min,IntKind.max,jf,js]at h;omega
theorem ds_bulk (ds:List S70):ds.length<=(ds.map Ot.bulkD).sum:=by
 induction ds with
 |nil=>simp
 |cons d r ih=>simp[Ot.bulkD];omega
theorem PGood.sizes {nm:ByteArray}{wd ln:Int}{ds:List S70}{bd:List S119}(h:PGood nm wd ln ds bd):ds.length<=1048576/\Ot.cK bd<=1048576:=by
 have h1:=h.bulk;have h2:=ds_bulk ds;simp only[Ot.bulkP]at h1;omega
theorem errC_ne (c:Nat):qH c≠0:=by unfold qH;(repeat(first | split | decide))
theorem iU {a b c:Int}{r:Ans}(h:r=⟨a,b,c⟩):gj (.tuple #[.int .i64 a,.int .i64 b,.int .i64 c])=.returned (.tuple #[.int .i64 r.c,.int .i64 r.at',.int .i64 r.e]):=by rw[h]
theorem refFault_calls (nm:ByteArray)(wd ln:Int)(ds:List S70)(bd:List S119)(A3:Option Addr)(c3:Nat)(A4:Option Addr)(c4:Nat)(w:World)(hp:ProgAt w ds bd A3 c3 A4 c4)(hg:PGood nm wd ln ds bd)(r:Ans)(hr:r=bC nm wd ln ds bd):
 Calls au 109 #[(.agg #[.string nm,.int .i64 wd,.int .i64 ln,.slice A3 ds.length c3,.slice A4 bd.length c4])] w fun e w'=>e=.returned (.tuple #[.int .i64 r.c,.int .i64 r.at',.int .i64 r.e])/\Below w.heap.size w w':=by
 have gout:=@gA w;have PAt:=aa hp;have HR:=aa hr;have HG:=aa hg;clear hp hr hg;go_enter Tryz.func109,Tryz.ntmps109
 go_upto_region 1 with (fail)
 refine aG ?_;intro gg;obtain⟨hd,hhd⟩:∃z,z=pV nm wd ln ds bd:=⟨_,rfl⟩;have HHD:=aa hhd;clear hhd;go_wp2_with fail;refine(aD (g:=gg) (head_calls nm wd ln ds bd A3 c3 A4 c4 gg.W (PAt.out.below (gout gg)) (by have:=(okI_b HG.out.good.ln).2;simp only at this;omega) hd HHD.out)).mono ?_;rintro _ _ ⟨rfl,gg,rfl⟩;have HE:=aa (headS_e (nm:=nm) (wd:=wd) (ln:=ln) (ds:=ds) (bd:=bd))
 by_cases h2:hd.2=0
 rotate_left
 ·have H2:=aa h2;have b2:=bn h2;clear h2;go_wp2_with fail;go_ret3;refine⟨iU ?_,gout _⟩
  rcases HE.out with ⟨h,_⟩ | ⟨_,h⟩
  ·exact absurd (HHD.out ▸ h) H2.out
  ·rw[HR.out,h,HHD.out]
 have H2:=aa h2
 have b2:(hd.2 != 0)=ac:=by simp[h2]
 clear h2
 obtain⟨hF,hW,hP,hL,hS⟩:dR nm wd ln ds bd=af/\dB wd=af/\dJ ln=af/\ds.length<=256/\bC nm wd ln ds bd=eX wd ds bd:=by
  rcases HE.out with ⟨_,h⟩ | ⟨h,_⟩
  ·exact h
  ·exact absurd (HHD.out ▸ H2.out) h
 have FF:=aa (oR hF);have HS:=aa hS;have HL:=aa hL;clear hF hW hP hL hS;obtain⟨dd,hdd⟩:∃z,z=mI wd ds:=⟨_,rfl⟩;have HDD:=aa hdd;clear hdd;go_wp2_with fail;refine(aD (g:=gg) (decls_calls nm wd ln ds bd A3 c3 A4 c4 gg.W (PAt.out.below (gout gg)) FF.out.1 (fun d hd=>⟨FF.out.2.2.1 d hd,by have:=(okI_b (HG.out.good.ds d hd).2.2.1).2;omega,fun v hv=>(okU_b ((HG.out.good.ds d hd).2.2.2.2 v hv)).1⟩) HL.out dd HDD.out)).mono ?_;rintro _ _ ⟨rfl,gg,rfl⟩;have DE:=aa (declS_e (wd:=wd) (ds:=ds) (bd:=bd))
 by_cases h3:dd.e=0
 rotate_left
 ·have H3:=aa h3;have b3:=bn h3;clear h3;go_wp2_with fail;go_ret3;refine⟨iU ?_,gout _⟩
  rcases DE.out with ⟨h,_⟩ | ⟨_,h⟩
  ·exact absurd (HDD.out ▸ h) H3.out
  ·rw[HR.out,HS.out,h,←HDD.out]
 have H3:=aa h3
 have b3:(dd.e != 0)=ac:=by simp[h3]
 clear h3
 have HC:=aa (show r=dQ wd ds bd (things ds bd) 6 by
  rcases DE.out with ⟨_,h⟩ | ⟨h,_⟩
  ·rw[HR.out,HS.out,h]
  ·exact absurd (HDD.out ▸ H3.out) h)
 go_wp2_with fail;have CL:=List_calls nm wd ln ds bd A3 c3 A4 c4 gg.W HG.out.sizes.1 (Kd.aF PAt.out.hb (gout gg)) PAt.out.hlb HG.out.sizes.2;refine CL.mono ?_;clear CL;rintro _ w2 ⟨v1,rfl,hLi,hB⟩;obtain⟨AL,cL,rfl⟩:=Kd.bN hLi;have hlen:=Li.len hLi;rw[hlen]at hLi ⊢;have HLi:=aa hLi;have HB:=aa ((gout gg).trans (hB.mono (gout gg).size));have hszw:w.heap.size<w2.heap.size:=br (br (by simp[gw0]) gg.below.size) hB.size;have bx:∀j,w2.cell? ⟨w.heap.size,j,ak⟩=(gw0 gg).cell? ⟨w.heap.size,j,ak⟩:=fun j=>(hB.cell (p:=⟨w.heap.size,j,ak⟩) (br (by simp[gw0]) gg.below.size)).trans (gg.below.cell (p:=⟨w.heap.size,j,ak⟩) (by simp[gw0]));have x0:w2.cell? ⟨w.heap.size,0,ak⟩=ag (.string nm):=(bx 0).trans (by simp[gw0,go_sem]);have x1:w2.cell? ⟨w.heap.size,1,ak⟩=ag (.int .i64 wd):=(bx 1).trans (by simp[gw0,go_sem]);have x2:w2.cell? ⟨w.heap.size,2,ak⟩=ag (.int .i64 ln):=(bx 2).trans (by simp[gw0,go_sem]);have x3:w2.cell? ⟨w.heap.size,3,ak⟩=ag (.slice A3 ds.length c3):=(bx 3).trans (by simp[gw0,go_sem]);have x4:w2.cell? ⟨w.heap.size,4,ak⟩=ag (.slice A4 bd.length c4):=(bx 4).trans (by simp[gw0,go_sem]);clear hLi hB hlen bx
 have hlb:(things ds bd).length<=4194304:=by
  unfold things;have h1:=dF bd 1 [];have h2:=HG.out.sizes
  simp
  omega
 go_wp2_with fail
 go_loopw [9] (fun i W=>∃(c:Nat) (g:G w2),i=.int .i64 c/\W=g.W/\10<=c/\c<=16/\Aside0 (∀c',10<=c'->c'<c->∀j,j<(things ds bd).length->badC wd ds c' (bK (things ds bd) j)=ac)) (fun i _=>16 - (intOf i).toNat)
 case atStart=>exact⟨10,⟨w2,ar _ _⟩,rfl,rfl,aq _,by omega,⟨fun c' h1 h2=>by omega⟩⟩
 case round=>
  obtain⟨c,g,rfl,rfl,h10,h16,HK⟩:=hrel
  by_cases hc:c<=15
  ·have hc':(c:Int)<=15:=by omega
   go_wp2_with fail
   go_loopw [10] (fun i W=>∃(k:Nat) (g:G w2),i=.int .i64 k/\W=g.W/\k<=(things ds bd).length/\Aside0 (∀j,j<k->badC wd ds c (bK (things ds bd) j)=ac)) (fun i _=>(things ds bd).length - (intOf i).toNat)
   case atStart=>exact⟨0,g,rfl,rfl,bk _,⟨fun j hj=>absurd hj (da _)⟩⟩
   case round=>
    obtain⟨k,g,rfl,rfl,hk,HK2⟩:=hrel
    by_cases hlt:k<(things ds bd).length
    ·obtain⟨bL,A5,c5,A9,c9,A12,c12,A13,c13,A19,c19,A21,c21,eA,hrg,l21,g21⟩:=Li.at HLi.out hlt;subst eA;have HRG:=aa hrg;have KL:=aa (aj l21 g21);clear hrg l21 g21
     have hk1:(k:Int)<((things ds bd).length:Int):=by omega
     have hgt:=aa (r8 (ds:=ds) (HG.out.good.bd) (bK (things ds bd) k) (by unfold bK;rw[aw,az hlt];exact gn _))
     obtain⟨z,hz⟩:∃z,z=if badC wd ds c (bK (things ds bd) k)=af then qH c else 0:=⟨_,rfl⟩
     have HZ:=aa hz;clear hz
     rcases aL (badC wd ds c (bK (things ds bd) k))with hy | hy
     ·have HY:=aa hy;have HZ2:=aa (show z=qH c by rw[HZ.out,if_pos hy]);have bz:(z != 0)=af:=bn (by rw[HZ2.out];exact errC_ne c);clear hy
      go_upto_region 14 with (fail)
      refine eP (n:=8) (S:=fun w'=>∃g':G w2,w'=g'.W) (ds:=[]) #[ac,ac,ac,ac,ac,ac,ac,ac] (by kernel_rfl) rfl rfl ⟨mkG (g.2.drew),rfl⟩ (fun hHeld=> ?_);obtain⟨gd,hgd⟩:=hHeld;rw[hgd];clear hgd;refine aP (i:=1) (N:=ag 45) (v:= ?_) (a':= ?_) #[ac,af,ac,ac,ac,ac,ac,ac] rfl rfl (by kernel_rfl) (fun _ _ _ h=>h) (bc ⟨by rfl,?_⟩) ?_ ?_;rotate_left
      ·intro w';go_simp;with_reducible rfl
      rotate_left
      ·simp only[ay,ae,ah,ai,aJ,aK];rfl
      refine aP (i:=2) (N:=ag 46) (v:= ?_) (a':= ?_) #[ac,af,af,ac,ac,ac,ac,ac] rfl rfl (by kernel_rfl) (fun _ _ _ h=>h) (bc ⟨by rfl,?_⟩) ?_ ?_;rotate_left
      ·intro w';go_simp;with_reducible rfl
      rotate_left
      ·simp only[ay,ae,ah,ai,aJ,aK];rfl
      refine aP (i:=3) (N:=ag 47) (v:= ?_) (a':= ?_) #[ac,af,af,af,ac,ac,ac,ac] rfl rfl (by kernel_rfl) (fun _ _ _ h=>h) (bc ⟨by rfl,?_⟩) ?_ ?_;rotate_left
      ·intro w';go_simp;with_reducible rfl
      rotate_left
      ·simp only[ay,ae,ah,ai,aJ,aK];rfl
      refine aP (i:=5) (N:=ag 49) (v:= ?_) (a':= ?_) #[ac,af,af,af,ac,af,ac,ac] rfl rfl (by kernel_rfl) (fun _ _ _ h=>h) (bc ⟨by rfl,?_⟩) ?_ ?_;rotate_left
      ·intro w';go_simp;with_reducible rfl
      rotate_left
      ·simp only[ay,ae,ah,ai,aJ,aK];rfl
      refine cY (i:=0) (N:=ag 44) (v:= ?_) (a':= ?_) #[af,af,af,af,ac,af,ac,ac] rfl rfl (by kernel_rfl) (fun _ _ _ h=>h) (bc ⟨by rfl,?_⟩) ⟨gd,rfl⟩ ?_ ?_;rotate_left
      ·rintro w' ⟨g',rfl⟩;go_simp;with_reducible rfl
      rotate_left
      ·simp only[ay,ae,ah,ai,aJ,aK];rfl
      refine cY (i:=4) (N:=ag 48) (v:=.agg #[.int .i64 (aZ (bK (things ds bd) k)).is,.int .i64 (aZ (bK (things ds bd) k)).d,.int .i64 (aZ (bK (things ds bd) k)).s.f0,.string (aZ (bK (things ds bd) k)).s.f1,.int .i64 (aZ (bK (things ds bd) k)).s.f2.f0,.int .u64 (aZ (bK (things ds bd) k)).s.f2.f1,.string (aZ (bK (things ds bd) k)).s.f2.f2,.slice A5 (aZ (bK (things ds bd) k)).s.f2.f3.length c5,.int .i64 (aZ (bK (things ds bd) k)).s.f3.f0,.int .u64 (aZ (bK (things ds bd) k)).s.f3.f1,.string (aZ (bK (things ds bd) k)).s.f3.f2,.slice A9 (aZ (bK (things ds bd) k)).s.f3.f3.length c9,.int .u64 (aZ (bK (things ds bd) k)).s.f4,.int .u64 (aZ (bK (things ds bd) k)).s.f5,.slice A12 (aZ (bK (things ds bd) k)).s.f6.length c12,.slice A13 (aZ (bK (things ds bd) k)).s.f7.length c13,.int .i64 (aZ (bK (things ds bd) k)).e.f0,.int .u64 (aZ (bK (things ds bd) k)).e.f1,.string (aZ (bK (things ds bd) k)).e.f2,.slice A19 (aZ (bK (things ds bd) k)).e.f3.length c19,.int .i64 (aZ (bK (things ds bd) k)).deep,.slice A21 (aZ (bK (things ds bd) k)).loops.length c21]) (a':= ?_) #[af,af,af,af,af,af,ac,ac] rfl rfl (by kernel_rfl) (fun _ _ _ h=>h) (yieldsIf_load_mid (by rfl) 125 (.tmp 47) rfl bL (k*22) ?_ [.int .i64 (aZ (bK (things ds bd) k)).is,.int .i64 (aZ (bK (things ds bd) k)).d,.int .i64 (aZ (bK (things ds bd) k)).s.f0,.string (aZ (bK (things ds bd) k)).s.f1,.int .i64 (aZ (bK (things ds bd) k)).s.f2.f0,.int .u64 (aZ (bK (things ds bd) k)).s.f2.f1,.string (aZ (bK (things ds bd) k)).s.f2.f2,.slice A5 (aZ (bK (things ds bd) k)).s.f2.f3.length c5,.int .i64 (aZ (bK (things ds bd) k)).s.f3.f0,.int .u64 (aZ (bK (things ds bd) k)).s.f3.f1,.string (aZ (bK (things ds bd) k)).s.f3.f2,.slice A9 (aZ (bK (things ds bd) k)).s.f3.f3.length c9,.int .u64 (aZ (bK (things ds bd) k)).s.f4,.int .u64 (aZ (bK (things ds bd) k)).s.f5,.slice A12 (aZ (bK (things ds bd) k)).s.f6.length c12,.slice A13 (aZ (bK (things ds bd) k)).s.f7.length c13,.int .i64 (aZ (bK (things ds bd) k)).e.f0,.int .u64 (aZ (bK (things ds bd) k)).e.f1,.string (aZ (bK (things ds bd) k)).e.f2,.slice A19 (aZ (bK (things ds bd) k)).e.f3.length c19,.int .i64 (aZ (bK (things ds bd) k)).deep,.slice A21 (aZ (bK (things ds bd) k)).loops.length c21] _ (fun w' hw'=>by obtain⟨g',rfl⟩:=hw';exact rangeAt_in g'.below HRG.out) fz rfl (by kernel_rfl)) ⟨gd,rfl⟩ ?_ ?_
      ·first | rfl | (simp[Act.eval,Addr.add_mid];done)
      rotate_left
      ·simp only[ay,ae,ah,ai,aJ,aK];rfl
      refine kH (i:=6) (N:=ag 50) #[af,af,af,af,af,af,af,ac] rfl rfl (by kernel_rfl) (by simp) (fun K hK=> ?_);refine iP Tryz.func146 (by kernel_rfl) rfl #[.agg #[.string nm,.int .i64 wd,.int .i64 ln,.slice A3 ds.length c3,.slice A4 bd.length c4],(.agg #[.int .i64 (aZ (bK (things ds bd) k)).is,.int .i64 (aZ (bK (things ds bd) k)).d,.int .i64 (aZ (bK (things ds bd) k)).s.f0,.string (aZ (bK (things ds bd) k)).s.f1,.int .i64 (aZ (bK (things ds bd) k)).s.f2.f0,.int .u64 (aZ (bK (things ds bd) k)).s.f2.f1,.string (aZ (bK (things ds bd) k)).s.f2.f2,.slice A5 (aZ (bK (things ds bd) k)).s.f2.f3.length c5,.int .i64 (aZ (bK (things ds bd) k)).s.f3.f0,.int .u64 (aZ (bK (things ds bd) k)).s.f3.f1,.string (aZ (bK (things ds bd) k)).s.f3.f2,.slice A9 (aZ (bK (things ds bd) k)).s.f3.f3.length c9,.int .u64 (aZ (bK (things ds bd) k)).s.f4,.int .u64 (aZ (bK (things ds bd) k)).s.f5,.slice A12 (aZ (bK (things ds bd) k)).s.f6.length c12,.slice A13 (aZ (bK (things ds bd) k)).s.f7.length c13,.int .i64 (aZ (bK (things ds bd) k)).e.f0,.int .u64 (aZ (bK (things ds bd) k)).e.f1,.string (aZ (bK (things ds bd) k)).e.f2,.slice A19 (aZ (bK (things ds bd) k)).e.f3.length c19,.int .i64 (aZ (bK (things ds bd) k)).deep,.slice A21 (aZ (bK (things ds bd) k)).loops.length c21]),.int .i64 (c:Int)] (by rfl) rfl rfl (by(try simp only[cd,cg,db]);first | done | rfl) ?_;refine(viol_v nm wd ln ds bd A3 c3 A4 c4 (bK (things ds bd) k) gd.W (PAt.out.below (HB.out.trans (gd.below.mono HB.out.size))) (Kd.aF KL.out.2 gd.below) KL.out.1 FF.out.1 hgt.out c h10 hc (fun h=>HK.out 11 (by omega) (by omega) k hlt) z HZ.out).mono ?_;rintro _ w9 ⟨rfl,hb⟩;refine⟨_,rfl,?_⟩;obtain⟨gd,rfl⟩:∃g':G _,w9=g'.W:=⟨mkG (gd.below.trans (hb.mono gd.below.size)),rfl⟩;clear hb;refine hK.out _ _ ⟨gd,rfl⟩ (fun _=> ?_);clear hK K;refine cW (a':= ?_) ?_ ?_;rotate_left
      ·show ay _ (ag 50) _ = _
       simp only[ay,ae,ah,ai,aJ,aK];rfl
      refine aP (i:=7) (N:=ag 11) (v:= ?_) (a':= ?_) #[af,af,af,af,af,af,af,af] rfl rfl (by kernel_rfl) (fun _ _ _ h=>h) (bc ⟨by rfl,?_⟩) ?_ ?_;rotate_left
      ·intro w';go_simp;with_reducible rfl
      rotate_left
      ·simp only[ay,ae,ah,ai,aJ,aK];rfl
      refine iF (by kernel_rfl) ?_;go_wp2_with fail;go_ret3;exact⟨iU ((HC.out.trans (faultC_at h10 hc (fun c' h1 h2 j hj=>HK.out c' h1 h2 j hj) hlt HY.out HK2.out)).trans (by rw[HZ2.out])),HB.out.trans (gd.below.mono HB.out.size)⟩
     ·have HY:=aa hy
      have bz:(z != 0)=ac:=by rw[HZ.out,if_neg (by simp[hy])];rfl
      clear hy
      go_upto_region 14 with (fail)
      refine eP (n:=8) (S:=fun w'=>∃g':G w2,w'=g'.W) (ds:=[]) #[ac,ac,ac,ac,ac,ac,ac,ac] (by kernel_rfl) rfl rfl ⟨mkG (g.2.drew),rfl⟩ (fun hHeld=> ?_);obtain⟨gd,hgd⟩:=hHeld;rw[hgd];clear hgd;refine aP (i:=1) (N:=ag 45) (v:= ?_) (a':= ?_) #[ac,af,ac,ac,ac,ac,ac,ac] rfl rfl (by kernel_rfl) (fun _ _ _ h=>h) (bc ⟨by rfl,?_⟩) ?_ ?_;rotate_left
      ·intro w';go_simp;with_reducible rfl
      rotate_left
      ·simp only[ay,ae,ah,ai,aJ,aK];rfl
      refine aP (i:=2) (N:=ag 46) (v:= ?_) (a':= ?_) #[ac,af,af,ac,ac,ac,ac,ac] rfl rfl (by kernel_rfl) (fun _ _ _ h=>h) (bc ⟨by rfl,?_⟩) ?_ ?_;rotate_left
      ·intro w';go_simp;with_reducible rfl
      rotate_left
      ·simp only[ay,ae,ah,ai,aJ,aK];rfl
      refine aP (i:=3) (N:=ag 47) (v:= ?_) (a':= ?_) #[ac,af,af,af,ac,ac,ac,ac] rfl rfl (by kernel_rfl) (fun _ _ _ h=>h) (bc ⟨by rfl,?_⟩) ?_ ?_;rotate_left
      ·intro w';go_simp;with_reducible rfl
      rotate_left
      ·simp only[ay,ae,ah,ai,aJ,aK];rfl
      refine aP (i:=5) (N:=ag 49) (v:= ?_) (a':= ?_) #[ac,af,af,af,ac,af,ac,ac] rfl rfl (by kernel_rfl) (fun _ _ _ h=>h) (bc ⟨by rfl,?_⟩) ?_ ?_;rotate_left
      ·intro w';go_simp;with_reducible rfl
      rotate_left
      ·simp only[ay,ae,ah,ai,aJ,aK];rfl
      refine cY (i:=0) (N:=ag 44) (v:= ?_) (a':= ?_) #[af,af,af,af,ac,af,ac,ac] rfl rfl (by kernel_rfl) (fun _ _ _ h=>h) (bc ⟨by rfl,?_⟩) ⟨gd,rfl⟩ ?_ ?_;rotate_left
      ·rintro w' ⟨g',rfl⟩;go_simp;with_reducible rfl
      rotate_left
      ·simp only[ay,ae,ah,ai,aJ,aK];rfl
      refine cY (i:=4) (N:=ag 48) (v:=.agg #[.int .i64 (aZ (bK (things ds bd) k)).is,.int .i64 (aZ (bK (things ds bd) k)).d,.int .i64 (aZ (bK (things ds bd) k)).s.f0,.string (aZ (bK (things ds bd) k)).s.f1,.int .i64 (aZ (bK (things ds bd) k)).s.f2.f0,.int .u64 (aZ (bK (things ds bd) k)).s.f2.f1,.string (aZ (bK (things ds bd) k)).s.f2.f2,.slice A5 (aZ (bK (things ds bd) k)).s.f2.f3.length c5,.int .i64 (aZ (bK (things ds bd) k)).s.f3.f0,.int .u64 (aZ (bK (things ds bd) k)).s.f3.f1,.string (aZ (bK (things ds bd) k)).s.f3.f2,.slice A9 (aZ (bK (things ds bd) k)).s.f3.f3.length c9,.int .u64 (aZ (bK (things ds bd) k)).s.f4,.int .u64 (aZ (bK (things ds bd) k)).s.f5,.slice A12 (aZ (bK (things ds bd) k)).s.f6.length c12,.slice A13 (aZ (bK (things ds bd) k)).s.f7.length c13,.int .i64 (aZ (bK (things ds bd) k)).e.f0,.int .u64 (aZ (bK (things ds bd) k)).e.f1,.string (aZ (bK (things ds bd) k)).e.f2,.slice A19 (aZ (bK (things ds bd) k)).e.f3.length c19,.int .i64 (aZ (bK (things ds bd) k)).deep,.slice A21 (aZ (bK (things ds bd) k)).loops.length c21]) (a':= ?_) #[af,af,af,af,af,af,ac,ac] rfl rfl (by kernel_rfl) (fun _ _ _ h=>h) (yieldsIf_load_mid (by rfl) 125 (.tmp 47) rfl bL (k*22) ?_ [.int .i64 (aZ (bK (things ds bd) k)).is,.int .i64 (aZ (bK (things ds bd) k)).d,.int .i64 (aZ (bK (things ds bd) k)).s.f0,.string (aZ (bK (things ds bd) k)).s.f1,.int .i64 (aZ (bK (things ds bd) k)).s.f2.f0,.int .u64 (aZ (bK (things ds bd) k)).s.f2.f1,.string (aZ (bK (things ds bd) k)).s.f2.f2,.slice A5 (aZ (bK (things ds bd) k)).s.f2.f3.length c5,.int .i64 (aZ (bK (things ds bd) k)).s.f3.f0,.int .u64 (aZ (bK (things ds bd) k)).s.f3.f1,.string (aZ (bK (things ds bd) k)).s.f3.f2,.slice A9 (aZ (bK (things ds bd) k)).s.f3.f3.length c9,.int .u64 (aZ (bK (things ds bd) k)).s.f4,.int .u64 (aZ (bK (things ds bd) k)).s.f5,.slice A12 (aZ (bK (things ds bd) k)).s.f6.length c12,.slice A13 (aZ (bK (things ds bd) k)).s.f7.length c13,.int .i64 (aZ (bK (things ds bd) k)).e.f0,.int .u64 (aZ (bK (things ds bd) k)).e.f1,.string (aZ (bK (things ds bd) k)).e.f2,.slice A19 (aZ (bK (things ds bd) k)).e.f3.length c19,.int .i64 (aZ (bK (things ds bd) k)).deep,.slice A21 (aZ (bK (things ds bd) k)).loops.length c21] _ (fun w' hw'=>by obtain⟨g',rfl⟩:=hw';exact rangeAt_in g'.below HRG.out) fz rfl (by kernel_rfl)) ⟨gd,rfl⟩ ?_ ?_
      ·first | rfl | (simp[Act.eval,Addr.add_mid];done)
      rotate_left
      ·simp only[ay,ae,ah,ai,aJ,aK];rfl
      refine kH (i:=6) (N:=ag 50) #[af,af,af,af,af,af,af,ac] rfl rfl (by kernel_rfl) (by simp) (fun K hK=> ?_);refine iP Tryz.func146 (by kernel_rfl) rfl #[.agg #[.string nm,.int .i64 wd,.int .i64 ln,.slice A3 ds.length c3,.slice A4 bd.length c4],(.agg #[.int .i64 (aZ (bK (things ds bd) k)).is,.int .i64 (aZ (bK (things ds bd) k)).d,.int .i64 (aZ (bK (things ds bd) k)).s.f0,.string (aZ (bK (things ds bd) k)).s.f1,.int .i64 (aZ (bK (things ds bd) k)).s.f2.f0,.int .u64 (aZ (bK (things ds bd) k)).s.f2.f1,.string (aZ (bK (things ds bd) k)).s.f2.f2,.slice A5 (aZ (bK (things ds bd) k)).s.f2.f3.length c5,.int .i64 (aZ (bK (things ds bd) k)).s.f3.f0,.int .u64 (aZ (bK (things ds bd) k)).s.f3.f1,.string (aZ (bK (things ds bd) k)).s.f3.f2,.slice A9 (aZ (bK (things ds bd) k)).s.f3.f3.length c9,.int .u64 (aZ (bK (things ds bd) k)).s.f4,.int .u64 (aZ (bK (things ds bd) k)).s.f5,.slice A12 (aZ (bK (things ds bd) k)).s.f6.length c12,.slice A13 (aZ (bK (things ds bd) k)).s.f7.length c13,.int .i64 (aZ (bK (things ds bd) k)).e.f0,.int .u64 (aZ (bK (things ds bd) k)).e.f1,.string (aZ (bK (things ds bd) k)).e.f2,.slice A19 (aZ (bK (things ds bd) k)).e.f3.length c19,.int .i64 (aZ (bK (things ds bd) k)).deep,.slice A21 (aZ (bK (things ds bd) k)).loops.length c21]),.int .i64 (c:Int)] (by rfl) rfl rfl (by(try simp only[cd,cg,db]);first | done | rfl) ?_;refine(viol_v nm wd ln ds bd A3 c3 A4 c4 (bK (things ds bd) k) gd.W (PAt.out.below (HB.out.trans (gd.below.mono HB.out.size))) (Kd.aF KL.out.2 gd.below) KL.out.1 FF.out.1 hgt.out c h10 hc (fun h=>HK.out 11 (by omega) (by omega) k hlt) z HZ.out).mono ?_;rintro _ w9 ⟨rfl,hb⟩;refine⟨_,rfl,?_⟩;obtain⟨gd,rfl⟩:∃g':G _,w9=g'.W:=⟨mkG (gd.below.trans (hb.mono gd.below.size)),rfl⟩;clear hb;refine hK.out _ _ ⟨gd,rfl⟩ (fun _=> ?_);clear hK K;refine cW (a':= ?_) ?_ ?_;rotate_left
      ·show ay _ (ag 50) _ = _
       simp only[ay,ae,ah,ai,aJ,aK];rfl
      refine aP (i:=7) (N:=ag 11) (v:= ?_) (a':= ?_) #[af,af,af,af,af,af,af,af] rfl rfl (by kernel_rfl) (fun _ _ _ h=>h) (bc ⟨by rfl,?_⟩) ?_ ?_;rotate_left
      ·intro w';go_simp;with_reducible rfl
      rotate_left
      ·simp only[ay,ae,ah,ai,aJ,aK];rfl
      refine iF (by kernel_rfl) ?_;go_wp2_with fail;exact⟨⟨k+1,gd,by go_num,rfl,by omega,⟨fun j hj=>(gy (j=k)).elim (fun h=>h ▸ HY.out) (fun h=>HK2.out j (by omega))⟩⟩,by simp[intOf];omega⟩
    ·have hk1:¬(k:Int)<((things ds bd).length:Int):=by omega
     go_wp2_with fail;exact⟨⟨c+1,g,by go_num,rfl,by omega,by omega,⟨fun c' h1 h2 j hj=>(gy (c'=c)).elim (fun h=>by rw[h];exact HK2.out j (by omega)) (fun h=>HK.out c' h1 (by omega) j hj)⟩⟩,by simp[intOf];omega⟩
  ·have hc':¬(c:Int)<=15:=by omega
   have HE2:=aa (HC.out.trans (faultC_none (bd:=bd) fun c' h1 h2 j hj=>HK.out c' h1 (by omega) j hj));obtain⟨m,hm⟩:∃m,m=min (bS bd) 65537:=⟨_,rfl⟩;have HM:=aa hm;clear hm;go_wp2_with fail;refine(aD (g:=g) (mK (refSize_calls _ bd (aq _) ((Ot.cV bd).2 HG.out.good.bd) HG.out.sizes.2) HM.out A4 c4 g.W (Kd.aF PAt.out.hb (HB.out.trans (g.below.mono HB.out.size))) PAt.out.hlb)).mono ?_;rintro _ _ ⟨rfl,g,rfl⟩
   by_cases h7:65536<bS bd
   ·have H7:=aa h7
    have hm7:(65536:Int)<(m:Int):=by have:=HM.out;omega
    clear h7;go_wp2_with fail;go_ret3;exact⟨iU (by rw[HE2.out,if_pos H7.out]),HB.out.trans (g.below.mono HB.out.size)⟩
   ·have H7:=aa h7
    have hm7:¬(65536:Int)<(m:Int):=by have:=HM.out;omega
    clear h7;go_wp2_with fail;go_ret3;exact⟨iU (by rw[HE2.out,if_neg (by have:=H7.out;omega)]),HB.out.trans (g.below.mono HB.out.size)⟩
end
section
attribute [local go_sem] G.cell
theorem refCheck_calls (nm:ByteArray)(wd ln:Int)(ds:List S70)(bd:List S119)(A3:Option Addr)(c3:Nat)(A4:Option Addr)(c4:Nat)(w:World)(hp:ProgAt w ds bd A3 c3 A4 c4)(hg:PGood nm wd ln ds bd)(r:Ans)(hr:r=bC nm wd ln ds bd):
 Calls au 50 #[.agg #[.string nm,.int .i64 wd,.int .i64 ln,.slice A3 ds.length c3,.slice A4 bd.length c4]] w fun e w'=>e=.returned (.int .i64 r.e)/\Below w.heap.size w w':=by
 have gout:=@gA w;have PAt:=aa hp;have HR:=aa hr;have HG:=aa hg;clear hp hr hg;go_enter Tryz.func50,Tryz.ntmps50
 go_upto_region 1 with (fail)
 refine aG ?_;intro gg;go_wp2_with fail;refine(aD (g:=gg) (refFault_calls nm wd ln ds bd A3 c3 A4 c4 gg.W (PAt.out.below (gout gg)) HG.out r HR.out)).mono ?_;rintro _ _ ⟨rfl,gg,rfl⟩;go_wp2_with fail;go_ret;exact⟨rfl,gout _⟩
def sizeS (cap:Nat)(nm:ByteArray)(wd ln:Int)(ds:List S70)(bd:List S119):Int × Int:=
 if(bC nm wd ln ds bd).e=0 then(((min (bS bd) cap:Nat):Int),0)else(0,(bC nm wd ln ds bd).e)
end
section
attribute [local go_sem] G.cell
def d9 (W:World):Value->List ByteArray->Prop
 |v,[]=>v=.pointer ak
 |v,nm::r=>∃b nx,v=.pointer (ag ⟨b,0,ak⟩)/\W.heap[b]? =ag (.cells #[.string nm,nx] 121 (0,0))/\d9 W nx r
structure Gw (Wb W W':World)(b:Nat):Prop where
 below:Below Wb.heap.size Wb W'
 grown:W.grownBy W' (ag b)
theorem Gw.trans {Wb W W1 W2:World}{b:Nat}(h:Gw Wb W W1 b)(k:Gw Wb W1 W2 b):Gw Wb W W2 b:=
 ⟨k.below,⟨k.grown.os.trans h.grown.os,k.grown.tape.trans h.grown.tape,k.grown.output.trans h.grown.output,bi h.grown.size k.grown.size,fun i hi hn=>(k.grown.block i (br hi h.grown.size) hn).trans (h.grown.block i hi hn)⟩⟩
theorem Gw.of_below {Wb W W1:World}(b:Nat)(hb:Below Wb.heap.size Wb W)(h:Below W.heap.size W W1):Gw Wb W W1 b:=
 ⟨hb.trans (h.mono hb.size),⟨h.os,h.tape,h.output,h.size,fun k hk _=>h.block k hk⟩⟩
theorem d9.step {W W':World}{b n:Nat}{sv:Value}(hw:W.heap[b]? =ag (.cells #[.int .i64 n,sv] 183 (0,0)))(hg:W.grownBy W' (ag b)):∀{lo:List ByteArray} {v:Value},d9 W v lo->d9 W' v lo
 | [],v,h=>h
 |nm::r,v,⟨c,nx,hv,hc,hr⟩=>⟨c,nx,hv,(hg.block c (aX hc) (fun e=>by
   injection e with e;subst e;rw[hw]at hc;injection hc with hc;injection hc with _ hc
   exact absurd hc (by decide))).trans hc,d9.step hw hg hr⟩
theorem d9.below {W W':World}(hb:Below W.heap.size W W'):∀{lo:List ByteArray} {v:Value},d9 W v lo->d9 W' v lo
 | [],v,h=>h
 |nm::r,v,⟨c,nx,hv,hc,hr⟩=>⟨c,nx,hv,aB hc hb,d9.below hb hr⟩
def ExAt (Wb:World)(p:Value)(e:S116):Prop:=∃(a:Addr) (A:Option Addr) (c:Nat),p=.pointer (ag ⟨a.block,a.off,ak⟩)/\Wb.rangeAt a.block a.off [.int .i64 e.f0,.int .u64 e.f1,.string e.f2,.slice A e.f3.length c]/\e.f3.length<=c/\dC.C Wb A e.f3.length e.f3
def StAt (Wb:World)(p:Value)(x:S119):Prop:=∃(a:Addr) (A5:Option Addr) (c5:Nat) (A9:Option Addr) (c9:Nat) (A12:Option Addr) (c12:Nat) (A13:Option Addr) (c13:Nat),p=.pointer (ag ⟨a.block,a.off,ak⟩)/\
 Wb.rangeAt a.block a.off [.int .i64 x.f0,.string x.f1,.int .i64 x.f2.f0,.int .u64 x.f2.f1,.string x.f2.f2,.slice A5 x.f2.f3.length c5,.int .i64 x.f3.f0,.int .u64 x.f3.f1,.string x.f3.f2,.slice A9 x.f3.f3.length c9,.int .u64 x.f4,.int .u64 x.f5,.slice A12 x.f6.length c12,.slice A13 x.f7.length c13]/\
 x.f2.f3.length<=c5/\dC.C Wb A5 x.f2.f3.length x.f2.f3/\x.f3.f3.length<=c9/\dC.C Wb A9 x.f3.f3.length x.f3.f3/\x.f6.length<=c12/\dN.C Wb A12 x.f6.length x.f6/\x.f7.length<=c13/\dN.C Wb A13 x.f7.length x.f7
def ThP (Wb W:World)(dp sp ep:Value)(dI:Int)(lp:Value):Th->Prop
 | .decl i=>(∃a,dp=.pointer (ag a))/\sp=.pointer ak/\ep=.pointer ak/\dI=0/\lp=.pointer ak
 | .stmt s d lo=>dp=.pointer ak/\StAt Wb sp s/\ep=.pointer ak/\dI=(d:Int)/\d9 W lp lo.reverse
 | .expr e lo=>dp=.pointer ak/\sp=.pointer ak/\ExAt Wb ep e/\dI=0/\d9 W lp lo.reverse
theorem ThP.below {Wb W W':World}{dp sp ep:Value}{dI:Int}{lp:Value}{t:Th}(h:ThP Wb W dp sp ep dI lp t)(hb:Below W.heap.size W W'):ThP Wb W' dp sp ep dI lp t:=by
 cases t with
 |decl i=>exact h
 |stmt s d lo=>exact⟨h.1,h.2.1,h.2.2.1,h.2.2.2.1,h.2.2.2.2.below hb⟩
 |expr e lo=>exact⟨h.1,h.2.1,h.2.2.1,h.2.2.2.1,h.2.2.2.2.below hb⟩
theorem ThP.step {Wb W W':World}{b n:Nat}{sv:Value}(hw:W.heap[b]? =ag (.cells #[.int .i64 n,sv] 183 (0,0)))(hg:W.grownBy W' (ag b)){dp sp ep:Value}{dI:Int}{lp:Value}{t:Th}(h:ThP Wb W dp sp ep dI lp t):ThP Wb W' dp sp ep dI lp t:=by
 cases t with
 |decl i=>exact h
 |stmt s d lo=>exact⟨h.1,h.2.1,h.2.2.1,h.2.2.2.1,h.2.2.2.2.step hw hg⟩
 |expr e lo=>exact⟨h.1,h.2.1,h.2.2.1,h.2.2.2.1,h.2.2.2.2.step hw hg⟩
def nI (n:Nat):List PanicEntry:=[{ v:=.iface 289 (.agg #[.int .i64 n]),recovered:=ac }]
def outE (bad:Bool)(n:Nat):Ending:=if bad=af then .panicked (nI n)else .returned (.tuple #[])
def SeeOK (Wb:World)(bw:Nat)(R:Th->Prop)(f:Th->Bool):Prop:=∀(W:World) (n:Nat) (dp sp ep:Value) (dI:Int) (lp:Value) (t:Th),R t->Below Wb.heap.size Wb W->ThP Wb W dp sp ep dI lp t->
 Calls au 284 #[.agg #[.int .i64 n,dp,sp,ep,.int .i64 dI,lp],.pointer (ag ⟨bw,0,ak⟩)] W fun r W'=>r=outE (f t) n/\Below W.heap.size W W'
abbrev seeV (bw:Nat):Value:=.func (.func 284) #[] #[.pointer (ag ⟨bw,0,ak⟩)]
theorem callP_ {P:Program}{ops:Array Oper}{Q:Exit->Act->World->Prop}{oi:Oper}{N:Option Tmp}{a:Act}{w:World}{K:Act->World->Prop}(f:FuncId)(args:Array Value)(hw:dq oi (yielded ops a.tmps)=af)(hN:oi.dst=N)(hrun:(execOp a.eval oi).run P w=.ok (.enter f args) w)
 (h:Calls P f args w fun e w'=>(∃v,e=.returned v/\K (a.put N v) w')\/(∃c,e=.panicked c/\Q (.panic c) a w')):if dq oi (yielded ops a.tmps)=af then jm P oi a w K Q else K (a.put N undef) w:=by
 rw[if_pos hw];subst hN;unfold jm;rw[hrun,Oper.upon_enter];refine h.mono fun e w'' hh=> ?_
 rcases hh with ⟨v,rfl,hk⟩ | ⟨c,rfl,hk⟩
 ·exact hk
 ·exact hk
theorem oO {Wb:World}{bw b:Nat}{R:Th->Prop}{f:Th->Bool}(hs:SeeOK Wb bw R f)(hbb:Wb.heap.size<=b)(W:World)(n:Nat)(hn:n<4611686018427387904)(dp sp ep:Value)(n0 dI:Int)(lp:Value)(t:Th)(hR:R t)(hB:Below Wb.heap.size Wb W)
 (hw:W.heap[b]? =ag (.cells #[.int .i64 n,seeV bw] 183 (0,0))) (ht:ThP Wb W dp sp ep dI lp t):
 Calls au 122 #[.pointer (ag ⟨b,0,ak⟩),.agg #[.int .i64 n0,dp,sp,ep,.int .i64 dI,lp]] W fun r W'=>r=outE (f t) n/\W'.heap[b]? =ag (.cells #[.int .i64 ((n+1:Nat):Int),seeV bw] 183 (0,0))/\Gw Wb W W' b:=by
 have c0:W.cell? ⟨b,0,ak⟩=ag (.int .i64 n):=(aA hw 0).trans rfl;have c1:W.cell? ⟨b,1,ak⟩=ag (seeV bw):=(aA hw 1).trans rfl;have f0:=aH hw 0;have hlt:=aX hw;have hw1:wrap64 ((n:Int)+1)=((n+1:Nat):Int):=lO (by omega);have HS:=aa hs;have HRT:=aa hR;clear hR;have HT:=aa ht;have HW:=aa hw;have HB:=aa hB;have HBB:=aa hbb;clear hs ht hw hB hbb;go_enter Tryz.func122,Tryz.ntmps122
 go_upto_region 3 with (fail)
 refine aG ?_;intro gg
 have HX:=aa (show Gw Wb W (gw0 gg) b from⟨(HB.out.setCell (p:=⟨b,0,ak⟩) HBB.out _).alloc (bi HB.out.size (by simp[ji])) _,⟨rfl,rfl,rfl,by simp[gw0,ji],fun i hi hne=>by
  rw[ic _ _ _ (by simpa[ji]using hi),dn _ _ _ _ (fun e=>hne (by rw[e]))]⟩⟩)
 have HLT:=aa hlt
 have HXB:=aa (show(gw0 gg).heap[b]? =ag (.cells #[.int .i64 ((n+1:Nat):Int),seeV bw] 183 (0,0)) by
  rw[ic _ _ _ (by simpa[ji]using hlt)]
  exact bQ HW.out 0 _ rfl)
 have y1:∀g':G (gw0 gg),g'.W.cell? ⟨b,1,ak⟩=ag (seeV bw):=fun g'=>(g'.below.cell (p:=⟨b,1,ak⟩) (br HLT.out HX.out.grown.size)).trans ((aA HXB.out 1).trans rfl);clear c0 c1 f0 hlt;refine eP (n:=6) (S:=fun w'=>∃g':G (gw0 gg),w'=g'.W) (ds:=[]) #[ac,ac,ac,ac,ac,ac] (by kernel_rfl) rfl rfl ⟨mkG (gg.2.drew),rfl⟩ (fun hHeld=> ?_);obtain⟨gd,hgd⟩:=hHeld;rw[hgd];clear hgd;refine aP (i:=0) (N:=ag 16) (v:= ?_) (a':= ?_) #[af,ac,ac,ac,ac,ac] rfl rfl (by kernel_rfl) (fun _ _ _ h=>h) (bc ⟨by rfl,?_⟩) ?_ ?_;rotate_left
 ·intro w';go_simp;with_reducible rfl
 rotate_left
 ·simp only[ay,ae,ah,ai,aJ,aK];rfl
 refine aP (i:=1) (N:=ag 17) (v:= ?_) (a':= ?_) #[af,af,ac,ac,ac,ac] rfl rfl (by kernel_rfl) (fun _ _ _ h=>h) (bc ⟨by rfl,?_⟩) ?_ ?_;rotate_left
 ·intro w';go_simp;with_reducible rfl
 rotate_left
 ·simp only[ay,ae,ah,ai,aJ,aK];rfl
 refine aP (i:=2) (N:=ag 18) (v:= ?_) (a':= ?_) #[af,af,af,ac,ac,ac] rfl rfl (by kernel_rfl) (fun _ _ _ h=>h) (bc ⟨by rfl,?_⟩) ?_ ?_;rotate_left
 ·intro w';go_simp;with_reducible rfl
 rotate_left
 ·simp only[ay,ae,ah,ai,aJ,aK];rfl
 refine cY (i:=3) (N:=ag 19) (v:= ?_) (a':= ?_) #[af,af,af,af,ac,ac] rfl rfl (by kernel_rfl) (fun _ _ _ h=>h) (bc ⟨by rfl,?_⟩) ⟨gd,rfl⟩ ?_ ?_;rotate_left
 ·rintro w' ⟨g',rfl⟩;go_simp;with_reducible rfl
 rotate_left
 ·simp only[ay,ae,ah,ai,aJ,aK];rfl
 refine cY (i:=4) (N:=ag 20) (v:= ?_) (a':= ?_) #[af,af,af,af,af,ac] rfl rfl (by kernel_rfl) (fun _ _ _ h=>h) (bc ⟨by rfl,?_⟩) ⟨gd,rfl⟩ ?_ ?_;rotate_left
 ·rintro w' ⟨g',rfl⟩;go_simp;with_reducible rfl
 rotate_left
 ·simp only[ay,ae,ah,ai,aJ,aK];rfl
 refine kH (i:=5) (N:=ag 21) #[af,af,af,af,af,af] rfl rfl (by kernel_rfl) (by simp) (fun K hK=> ?_);refine callP_ 284 #[.agg #[.int .i64 n,dp,sp,ep,.int .i64 dI,lp],.pointer (ag ⟨bw,0,ak⟩)] (by rfl) rfl (by first | (go_simp;done) | (go_simp;rfl)) ?_;refine(HS.out gd.W n dp sp ep dI lp t HRT.out (HX.out.below.trans (gd.below.mono HX.out.below.size)) ((ThP.step HW.out HX.out.grown HT.out).below gd.below)).mono ?_;rintro _ w9 ⟨rfl,hb⟩;have HE:=aa (aj ((gd.below.trans (hb.mono gd.below.size)).block b (br HLT.out HX.out.grown.size)) (HX.out.trans (Gw.of_below b HX.out.below (gd.below.trans (hb.mono gd.below.size)))))
 cases hf:f t
 ·left;refine⟨.tuple #[],rfl,?_⟩;refine hK.out _ _ ⟨mkG (gd.below.trans (hb.mono gd.below.size)),rfl⟩ (fun _=> ?_);clear hK K;refine iF (by kernel_rfl) ?_;go_wp2_with fail
  first | go_end0 | skip
  exact⟨by rw[hf];rfl,HE.out.1.trans HXB.out,HE.out.2⟩
 ·right;exact⟨_,rfl,rfl,by rw[hf];rfl,HE.out.1.trans HXB.out,HE.out.2⟩
end
section
attribute [local go_sem] G.cell
def qY (W:World)(b:Nat):Prop:=∃n:Int,W.heap[b]? =ag (.cells #[.int .i64 n] 3 (0,0))
theorem Gw.refl {Wb W:World}{b:Nat}(h:Below Wb.heap.size Wb W):Gw Wb W W b:=⟨h,⟨rfl,rfl,rfl,aq _,fun _ _ _=>rfl⟩⟩
theorem Gw.alloc {Wb W:World}{b:Nat}(h:Below Wb.heap.size Wb W)(o:Obj):Gw Wb W (W.alloc o) b:=⟨h.alloc h.size o,⟨rfl,rfl,rfl,by simp,fun i hi _=>ic W o i hi⟩⟩
theorem Gw.put {Wb W W1:World}{b:Nat}(h:Gw Wb W W1 b)(hb:Wb.heap.size<=b)(j:Nat)(u:Value):Gw Wb W (W1.setCell ⟨b,j,ak⟩ u) b:=
 h.trans ⟨h.below.setCell (p:=⟨b,j,ak⟩) hb u,⟨rfl,rfl,rfl,by simp[ji],fun i hi hne=>dn _ _ _ _ (fun e=>hne (by rw[e]))⟩⟩
theorem Gw.blk {Wb W W1:World}{b i:Nat}{o:Obj}(h:Gw Wb W W1 b)(hi:W.heap[i]? =ag o)(hne:i≠b):W1.heap[i]? =ag o:=(h.grown.block i (aX hi) (fun e=>hne (by injection e))).trans hi
def PartsC (x:S116):Prop:=∀(Wb W:World) (b:Nat) (A:Option Addr) (c:Nat),Below Wb.heap.size Wb W->Wb.heap.size<=b->qY W b->dC.C Wb A x.f3.length x.f3->x.f3.length<=c->
 Calls au 151 #[.agg #[.int .i64 x.f0,.int .u64 x.f1,.string x.f2,.slice A x.f3.length c],.pointer (ag ⟨b,0,ak⟩)] W fun e W'=>e=.returned (.tuple #[])/\qY W' b/\Gw Wb W W' b
theorem parts_walk (x:S116)(ih:∀y∈x.f3,PartsC y):PartsC x:=by
 intro Wb W b A c hB hb hn hc hl;have IH:=aa ih;have HC:=aa hc;have HB:=aa hB;have HBB:=aa hb;have hlm:=hc.2.1;obtain⟨n,hn⟩:=hn;have hlt:=aX hn;have HN:=aa hn;have z0:∀o:Obj,(W.alloc o).cell? ⟨b,0,ak⟩=ag (.int .i64 n):=fun o=>(aA (eR hn o) 0).trans rfl;have y0:∀o:Obj,(W.alloc o).frozen? ⟨b,0,ak⟩=ac:=fun o=>aH (eR hn o) 0;clear ih hc hB hb hn;obtain⟨x0,x1,x2,x3⟩:=x;simp only at*;go_enter Tryz.func151,Tryz.ntmps151
 go_upto_region 2 with (fail)
 obtain⟨X,hX⟩:∃X,X=(W.setCell ⟨b,0,ak⟩ (.int .i64 (wrap64 (n+1)))).alloc (.cells #[.int .i64 x0,.int .u64 x1,.string x2,.slice A x3.length c] 116):=⟨_,rfl⟩;rw[←hX]
 have KX:=aa (show qY X b/\Gw Wb W X b/\X.heap[W.heap.size]? =ag (.cells #[.int .i64 x0,.int .u64 x1,.string x2,.slice A x3.length c] 116 (0,0)) from by
  rw[hX]
  exact⟨⟨_,eR (bQ HN.out 0 _ rfl) _⟩,((Gw.refl HB.out).put HBB.out 0 _).trans (Gw.alloc ((Gw.refl HB.out).put HBB.out 0 _).below _),by simpa[ji]using aW (W.setCell ⟨b,0,ak⟩ (.int .i64 (wrap64 (n+1)))) (.cells #[.int .i64 x0,.int .u64 x1,.string x2,.slice A x3.length c] 116)⟩)
 clear hX z0 y0;have HLT:=aa hlt;clear hlt;go_wp2_with fail
 go_loopw [4] (fun i W1=>∃k:Nat,i=.int .i64 k/\k<=x3.length/\Aside0 (qY W1 b/\Gw Wb X W1 b)) (fun i _=>x3.length - (intOf i).toNat)
 case atStart=>exact⟨0,rfl,bk _,⟨KX.out.1,Gw.refl KX.out.2.1.below⟩⟩
 case round=>
  obtain⟨k,rfl,hk,HREL⟩:=hrel;have hbx:wr.cell? ⟨W.heap.size,3,ak⟩=ag (.slice A x3.length c):=(aA (HREL.out.2.blk KX.out.2.2 (by have:=HLT.out;omega)) 3).trans rfl
  by_cases hlt:k<x3.length
  ·have hi1:(k:Int)<(x3.length:Int):=by omega
   obtain⟨m,hm⟩:=HREL.out.1;have hz:wr.cell? ⟨b,0,ak⟩=ag (.int .i64 m):=(aA hm 0).trans rfl;clear hm
   by_cases h1:m<=10000
   ·obtain⟨ad,A3,c3,e1,q0,q1,q2,q3,l3,g3⟩:=iD HC.out (k:Int) (bo _) (by omega);cases e1;rw[ax]at q0 q1 q2 q3;replace q0:=aE HREL.out.2.below q0;replace q1:=aE HREL.out.2.below q1;replace q2:=aE HREL.out.2.below q2;replace q3:=aE HREL.out.2.below q3;have K:=aa (aj l3 g3);clear l3 g3;have MEM:=aa (gS hlt);go_wp2_with fail;refine(IH.out _ MEM.out Wb wr b A3 c3 HREL.out.2.below HBB.out HREL.out.1 K.out.2 K.out.1).mono ?_;rintro _ W2 ⟨rfl,hn2,hg2⟩;have H2:=aa (aj hn2 hg2);clear hn2 hg2;go_wp2_with fail;exact⟨⟨k+1,by go_num,by omega,⟨H2.out.1,HREL.out.2.trans H2.out.2⟩⟩,by simp[intOf];omega⟩
   ·go_wp2_with fail
    first | go_end0 | skip
    exact⟨rfl,HREL.out.1,KX.out.2.1.trans HREL.out.2⟩
  ·go_wp2_with fail
   first | go_end0 | skip
   exact⟨rfl,HREL.out.1,KX.out.2.1.trans HREL.out.2⟩
theorem pF:∀(n:Nat) (x:S116),cz x<=n->PartsC x:=by
 intro n
 induction n with
 |zero=>intro x h;obtain⟨a,b,s,l⟩:=x;simp at h
 |succ n ih=>exact fun x h=>parts_walk x fun y hy=>ih y (eV rfl hy h)
theorem rD {x:S119}{l:List S119}{n:Nat}(hx:x∈l)(h:cz l<=n+1):cz x.f6<=n/\cz x.f7<=n:=by
 have:=gq hx;obtain⟨k,s,e,f,lo,hi,th,el⟩:=x
 simp at this ⊢
 omega
def CountC (l:List S119):Prop:=∀(Wb W:World) (b:Nat) (A:Option Addr) (c:Nat),Below Wb.heap.size Wb W->Wb.heap.size<=b->qY W b->dN.C Wb A l.length l->l.length<=c->
 Calls au 111 #[.slice A l.length c,.pointer (ag ⟨b,0,ak⟩)] W fun e W'=>(∃n:Int,e=.returned (.int .i64 n))/\qY W' b/\Gw Wb W W' b
theorem count_walk (l:List S119)(ih:∀x∈l,CountC x.f6/\CountC x.f7):CountC l:=by
 intro Wb W b A c hB hb hn hc hl;have IH:=aa ih;have HC:=aa hc;have HB:=aa hB;have HBB:=aa hb;have HN:=aa hn;have hlm:=hc.2.1;clear ih hc hB hb hn;go_enter Tryz.func111,Tryz.ntmps111;go_wp2_with fail
 go_loopw [5] (fun i W1=>∃k:Nat,i=.int .i64 k/\k<=l.length/\Aside0 (qY W1 b/\Gw Wb W W1 b)) (fun i _=>l.length - (intOf i).toNat)
 case atStart=>exact⟨0,rfl,bk _,⟨HN.out,Gw.refl HB.out⟩⟩
 case round=>
  obtain⟨k,rfl,hk,HREL⟩:=hrel;obtain⟨m,hm⟩:=HREL.out.1;have hz:wr.cell? ⟨b,0,ak⟩=ag (.int .i64 m):=(aA hm 0).trans rfl
  by_cases hlt:k<l.length
  ·have hi1:(k:Int)<(l.length:Int):=by omega
   by_cases h1:m<=10000
   ·obtain⟨ad,A5,c5,A9,c9,A12,c12,A13,c13,e1,q0,q1,q2,q3,q4,q5,q6,q7,q8,q9,q10,q11,q12,q13,l5,g5,l9,g9,l12,g12,l13,g13⟩:=jX HC.out (k:Int) (bo _) (by omega);cases e1;rw[ax]at q2 q3 q4 q5 q6 q7 q8 q9 q12 q13;clear q0 q1 q10 q11;have Q:=aa (aj q2 (aj q3 (aj q4 (aj q5 (aj q6 (aj q7 (aj q8 (aj q9 (aj q12 q13)))))))));clear q2 q3 q4 q5 q6 q7 q8 q9 q12 q13;have K:=aa (aj l5 (aj g5 (aj l9 (aj g9 (aj l12 (aj g12 (aj l13 g13)))))));clear l5 g5 l9 g9 l12 g12 l13 g13;have IH1:=aa (IH.out _ (nW hlt));generalize aR l (k:Int)=y at*;have y0:=aH hm 0;have KX:=aa (show qY (wr.setCell ⟨b,0,ak⟩ (.int .i64 (wrap64 (m+1)))) b/\Gw Wb W (wr.setCell ⟨b,0,ak⟩ (.int .i64 (wrap64 (m+1)))) b from⟨⟨_,bQ hm 0 _ rfl⟩,HREL.out.2.put HBB.out 0 _⟩);clear hm
    go_upto_region 5 with (fail)
    generalize wr.setCell ⟨b,0,ak⟩ (.int .i64 (wrap64 (m+1)))=X at*;clear hz y0;have q2:=aE KX.out.2.below Q.out.1;have q3:=aE KX.out.2.below Q.out.2.1;have q4:=aE KX.out.2.below Q.out.2.2.1;have q5:=aE KX.out.2.below Q.out.2.2.2.1;go_wp2_with fail;refine(pF _ y.f2 (aq _) Wb X b A5 c5 KX.out.2.below HBB.out KX.out.1 K.out.2.1 K.out.1).mono ?_;rintro _ X5 ⟨rfl,hn2,hg2⟩;have H5:=aa (aj hn2 (KX.out.2.trans hg2));clear hn2 hg2 q2 q3 q4 q5;have q6:=aE H5.out.2.below Q.out.2.2.2.2.1;have q7:=aE H5.out.2.below Q.out.2.2.2.2.2.1;have q8:=aE H5.out.2.below Q.out.2.2.2.2.2.2.1;have q9:=aE H5.out.2.below Q.out.2.2.2.2.2.2.2.1;go_wp2_with fail;refine(pF _ y.f3 (aq _) Wb X5 b A9 c9 H5.out.2.below HBB.out H5.out.1 K.out.2.2.2.1 K.out.2.2.1).mono ?_;rintro _ X9 ⟨rfl,hn2,hg2⟩;have H9:=aa (aj hn2 (H5.out.2.trans hg2));clear hn2 hg2 q6 q7 q8 q9;have q12:=aE H9.out.2.below Q.out.2.2.2.2.2.2.2.2.1;go_wp2_with fail;refine(IH1.out.1 Wb X9 b A12 c12 H9.out.2.below HBB.out H9.out.1 K.out.2.2.2.2.2.1 K.out.2.2.2.2.1).mono ?_;rintro _ X12 ⟨⟨_,rfl⟩,hn2,hg2⟩;have H12:=aa (aj hn2 (H9.out.2.trans hg2));clear hn2 hg2 q12;have q13:=aE H12.out.2.below Q.out.2.2.2.2.2.2.2.2.2;go_wp2_with fail;refine(IH1.out.2 Wb X12 b A13 c13 H12.out.2.below HBB.out H12.out.1 K.out.2.2.2.2.2.2.2 K.out.2.2.2.2.2.2.1).mono ?_;rintro _ X13 ⟨⟨_,rfl⟩,hn2,hg2⟩;have H13:=aa (aj hn2 (H12.out.2.trans hg2));clear hn2 hg2 q13;go_wp2_with fail;exact⟨⟨k+1,by go_num,by omega,⟨H13.out.1,H13.out.2⟩⟩,by simp[intOf];omega⟩
   ·clear hm;go_wp2_with fail;go_ret;exact⟨⟨_,rfl⟩,HREL.out.1,HREL.out.2⟩
  ·clear hm;go_wp2_with fail;go_ret;exact⟨⟨_,rfl⟩,HREL.out.1,HREL.out.2⟩
theorem count_calls:∀(n:Nat) (l:List S119),cz l<=n->CountC l:=by
 intro n
 induction n with
 |zero=>intro l h;cases l <;> simp at h
 |succ n ih=>exact fun l h=>count_walk l fun x hx=>⟨ih _ (rD hx h).1,ih _ (rD hx h).2⟩
end
def zEx:Value:=.agg #[.int .i64 0,.int .u64 0,.string ⟨#[]⟩,.slice ak 0 0]
theorem info75:(Tryz.prog.info? 116).map (fun i=>(i.zero,i.size,i.bytes))=ag (ag zEx,4,56):=by kernel_rfl
theorem under73:Tryz.prog.underlying 114=ag (.slice 116):=by kernel_rfl
theorem goodEs_len {l:List S116}{x:S116}(hx:x.f3=l)(h:Ot.lL x):l.length*56<=140737488351232:=by
 obtain⟨a,b,s,r⟩:=x;rw[Ot.lL]at h;exact hx ▸ h.2.2.2.1
def zSt:Value:=.agg #[.int .i64 0,.string ⟨#[]⟩,.int .i64 0,.int .u64 0,.string ⟨#[]⟩,.slice ak 0 0,.int .i64 0,.int .u64 0,.string ⟨#[]⟩,.slice ak 0 0,.int .u64 0,.int .u64 0,.slice ak 0 0,.slice ak 0 0]
theorem info77:(Tryz.prog.info? 119).map (fun i=>(i.zero,i.size,i.bytes))=ag (ag zSt,14,200):=by kernel_rfl
theorem under27:Tryz.prog.underlying 23=ag (.slice 119):=by kernel_rfl
def zDe:Value:=.agg #[.int .i64 0,.string ⟨#[]⟩,.int .i64 0,.slice ak 0 0]
theorem info44:(Tryz.prog.info? 70).map (fun i=>(i.zero,i.size,i.bytes))=ag (ag zDe,4,56):=by kernel_rfl
theorem under26:Tryz.prog.underlying 22=ag (.slice 70):=by kernel_rfl
section
attribute [local go_sem] G.cell
def OwnEC (x:S116):Prop:=∀(A:Option Addr) (c:Nat) (w:World),dC.C w A x.f3.length x.f3->x.f3.length<=c->
 Calls au 152 #[.agg #[.int .i64 x.f0,.int .u64 x.f1,.string x.f2,.slice A x.f3.length c]] w fun r w'=>∃v,r=.returned (.agg #[.int .i64 x.f0,.int .u64 x.f1,.string x.f2,v])/\dC.R 116 w' w.heap.size (fun _=>True) v x.f3/\Below w.heap.size w w'
theorem ownE_walk (x:S116)(hg:Ot.lL x)(ih:∀y∈x.f3,OwnEC y):OwnEC x:=by
 intro A c w hc hl;have IH:=aa ih;have HC:=aa hc;have HN:=aa (goodEs_len rfl hg);have hlm:=hc.2.1;clear ih hc hg;obtain⟨x0,x1,x2,x3⟩:=x;simp only at*;go_enter Tryz.func152,Tryz.ntmps152
 go_upto_region 1 with (fail)
 obtain⟨X,hX⟩:∃X,X=(w.alloc (.cells #[.int .i64 x0,.int .u64 x1,.string x2,.slice A x3.length c] 116)).alloc (.cells #[.int .i64 0,.int .u64 0,.string ⟨#[]⟩,.slice ak 0 0] 116):=⟨_,rfl⟩;rw[←hX]
 have KX:=aa (show Below w.heap.size w X/\X.heap[w.heap.size]? =ag (.cells #[.int .i64 x0,.int .u64 x1,.string x2,.slice A x3.length c] 116 (0,0))/\X.heap[w.heap.size+1]? =ag (.cells #[.int .i64 0,.int .u64 0,.string ⟨#[]⟩,.slice ak 0 0] 116 (0,0)) from by
  rw[hX]
  exact⟨((ar _ _).alloc (aq _) _).alloc (by simp) _,eR (aW _ _) _,by simpa using aW (w.alloc (.cells #[.int .i64 x0,.int .u64 x1,.string x2,.slice A x3.length c] 116)) (.cells #[.int .i64 0,.int .u64 0,.string ⟨#[]⟩,.slice ak 0 0] 116)⟩)
 clear hX;go_wp2_with fail
 go_loopw [4,3] (fun i v W=>∃(k:Nat) (vo:Value),i=.int .i64 k/\vo=v/\k<=x3.length/\Aside0 (Below w.heap.size w W/\W.heap[w.heap.size]? =ag (.cells #[.int .i64 x0,.int .u64 x1,.string x2,.slice A x3.length c] 116 (0,0))/\W.heap[w.heap.size+1]? =ag (.cells #[.int .i64 0,.int .u64 0,.string ⟨#[]⟩,.slice ak 0 0] 116 (0,0))/\dC.R 116 W w.heap.size (fun b=>w.heap.size+1<b) vo (x3.take k))) (fun i _ _=>x3.length - (intOf i).toNat)
 case atStart=>exact⟨0,_,rfl,rfl,bk _,⟨KX.out.1,KX.out.2.1,KX.out.2.2,by rw[jx];exact Kd.iG _ _ _ _ _⟩⟩
 case round=>
  obtain⟨k,vo,rfl,rfl,hk,HREL⟩:=hrel
  by_cases hlt:k<x3.length
  ·have b0:∀g:G wr,g.W.cell? ⟨w.heap.size,3,ak⟩=ag (.slice A x3.length c):=fun g=>(aA (aB HREL.out.2.1 g.below) 3).trans rfl;obtain⟨ad,A3,c3,e1,q0,q1,q2,q3,l3,g3⟩:=iD HC.out (k:Int) (bo _) (by omega);cases e1;rw[ax]at q0 q1 q2 q3;have gw1:∀g:G wr,Below w.heap.size w g.W:=fun g=>HREL.out.1.trans (g.below.mono HREL.out.1.size);replace q0:=fun g:G wr=>aE (gw1 g) q0;replace q1:=fun g:G wr=>aE (gw1 g) q1;replace q2:=fun g:G wr=>aE (gw1 g) q2;replace q3:=fun g:G wr=>aE (gw1 g) q3
   have hi1:(k:Int)<(x3.length:Int):=by omega
   have K:=aa (aj l3 g3);clear l3 g3;have IH1:=aa (IH.out _ (gS hlt));have T:=aa (dS hlt);generalize bR x3 (k:Int)=y at*;have LT:=aa (show ∀b,vo.ownBlock=ag b->b<wr.heap.size from by obtain⟨_,inner,ho,_⟩:=HREL.out.2.2.2;exact fun b hb=>rK ho b hb);refine aG ?_;intro gg;go_wp2_with fail;refine(IH1.out A3 c3 gg.W (Kd.aF K.out.2 (gw1 gg)) K.out.1).mono ?_;rintro _ w9 ⟨v9,rfl,hR9,hb⟩;have HP:=aa (show dC.M w9 w.heap.size (fun b=>wr.heap.size<=b) y [.int .i64 y.f0,.int .u64 y.f1,.string y.f2,v9] from k116_mkM w9 w.heap.size _ y (Kd.fK (Kd.dW (Kd.d7 hR9) (fun b hb=>bi gg.below.size hb.2.1)) (gw1 gg).size));obtain⟨g9,hg9⟩:∃g:G wr,g.W=w9:=⟨mkG (gg.below.trans (hb.mono gg.below.size)),rfl⟩;subst hg9;clear hR9 hb
   go_wp2_with (at_builtin;refine Kd.cX dC (w0:=w) w.heap.size rfl (.tmp 12) (.tmp 19) 114 116 zEx 56 rfl under73 info75 rfl (show 0<4 by decide) (by decide) vo (x3.take k) y [.int .i64 y.f0,.int .u64 y.f1,.string y.f2,v9] (fun b=>w.heap.size+1<b) (fun b=>wr.heap.size<=b) rfl rfl HP.out (fun b hb=>⟨br (aX HREL.out.2.2.1) hb,fY LT.out hb⟩) (fun b hb=>br (aX HREL.out.2.2.1) (bi g9.below.size hb)) (Kd.bF HREL.out.2.2.2 g9.below) (gw1 g9) (gw1 g9).size (by have:=HN.out;have:=List.length_take_le k x3;omega) ?_)
   intro v1 w1 hr1 hb1 hg1 hat1;have NE:=aa (show ∀b,b<=w.heap.size+1->ag b≠vo.ownBlock from fun b hb he=>by have h:=HREL.out.2.2.2.1 b he.symm;exact absurd h (jt.2 hb));have E0:=aa ((hg1.block w.heap.size (br (aX HREL.out.2.1) g9.below.size) (NE.out _ (by omega))).trans (aB HREL.out.2.1 g9.below));have E1:=aa ((hg1.block (w.heap.size+1) (br (aX HREL.out.2.2.1) g9.below.size) (NE.out _ (by omega))).trans (aB HREL.out.2.2.1 g9.below));have W1:=aa (aj hb1 hr1);clear hr1 hb1 hg1 hat1;go_wp2_with fail;exact⟨⟨k+1,v1,by go_num,rfl,by omega,⟨W1.out.1,E0.out,E1.out,by rw[T.out];exact W1.out.2⟩⟩,by simp[intOf];omega⟩
  ·obtain⟨hB,h0,h1,hR⟩:=HREL.out;obtain⟨Av,cv,hv⟩:=Kd.bN hR;rw[dm,di hk]at hv;subst hv;have HB:=aa hB;have HR:=aa hR;have HK:=aa (aj h0 h1);have z0:wr.cell? ⟨w.heap.size,0,ak⟩=ag (.int .i64 x0):=(aA h0 0).trans rfl;have z1:wr.cell? ⟨w.heap.size,1,ak⟩=ag (.int .u64 x1):=(aA h0 1).trans rfl;have z2:wr.cell? ⟨w.heap.size,2,ak⟩=ag (.string x2):=(aA h0 2).trans rfl;have z3:wr.cell? ⟨w.heap.size,3,ak⟩=ag (.slice A x3.length c):=(aA h0 3).trans rfl;have y3:=aH h0 3;have r0:wr.cell? ⟨w.heap.size+1,0,ak⟩=ag (.int .i64 0):=(aA h1 0).trans rfl;have r1:wr.cell? ⟨w.heap.size+1,1,ak⟩=ag (.int .u64 0):=(aA h1 1).trans rfl;have r2:wr.cell? ⟨w.heap.size+1,2,ak⟩=ag (.string ⟨#[]⟩):=(aA h1 2).trans rfl;have r3:wr.cell? ⟨w.heap.size+1,3,ak⟩=ag (.slice ak 0 0):=(aA h1 3).trans rfl;have f0:=aH h1 0;have f1:=aH h1 1;have f2:=aH h1 2;have f3:=aH h1 3;clear hB hR h0 h1 HREL;go_wp2_with fail;refine bodyPost_ret (results_cell_row rfl _ _ (w.heap.size+1) 116 #[.int .i64 x0,.int .u64 x1,.string x2,.slice Av k cv] (0,0) _ rfl (bQ (bQ (bQ (bQ ((dn _ _ _ _ (show w.heap.size+1≠w.heap.size by omega)).trans HK.out.2) 0 _ rfl) 1 _ rfl) 2 _ rfl) 3 _ rfl) Tryz.underlying116 rfl (by kernel_rfl)) rfl ?_;refine⟨_,rfl,?_,?_⟩
   ·have hk2:k=x3.length:=by omega
    subst hk2;rw[eu]at HR;exact Kd.dW (Kd.cP (Kd.cP (Kd.cP (Kd.cP (Kd.cP HR.out (p:=⟨w.heap.size,3,ak⟩) (fun b hb=>by show b≠w.heap.size;omega) _) (p:=⟨w.heap.size+1,0,ak⟩) (fun b hb=>by show b≠w.heap.size+1;omega) _) (p:=⟨w.heap.size+1,1,ak⟩) (fun b hb=>by show b≠w.heap.size+1;omega) _) (p:=⟨w.heap.size+1,2,ak⟩) (fun b hb=>by show b≠w.heap.size+1;omega) _) (p:=⟨w.heap.size+1,3,ak⟩) (fun b hb=>by show b≠w.heap.size+1;omega) _) (fun _ _=>trivial)
   ·exact((((HB.out.setCell (p:=⟨w.heap.size,3,ak⟩) (show w.heap.size<=w.heap.size by omega) _).setCell (p:=⟨w.heap.size+1,0,ak⟩) (show w.heap.size<=w.heap.size+1 by omega) _).setCell (p:=⟨w.heap.size+1,1,ak⟩) (show w.heap.size<=w.heap.size+1 by omega) _).setCell (p:=⟨w.heap.size+1,2,ak⟩) (show w.heap.size<=w.heap.size+1 by omega) _).setCell (p:=⟨w.heap.size+1,3,ak⟩) (show w.heap.size<=w.heap.size+1 by omega) _
theorem ownE_calls:∀(n:Nat) (x:S116),cz x<=n->Ot.lL x->OwnEC x:=by
 intro n
 induction n with
 |zero=>intro x h;obtain⟨a,b,c,l⟩:=x;simp at h
 |succ n ih=>
  intro x h hg;refine ownE_walk x hg fun y hy=>ih y (eV rfl hy h) ?_;obtain⟨a,b,s,l⟩:=x;rw[Ot.lL]at hg;exact(Ot.oG l).1 hg.2.2.2.2 y hy
end
end Go.Proofs.YtfigjpehecibeaaGreat.L
