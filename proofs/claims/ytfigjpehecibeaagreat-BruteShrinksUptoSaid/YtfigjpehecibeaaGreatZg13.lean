/- Texts joined by a program of mine: So Tk Rl Sq. -/
import Derived.Test.YtfigjpehecibeaaGreatZg2
import Derived.Test.YtfigjpehecibeaaGreatZg5
import Derived.Test.YtfigjpehecibeaaGreatZg8
import Derived.Test.YtfigjpehecibeaaGreatZg9
import Derived.Test.YtfigjpehecibeaaGreatZg10
import Derived.Test.YtfigjpehecibeaaGreatZg11
import Derived.Test.YtfigjpehecibeaaGreatZg12
open And renaming intro -> ae
open Bool renaming true -> ac, false -> J
open Go.Act renaming put -> au
open Go.Proofs.Tryz renaming prog -> aq, underlying74 -> jv
open Go.Proofs.YtfigjpehecibeaaGreatW.PrintWords.Aside0 renaming mk -> I
open Go.RowKit.Below renaming refl -> aj
open Go.Value renaming int -> bc
open List renaming setIfInBounds_toArray -> aa, set_cons_zero -> ag, set_cons_succ -> ah, map_toArray -> bq, map_cons -> cd, map_nil -> cn
open Nat renaming le_refl -> ak, le_trans -> bi, ne_of_lt -> jf, lt_of_lt_of_le -> bk, zero_le -> bh
open Option renaming some -> af, none -> ai
open Or renaming inl -> az
set_option linter.unusedVariables false
set_option linter.unusedSimpArgs false
set_option maxHeartbeats 8000000
namespace Go.Proofs.YtfigjpehecibeaaGreat.L
open Go.RowKit Bm C Go.Maps Go.Proofs.YtfigjpehecibeaaGreatW.PrintWords Go.Proofs.YtfigjpehecibeaaGreatW.PrintLast Go.Proofs.YtfigjpehecibeaaGreatW.PrintMore Go.Proofs.YtfigjpehecibeaaGreat.Gr
section
set_option maxRecDepth 100000
theorem qR (nm:ByteArray)(wd ln:Int)(ds:List S70)(bd:List S119)(A3:Option Addr)(c3:Nat)(A4:Option Addr)(c4:Nat)(W:World)(hp:ProgAt W ds bd A3 c3 A4 c4)(hg:PGood nm wd ln ds bd)(x y:List Int)(A B:Option Addr)(cA cB:Nat)(hx:bT W A x)(hy:bT W B y)(ux:∀v∈x,U64 v)(uy:∀v∈y,U64 v)(r:S3 × Int)(hr:r=eV nm wd ln ds bd x y):
 Calls aq 37 #[.agg #[.string nm,.int .i64 wd,.int .i64 ln,.slice A3 ds.length c3,.slice A4 bd.length c4],.slice A x.length cA,.slice B y.length cB] W fun e W'=>∃vu vv,e=.returned (.tuple #[vu,vv,.int .i64 r.1.a,.int .i64 r.2])/\Out W' vu r.1.u/\Out W' vv r.1.v/\Below W.heap.size W W':=by
 obtain⟨pb,hpb⟩:∃b,b=W.heap.size:=⟨_,rfl⟩
 obtain⟨X,hX⟩:∃X,X=W.alloc (.cells #[.string nm,.int .i64 wd,.int .i64 ln,.slice A3 ds.length c3,.slice A4 bd.length c4] 25):=⟨_,rfl⟩
 have hXB:Below W.heap.size W X:=by rw[hX];exact(aj _ _).alloc (ak _) _
 have hbp:X.heap[pb]? =af (.cells #[.string nm,.int .i64 wd,.int .i64 ln,.slice A3 ds.length c3,.slice A4 bd.length c4] 25 (0,0)):=by rw[hX,hpb];exact aW _ _
 obtain⟨⟨is,at1,er⟩,hle⟩:∃r,r=bO nm wd ln ds bd x y:=⟨_,rfl⟩
 have HPU:=I (fun(W':World) (h:Below X.heap.size X W')=>jH nm wd ln ds bd A3 c3 A4 c4 W' ((hp.below hXB).below h) hg)
 have HX:=I (ae hXB hbp)
 have HP:=I (ae (hp.below hXB) hg)
 have HI:=I (ae (hx.below hXB) (ae (hy.below hXB) (ae ux uy)))
 have HLK:=I (j6 nm wd ln ds bd A3 c3 A4 c4 X (hp.below hXB) hg x y A B cA cB (hx.below hXB) (hy.below hXB) ux uy _ hle)
 have HR:=I hr
 have HLE:=I hle
 have HXE:=I (ae hX hpb)
 have x0:X.cell? ⟨pb,0,ai⟩=af (.string nm):=(aA hbp 0).trans rfl
 have x1:X.cell? ⟨pb,1,ai⟩=af (.int .i64 wd):=(aA hbp 1).trans rfl
 have x2:X.cell? ⟨pb,2,ai⟩=af (.int .i64 ln):=(aA hbp 2).trans rfl
 have x3:X.cell? ⟨pb,3,ai⟩=af (.slice A3 ds.length c3):=(aA hbp 3).trans rfl
 have x4:X.cell? ⟨pb,4,ai⟩=af (.slice A4 bd.length c4):=(aA hbp 4).trans rfl
 clear hp hg hx hy ux uy hX hpb hXB hbp hr hle
 go_enter Tryz.func37,Tryz.ntmps37
 go_upto_region 1 with (fail)
 rw[←HXE.out.1,←HXE.out.2]
 go_wp2_with fail
 refine HLK.out.mono ?_
 rintro _ w1 ⟨rfl,hb1⟩
 have H1:=I (ae hb1 (HX.out.1.trans (hb1.mono HX.out.1.size)))
 clear hb1 x0 x1 x2 x3 x4
 cases is with
 |false=>
  by_cases he:er=0
  ·subst he
   have HA:=I (show r=(⟨[],[],0⟩,1) from by rw[HR.out];unfold eV;rw[←HLE.out];rfl)
   go_wp2_with fail
   refine bodyPost_ret (fT rfl _ _ _) rfl ?_
   rw[HA.out]
   exact⟨_,_,rfl,Out.none _,Out.none _,H1.out.2⟩
  ·have HA:=I (show r=(⟨[],[],0⟩,er) from by rw[HR.out];unfold eV;rw[←HLE.out];simp[he])
   go_wp2_with fail
   refine bodyPost_ret (fT rfl _ _ _) rfl ?_
   rw[HA.out]
   exact⟨_,_,rfl,Out.none _,Out.none _,H1.out.2⟩
 |true=>
  have hl1:(bO nm wd ln ds bd x y).1=ac:=by rw[←HLE.out]
  obtain⟨f0,f1,f2,f3⟩:=rZ hl1
  have hpos:=leak_pos hl1
  have hst:=oP hl1 HI.out.2.2.1 HI.out.2.2.2
  rw[←HLE.out]at f3 hst
  obtain⟨P,hP⟩:∃P,P=gO ds ds.length:=⟨_,rfl⟩
  obtain⟨F,hF⟩:∃F,F=bO nm wd ln ds bd:=⟨_,rfl⟩
  have HA:=I (show r=(lX F P wd ⟨fE wd x,fE wd y,at1⟩,0) from by rw[HR.out,hF,hP];unfold eV;rw[←HLE.out];rfl)
  rw[←hP]at f1 f2 hst
  rw[←hF]at hst
  have f3:er=0:=f3
  subst f3
  obtain⟨n,hn⟩:∃n,n=P.length:=⟨_,rfl⟩
  rw[←hn]at f1 f2 hst
  have HN:=I (ae hn (ae f1 (ae f2 (ae hst hF))))
  have HWD:=I (show 1<=wd/\wd<=64 from by
   obtain⟨m,e,h⟩:=(eE f0).wd
   rw[e];unfold d9 at h;omega)
  have hn1:n<=65536:=by
   have h2:=jN (fun i hi=>dB f0 i hi) ds.length (ak _)
   have h3:=(eE f0).few
   rw[hn,hP];omega
  have hn0:0<n:=by omega
  have HQ:=I (show Calls aq 19 #[.agg #[.string nm,.int .i64 wd,.int .i64 ln,.slice A3 ds.length c3,.slice A4 bd.length c4]] w1 fun e W'=>∃v,e=.returned (.tuple #[v,.int .i64 0])/\Kd.bool.R 4 W' w1.heap.size (fun _=>True) v P/\Below w1.heap.size w1 W' from by
   have:=HPU.out w1 H1.out.1
   rw[(eR nm wd ln ds bd).1 f0,←hP]at this
   exact this)
  rw[f1,f2]
  have hbp:=aB HX.out.2 H1.out.1
  have x0:w1.cell? ⟨pb,0,ai⟩=af (.string nm):=(aA hbp 0).trans rfl
  have x1:w1.cell? ⟨pb,1,ai⟩=af (.int .i64 wd):=(aA hbp 1).trans rfl
  have x2:w1.cell? ⟨pb,2,ai⟩=af (.int .i64 ln):=(aA hbp 2).trans rfl
  have x3:w1.cell? ⟨pb,3,ai⟩=af (.slice A3 ds.length c3):=(aA hbp 3).trans rfl
  have x4:w1.cell? ⟨pb,4,ai⟩=af (.slice A4 bd.length c4):=(aA hbp 4).trans rfl
  clear hP hF hn hst hl1 f0 hpos hbp f1 f2
  go_wp2_with fail
  refine HQ.out.mono ?_
  rintro _ P0 ⟨v,rfl,hR,hb2⟩
  obtain⟨og,cv,rfl,-,-,-⟩:=Kd.R_form hR (by rw[←HN.out.1];exact hn0)
  have HO:=I (ae hb2 (openAt_R hR (by rw[←HN.out.1];exact hn0)))
  rw[←HN.out.1]
  clear hR hb2 x0 x1 x2 x3 x4
  have HXP:=I (H1.out.1.trans (HO.out.1.mono H1.out.1.size))
  have HBX:=I (aB HX.out.2 HXP.out)
  have HT1:=I (fun(g:G P0)=>show Calls aq 96 #[.int .i64 wd,.slice A n cA] g.W fun e W'=>∃b c',e=.returned (.slice (af ⟨b,0,ai⟩) n c')/\g.W.heap.size<=b/\Row W' g.W.heap.size b c' (fE wd x)/\Below g.W.heap.size g.W W' from by
   have h:=lD wd HWD.out.1 x A cA g.W (HI.out.1.below (HXP.out.trans (g.below.mono HXP.out.size))) (by rw[HN.out.2.1];omega) (by rw[HN.out.2.1];exact hn0) HI.out.2.2.1
   rw[HN.out.2.1]at h;exact h)
  have HT2:=I (fun(g:G P0)=>show Calls aq 96 #[.int .i64 wd,.slice B n cB] g.W fun e W'=>∃b c',e=.returned (.slice (af ⟨b,0,ai⟩) n c')/\g.W.heap.size<=b/\Row W' g.W.heap.size b c' (fE wd y)/\Below g.W.heap.size g.W W' from by
   have h:=lD wd HWD.out.1 y B cB g.W (HI.out.2.1.below (HXP.out.trans (g.below.mono HXP.out.size))) (by rw[HN.out.2.2.1];omega) (by rw[HN.out.2.2.1];exact hn0) HI.out.2.2.2
   rw[HN.out.2.2.1]at h;exact h)
  have p0:∀g:G P0,g.W.cell? ⟨pb,0,ai⟩=af (.string nm):=fun g=>(aA (aB HBX.out g.below) 0).trans rfl
  have p1:∀g:G P0,g.W.cell? ⟨pb,1,ai⟩=af (.int .i64 wd):=fun g=>(aA (aB HBX.out g.below) 1).trans rfl
  have p2:∀g:G P0,g.W.cell? ⟨pb,2,ai⟩=af (.int .i64 ln):=fun g=>(aA (aB HBX.out g.below) 2).trans rfl
  have p3:∀g:G P0,g.W.cell? ⟨pb,3,ai⟩=af (.slice A3 ds.length c3):=fun g=>(aA (aB HBX.out g.below) 3).trans rfl
  have p4:∀g:G P0,g.W.cell? ⟨pb,4,ai⟩=af (.slice A4 bd.length c4):=fun g=>(aA (aB HBX.out g.below) 4).trans rfl
  go_wp2_with fail
  refine aG ?_
  intro gg
  refine eZ (n:=12) (S:=fun w'=>∃g':G _,w'=g'.W) (ds:=[]) #[J,J,J,J,J,J,J,J,J,J,J,J] (by kernel_rfl) rfl rfl ⟨mkG (gg.2.drew),rfl⟩ (fun hHeld=> ?_)
  obtain⟨gd,hgd⟩:=hHeld
  rw[hgd]
  clear hgd
  refine cM (i:=0) (N:=af 42) (v:= ?_) (a':= ?_) #[ac,J,J,J,J,J,J,J,J,J,J,J] rfl rfl (by kernel_rfl) (fun _ _ _ h=>h) (az ⟨by rfl,?_⟩) ⟨gd,rfl⟩ ?_ ?_
  rotate_left
  ·rintro w' ⟨g',rfl⟩
   go_simp
   with_reducible rfl
  rotate_left
  ·simp only[au,aa,ag,ah,aJ,aK]
   rfl
  refine aQ (i:=1) (N:=af 43) (v:= ?_) (a':= ?_) #[ac,ac,J,J,J,J,J,J,J,J,J,J] rfl rfl (by kernel_rfl) (fun _ _ _ h=>h) (az ⟨by rfl,?_⟩) ?_ ?_
  rotate_left
  ·intro w'
   go_simp
   with_reducible rfl
  rotate_left
  ·simp only[au,aa,ag,ah,aJ,aK]
   rfl
  refine cM (i:=2) (N:=af 44) (v:= ?_) (a':= ?_) #[ac,ac,ac,J,J,J,J,J,J,J,J,J] rfl rfl (by kernel_rfl) (fun _ _ _ h=>h) (az ⟨by rfl,?_⟩) ⟨gd,rfl⟩ ?_ ?_
  rotate_left
  ·rintro w' ⟨g',rfl⟩
   go_simp
   with_reducible rfl
  rotate_left
  ·simp only[au,aa,ag,ah,aJ,aK]
   rfl
  refine aQ (i:=3) (N:=af 45) (v:= ?_) (a':= ?_) #[ac,ac,ac,ac,J,J,J,J,J,J,J,J] rfl rfl (by kernel_rfl) (fun _ _ _ h=>h) (az ⟨by rfl,?_⟩) ?_ ?_
  rotate_left
  ·intro w'
   go_simp
   with_reducible rfl
  rotate_left
  ·simp only[au,aa,ag,ah,aJ,aK]
   rfl
  refine aQ (i:=5) (N:=af 47) (v:= ?_) (a':= ?_) #[ac,ac,ac,ac,J,ac,J,J,J,J,J,J] rfl rfl (by kernel_rfl) (fun _ _ _ h=>h) (az ⟨by rfl,?_⟩) ?_ ?_
  rotate_left
  ·intro w'
   go_simp
   with_reducible rfl
  rotate_left
  ·simp only[au,aa,ag,ah,aJ,aK]
   rfl
  refine cM (i:=6) (N:=af 48) (v:= ?_) (a':= ?_) #[ac,ac,ac,ac,J,ac,ac,J,J,J,J,J] rfl rfl (by kernel_rfl) (fun _ _ _ h=>h) (az ⟨by rfl,?_⟩) ⟨gd,rfl⟩ ?_ ?_
  rotate_left
  ·rintro w' ⟨g',rfl⟩
   go_simp
   with_reducible rfl
  rotate_left
  ·simp only[au,aa,ag,ah,aJ,aK]
   rfl
  refine aQ (i:=7) (N:=af 49) (v:= ?_) (a':= ?_) #[ac,ac,ac,ac,J,ac,ac,ac,J,J,J,J] rfl rfl (by kernel_rfl) (fun _ _ _ h=>h) (az ⟨by rfl,?_⟩) ?_ ?_
  rotate_left
  ·intro w'
   go_simp
   with_reducible rfl
  rotate_left
  ·simp only[au,aa,ag,ah,aJ,aK]
   rfl
  refine jY (i:=4) (N:=af 46) #[ac,ac,ac,ac,ac,ac,ac,ac,J,J,J,J] rfl rfl (by kernel_rfl) (by simp) (fun Kr hKr=> ?_)
  refine gQ Tryz.func96 (by kernel_rfl) rfl #[.int .i64 wd,.slice A n cA] (by rfl) rfl rfl (by(try simp only[bq,cd,cn]);first | done | rfl) ?_
  refine(HT1.out gd).mono ?_
  rintro _ w9 ⟨bx,cx,rfl,hba,hra,hb⟩
  refine⟨_,rfl,?_⟩
  have HC1:=I (ae (bi gd.below.size hba) (hra.low gd.below.size))
  clear hba hra
  obtain⟨gd,rfl⟩:∃g':G _,w9=g'.W:=⟨mkG (gd.below.trans (hb.mono gd.below.size)),rfl⟩
  clear hb
  refine hKr.out _ _ ⟨gd,rfl⟩ (fun _=> ?_)
  clear hKr Kr
  refine cN (a':= ?_) ?_ ?_
  rotate_left
  ·show au _ (af 46) _ = _
   simp only[au,aa,ag,ah,aJ,aK]
   rfl
  refine jY (i:=8) (N:=af 50) #[ac,ac,ac,ac,ac,ac,ac,ac,ac,J,J,J] rfl rfl (by kernel_rfl) (by simp) (fun Kr hKr=> ?_)
  refine gQ Tryz.func96 (by kernel_rfl) rfl #[.int .i64 wd,.slice B n cB] (by rfl) rfl rfl (by(try simp only[bq,cd,cn]);first | done | rfl) ?_
  refine(HT2.out gd).mono ?_
  rintro _ w9 ⟨bY,cY,rfl,hbb,hrb,hb⟩
  refine⟨_,rfl,?_⟩
  have HC2:=I (ae (HC1.out.2.below hb) (ae (hrb.low gd.below.size) (jf (bk HC1.out.2.lt hbb))))
  clear hbb hrb HC1
  obtain⟨gd,rfl⟩:∃g':G _,w9=g'.W:=⟨mkG (gd.below.trans (hb.mono gd.below.size)),rfl⟩
  clear hb
  refine hKr.out _ _ ⟨gd,rfl⟩ (fun _=> ?_)
  clear hKr Kr
  refine cN (a':= ?_) ?_ ?_
  rotate_left
  ·show au _ (af 50) _ = _
   simp only[au,aa,ag,ah,aJ,aK]
   rfl
  refine aQ (i:=9) (N:=af 51) (v:= ?_) (a':= ?_) #[ac,ac,ac,ac,ac,ac,ac,ac,ac,ac,J,J] rfl rfl (by kernel_rfl) (fun _ _ _ h=>h) (az ⟨by rfl,?_⟩) ?_ ?_
  rotate_left
  ·intro w'
   go_simp
   with_reducible rfl
  rotate_left
  ·simp only[au,aa,ag,ah,aJ,aK]
   rfl
  refine jY (i:=10) (N:=af 52) #[ac,ac,ac,ac,ac,ac,ac,ac,ac,ac,ac,J] rfl rfl (by kernel_rfl) (by simp) (fun Kr hKr=> ?_)
  refine dR (v:=.pointer (af ⟨gd.W.heap.size,0,ai⟩)) (w1:=gd.W.alloc (.cells #[.string nm,.int .i64 wd,.int .i64 ln,.slice A3 ds.length c3,.slice A4 bd.length c4,.slice (af ⟨bx,0,ai⟩) n cx,.slice (af ⟨bY,0,ai⟩) n cY] 133)) (by rfl) (by first | (go_simp;done) | (go_simp;rfl)) ?_
  refine hKr.out _ _ ⟨mkG (G.ball gd _),rfl⟩ (fun _=> ?_)
  clear hKr Kr
  refine cN (a':= ?_) ?_ ?_
  rotate_left
  ·show au _ (af 52) _ = _
   simp only[au,aa,ag,ah,aJ,aK]
   rfl
  refine aQ (i:=11) (N:=af 15) (v:= ?_) (a':= ?_) #[ac,ac,ac,ac,ac,ac,ac,ac,ac,ac,ac,ac] rfl rfl (by kernel_rfl) (fun _ _ _ h=>h) (az ⟨by rfl,?_⟩) ?_ ?_
  rotate_left
  ·intro w'
   go_simp
   with_reducible rfl
  rotate_left
  ·simp only[au,aa,ag,ah,aJ,aK]
   rfl
  refine iQ (by kernel_rfl) ?_
  obtain⟨kb,hkb⟩:∃b,b=gd.W.heap.size:=⟨_,rfl⟩
  obtain⟨V3,hV3⟩:∃V3,V3=gd.W.alloc (.cells #[.string nm,.int .i64 wd,.int .i64 ln,.slice A3 ds.length c3,.slice A4 bd.length c4,.slice (af ⟨bx,0,ai⟩) n cx,.slice (af ⟨bY,0,ai⟩) n cY] 133):=⟨_,rfl⟩
  rw[←hkb,←hV3]
  obtain⟨s0,hs0⟩:∃s0:S3,s0=⟨fE wd x,fE wd y,at1⟩:=⟨_,rfl⟩
  have HG0:=I (show GS F n s0/\r=(lX F P wd s0,0)/\n=P.length/\F=bO nm wd ln ds bd from by rw[hs0];exact⟨HN.out.2.2.2.1,HA.out,HN.out.1,HN.out.2.2.2.2⟩)
  have HS1:=I (show Rs nm wd ln ds bd A3 c3 A4 c4 P0 kb n bx cx bY cY s0.u s0.v V3 from by
   have hw:Below gd.W.heap.size gd.W V3:=by rw[hV3];exact(aj _ _).alloc (ak _) _
   rw[hs0]
   exact⟨gd.below.trans (hw.mono gd.below.size),by rw[hV3,hkb];exact aW _ _,HC2.out.1.below hw,HC2.out.2.1.below hw,by rw[gI];exact HN.out.2.1,by rw[gI];exact HN.out.2.2.1,HC2.out.2.2⟩)
  have HP3:=I (HP.out.1.below HXP.out)
  have HW2:=I (HX.out.1.trans (HXP.out.mono HX.out.1.size))
  clear hs0 hkb hV3 p0 p1 p2 p3 p4 HT1 HT2 HC2 HPU HLK HQ HA HR HLE HI H1 HN HX
  go_wp2_with fail
  go_loopw [16] (fun i W'=>∃k:Nat,i=.int .i64 k/\k<=n/\Aside0 (Rs nm wd ln ds bd A3 c3 A4 c4 P0 kb n bx cx bY cY (upS (fY F P) k s0).u (upS (fY F P) k s0).v W')) (fun i _=>n - (intOf i).toNat)
  case atStart=>exact⟨0,rfl,bh _,HS1⟩
  case round=>
   obtain⟨k,rfl,hk,HB⟩:=hrel
   have hS:=HB.out
   have hgs:=GS.up (F:=F) (n:=n) (f:=(fY F P)) (fun k s h=>h.fY P k) HG0.out.1 k
   obtain⟨s,hs⟩:∃s,s=upS (fY F P) k s0:=⟨_,rfl⟩
   rw[←hs]at hS hgs
   by_cases hlt:k<n
   ·have hi1:(k:Int)<(n:Int):=by omega
    have hkP:k<P.length:=by rw[←HG0.out.2.2.1];exact hlt
    have q0:wr.cell? ⟨kb,5,ai⟩=af (.slice (af ⟨bx,0,ai⟩) n cx):=hS.at5.1
    have q1:wr.cell? ⟨kb,6,ai⟩=af (.slice (af ⟨bY,0,ai⟩) n cY):=hS.at5.2
    have q3:=((HO.out.2.below hS.low).cell hkP)
    obtain⟨q4,-⟩:=hS.atU hlt
    obtain⟨q5,-⟩:=hS.atV hlt
    obtain⟨u,hu⟩:∃u,u=s.u.getD k 0:=⟨_,rfl⟩
    obtain⟨v,hv⟩:∃v,v=s.v.getD k 0:=⟨_,rfl⟩
    obtain⟨b,hb⟩:∃b,b=P.getD k J:=⟨_,rfl⟩
    rw[←hu]at q4
    rw[←hv]at q5
    rw[←hb]at q3
    have HE:=I (show(b=J/\¬u=v->upS (fY F P) (k+1) s0=kV F s s.u (s.v.set k u))/\(¬(b=J/\¬u=v)->upS (fY F P) (k+1) s0=s) from by
     show(_->fY F P k (upS (fY F P) k s0)= _)/\(_->fY F P k (upS (fY F P) k s0)= _)
     rw[←hs,hu,hv,hb]
     unfold fY
     exact⟨fun h=>if_pos h,fun h=>if_neg h⟩)
    have HSI:=I (ae hS hgs)
    have HU:=I (ae hu hv)
    clear hS hgs hs hu hv hb
    cases b with
    |true=>
     go_wp2_with fail
     go_region
     go_wp2_with fail
     refine⟨⟨k+1,by go_num,by omega,⟨?_⟩⟩,by simp[intOf];omega⟩
     rw[HE.out.2 (by simp)]
     exact HSI.out.1.below ((aj _ _).drew)
    |false=>
     rcases aL (u==v)with he | he
     ·go_wp2_with fail
      go_region
      go_wp2_with fail
      refine⟨⟨k+1,by go_num,by omega,⟨?_⟩⟩,by simp[intOf];omega⟩
      rw[HE.out.2 (by simp[beq_iff_eq.1 he])]
      exact HSI.out.1.below ((aj _ _).drew)
     ·have hne:¬u=v:=fun h=>by rw[beq_iff_eq.2 h]at he;exact absurd he (by decide)
      go_wp2_with fail
      go_region
      go_wp2_with fail
      obtain⟨w1,hw1⟩:∃x,x=wr.drew:=⟨_,rfl⟩
      rw[←hw1]
      have hS1:Rs nm wd ln ds bd A3 c3 A4 c4 P0 kb n bx cx bY cY s.u s.v w1:=by rw[hw1];exact HSI.out.1.below ((aj _ _).drew)
      have p5:∀g:G w1,g.W.cell? ⟨kb,5,ai⟩=af (.slice (af ⟨bx,0,ai⟩) n cx):=fun g=>(hS1.below g.below).at5.1
      have p7:∀g:G w1,g.W.cell? ⟨bx,k,ai⟩=af (.int .u64 u):=fun g=>by rw[HU.out.1];exact((hS1.below g.below).atU hlt).1
      clear q0 q1 q3 q4 q5 hw1
      refine aG ?_
      intro gg
      refine eZ (n:=17) (S:=fun w'=>∃g':G _,w'=g'.W) (ds:=[16]) #[J,J,J,J,J,J,J,J,J,J,J,J,J,J,J,J,J] (by kernel_rfl) rfl rfl ⟨mkG (gg.2.drew),rfl⟩ (fun hHeld=> ?_)
      obtain⟨gd,hgd⟩:=hHeld
      rw[hgd]
      clear hgd
      refine aQ (i:=0) (N:=af 81) (v:= ?_) (a':= ?_) #[ac,J,J,J,J,J,J,J,J,J,J,J,J,J,J,J,J] rfl rfl (by kernel_rfl) (fun _ _ _ h=>h) (az ⟨by rfl,?_⟩) ?_ ?_
      rotate_left
      ·intro w'
       go_simp
       with_reducible rfl
      rotate_left
      ·simp only[au,aa,ag,ah,aJ,aK]
       rfl
      refine aQ (i:=1) (N:=af 82) (v:= ?_) (a':= ?_) #[ac,ac,J,J,J,J,J,J,J,J,J,J,J,J,J,J,J] rfl rfl (by kernel_rfl) (fun _ _ _ h=>h) (az ⟨by rfl,?_⟩) ?_ ?_
      rotate_left
      ·intro w'
       go_simp
       with_reducible rfl
      rotate_left
      ·simp only[au,aa,ag,ah,aJ,aK]
       rfl
      refine aQ (i:=2) (N:=af 83) (v:= ?_) (a':= ?_) #[ac,ac,ac,J,J,J,J,J,J,J,J,J,J,J,J,J,J] rfl rfl (by kernel_rfl) (fun _ _ _ h=>h) (az ⟨by rfl,?_⟩) ?_ ?_
      rotate_left
      ·intro w'
       go_simp
       with_reducible rfl
      rotate_left
      ·simp only[au,aa,ag,ah,aJ,aK]
       rfl
      refine aQ (i:=3) (N:=af 84) (v:= ?_) (a':= ?_) #[ac,ac,ac,ac,J,J,J,J,J,J,J,J,J,J,J,J,J] rfl rfl (by kernel_rfl) (fun _ _ _ h=>h) (az ⟨by rfl,?_⟩) ?_ ?_
      rotate_left
      ·intro w'
       go_simp
       with_reducible rfl
      rotate_left
      ·simp only[au,aa,ag,ah,aJ,aK]
       rfl
      refine aQ (i:=4) (N:=af 85) (v:= ?_) (a':= ?_) #[ac,ac,ac,ac,ac,J,J,J,J,J,J,J,J,J,J,J,J] rfl rfl (by kernel_rfl) (fun _ _ _ h=>h) (az ⟨by rfl,?_⟩) ?_ ?_
      rotate_left
      ·intro w'
       go_simp
       with_reducible rfl
      rotate_left
      ·simp only[au,aa,ag,ah,aJ,aK]
       rfl
      refine cM (i:=5) (N:=af 86) (v:= ?_) (a':= ?_) #[ac,ac,ac,ac,ac,ac,J,J,J,J,J,J,J,J,J,J,J] rfl rfl (by kernel_rfl) (fun _ _ _ h=>h) (az ⟨by rfl,?_⟩) ⟨gd,rfl⟩ ?_ ?_
      rotate_left
      ·rintro w' ⟨g',rfl⟩
       go_simp
       with_reducible rfl
      rotate_left
      ·simp only[au,aa,ag,ah,aJ,aK]
       rfl
      refine aQ (i:=6) (N:=af 87) (v:= ?_) (a':= ?_) #[ac,ac,ac,ac,ac,ac,ac,J,J,J,J,J,J,J,J,J,J] rfl rfl (by kernel_rfl) (fun _ _ _ h=>h) (az ⟨by rfl,?_⟩) ?_ ?_
      rotate_left
      ·intro w'
       go_simp
       with_reducible rfl
      rotate_left
      ·simp only[au,aa,ag,ah,aJ,aK]
       rfl
      refine aQ (i:=7) (N:=af 88) (v:= ?_) (a':= ?_) #[ac,ac,ac,ac,ac,ac,ac,ac,J,J,J,J,J,J,J,J,J] rfl rfl (by kernel_rfl) (fun _ _ _ h=>h) (az ⟨by rfl,?_⟩) ?_ ?_
      rotate_left
      ·intro w'
       go_simp
       with_reducible rfl
      rotate_left
      ·simp only[au,aa,ag,ah,aJ,aK]
       rfl
      refine cM (i:=8) (N:=af 89) (v:= ?_) (a':= ?_) #[ac,ac,ac,ac,ac,ac,ac,ac,ac,J,J,J,J,J,J,J,J] rfl rfl (by kernel_rfl) (fun _ _ _ h=>h) (az ⟨by rfl,?_⟩) ⟨gd,rfl⟩ ?_ ?_
      rotate_left
      ·rintro w' ⟨g',rfl⟩
       go_simp
       with_reducible rfl
      rotate_left
      ·simp only[au,aa,ag,ah,aJ,aK]
       rfl
      refine aQ (i:=9) (N:=af 90) (v:= ?_) (a':= ?_) #[ac,ac,ac,ac,ac,ac,ac,ac,ac,ac,J,J,J,J,J,J,J] rfl rfl (by kernel_rfl) (fun _ _ _ h=>h) (az ⟨by rfl,?_⟩) ?_ ?_
      rotate_left
      ·intro w'
       go_simp
       with_reducible rfl
      rotate_left
      ·simp only[au,aa,ag,ah,aJ,aK]
       rfl
      refine aQ (i:=10) (N:=af 91) (v:= ?_) (a':= ?_) #[ac,ac,ac,ac,ac,ac,ac,ac,ac,ac,ac,J,J,J,J,J,J] rfl rfl (by kernel_rfl) (fun _ _ _ h=>h) (az ⟨by rfl,?_⟩) ?_ ?_
      rotate_left
      ·intro w'
       go_simp
       with_reducible rfl
      rotate_left
      ·simp only[au,aa,ag,ah,aJ,aK]
       rfl
      refine aQ (i:=11) (N:=af 92) (v:= ?_) (a':= ?_) #[ac,ac,ac,ac,ac,ac,ac,ac,ac,ac,ac,ac,J,J,J,J,J] rfl rfl (by kernel_rfl) (fun _ _ _ h=>h) (az ⟨by rfl,?_⟩) ?_ ?_
      rotate_left
      ·intro w'
       go_simp
       with_reducible rfl
      rotate_left
      ·simp only[au,aa,ag,ah,aJ,aK]
       rfl
      refine cM (i:=12) (N:=af 93) (v:= ?_) (a':= ?_) #[ac,ac,ac,ac,ac,ac,ac,ac,ac,ac,ac,ac,ac,J,J,J,J] rfl rfl (by kernel_rfl) (fun _ _ _ h=>h) (az ⟨by rfl,?_⟩) ⟨gd,rfl⟩ ?_ ?_
      rotate_left
      ·rintro w' ⟨g',rfl⟩
       go_simp
       with_reducible rfl
      rotate_left
      ·simp only[au,aa,ag,ah,aJ,aK]
       rfl
      refine aQ (i:=13) (N:=af 94) (v:= ?_) (a':= ?_) #[ac,ac,ac,ac,ac,ac,ac,ac,ac,ac,ac,ac,ac,ac,J,J,J] rfl rfl (by kernel_rfl) (fun _ _ _ h=>h) (az ⟨by rfl,?_⟩) ?_ ?_
      rotate_left
      ·intro w'
       go_simp
       with_reducible rfl
      rotate_left
      ·simp only[au,aa,ag,ah,aJ,aK]
       rfl
      refine aQ (i:=14) (N:=af 95) (v:= ?_) (a':= ?_) #[ac,ac,ac,ac,ac,ac,ac,ac,ac,ac,ac,ac,ac,ac,ac,J,J] rfl rfl (by kernel_rfl) (fun _ _ _ h=>h) (az ⟨by rfl,?_⟩) ?_ ?_
      rotate_left
      ·intro w'
       go_simp
       with_reducible rfl
      rotate_left
      ·simp only[au,aa,ag,ah,aJ,aK]
       rfl
      refine cM (i:=15) (N:=af 96) (v:= ?_) (a':= ?_) #[ac,ac,ac,ac,ac,ac,ac,ac,ac,ac,ac,ac,ac,ac,ac,ac,J] rfl rfl (by kernel_rfl) (fun _ _ _ h=>h) (az ⟨by rfl,?_⟩) ⟨gd,rfl⟩ ?_ ?_
      rotate_left
      ·rintro w' ⟨g',rfl⟩
       go_simp
       with_reducible rfl
      rotate_left
      ·simp only[au,aa,ag,ah,aJ,aK]
       rfl
      refine lU (i:=16) (N:=af 97) #[ac,ac,ac,ac,ac,ac,ac,ac,ac,ac,ac,ac,ac,ac,ac,ac,ac] rfl rfl (by kernel_rfl) (by simp) (fun Kr hKr=> ?_)
      refine gQ Tryz.func97 (by kernel_rfl) rfl #[.pointer (af ⟨kb,0,ai⟩),.int .i64 k,.int .u64 u,.int .u64 u] (by rfl) rfl rfl (by(try simp only[bq,cd,cn]);first | done | rfl) ?_
      refine(oR HP3.out HP.out.2 HG0.out.2.2.2 (hS1.below gd.below) hn1 hlt (s:=s) (U:=s.u) (V:=(s.v.set k u)) (by rw[HU.out.1];exact nU _ _) rfl HSI.out.2.uu (eY HSI.out.2.vv k (by rw[HU.out.1];exact eL HSI.out.2.uu k))).mono ?_
      rintro _ w9 ⟨rfl,hT⟩
      refine⟨_,rfl,?_⟩
      have HT:=I hT
      clear hT
      refine hKr.out _ _ ?_
      clear hKr Kr
      refine cN (a':= ?_) ?_ ?_
      rotate_left
      ·show au _ (af 97) _ = _
       simp only[au,aa,ag,ah,aJ,aK]
       rfl
      refine iQ (by kernel_rfl) ?_
      clear p5 p7 hS1
      go_wp2_with fail
      refine⟨⟨k+1,by go_num,by omega,⟨?_⟩⟩,by simp[intOf];omega⟩
      rw[HE.out.1 (by simp[hne])]
      exact HT.out
   ·have hkl:n=k:=by omega
    subst hkl
    have HG1:=I (ae hgs hs)
    have HS2:=I hS
    clear hS hgs hs HB
    obtain⟨s1,hs1⟩:∃z,z=s:=⟨_,rfl⟩
    subst hs1
    go_wp2_with fail
    go_loopw [17] (fun i W'=>∃k:Nat,i=.int .i64 k/\k<=n/\Aside0 (Rs nm wd ln ds bd A3 c3 A4 c4 P0 kb n bx cx bY cY (upS (gD F) k s1).u (upS (gD F) k s1).v W')) (fun i _=>n - (intOf i).toNat)
    case atStart=>exact⟨0,rfl,bh _,HS2⟩
    case round=>
     obtain⟨k,rfl,hk,HB⟩:=hrel
     have hS:=HB.out
     have hgs:=GS.up (F:=F) (n:=n) (f:=(gD F)) (fun k s h=>h.gD k) HG1.out.1 k
     obtain⟨s,hs⟩:∃s,s=upS (gD F) k s1:=⟨_,rfl⟩
     rw[←hs]at hS hgs
     by_cases hlt:k<n
     ·have hi1:(k:Int)<(n:Int):=by omega
      have hkP:k<P.length:=by rw[←HG0.out.2.2.1];exact hlt
      have q0:wr.cell? ⟨kb,5,ai⟩=af (.slice (af ⟨bx,0,ai⟩) n cx):=hS.at5.1
      have q1:wr.cell? ⟨kb,6,ai⟩=af (.slice (af ⟨bY,0,ai⟩) n cY):=hS.at5.2
      have q3:=((HO.out.2.below hS.low).cell hkP)
      obtain⟨q4,-⟩:=hS.atU hlt
      obtain⟨q5,-⟩:=hS.atV hlt
      obtain⟨u,hu⟩:∃u,u=s.u.getD k 0:=⟨_,rfl⟩
      obtain⟨v,hv⟩:∃v,v=s.v.getD k 0:=⟨_,rfl⟩
      obtain⟨b,hb⟩:∃b,b=P.getD k J:=⟨_,rfl⟩
      rw[←hu]at q4
      rw[←hv]at q5
      rw[←hb]at q3
      have HE:=I (show(u=v->upS (gD F) (k+1) s1=kV F s (s.u.set k 0) (s.v.set k 0))/\(¬u=v->upS (gD F) (k+1) s1=stepV F k (kV F s (s.u.set k 0) s.v)) from by
       show(_->gD F k (upS (gD F) k s1)= _)/\(_->gD F k (upS (gD F) k s1)= _)
       rw[←hs,hu,hv]
       unfold gD
       exact⟨fun h=>if_pos h,fun h=>if_neg h⟩)
      have HSI:=I (ae hS hgs)
      have HU:=I (ae hu hv)
      clear hS hgs hs hu hv hb q3
      rcases aL (u==v)with he | he
      ·go_wp2_with fail
       go_region
       go_wp2_with fail
       refine(oR HP3.out HP.out.2 HG0.out.2.2.2 (HSI.out.1.below ((aj _ _).drew)) hn1 hlt (s:=s) (U:=(s.u.set k 0)) (V:=(s.v.set k 0)) rfl rfl (eY HSI.out.2.uu k eO) (eY HSI.out.2.vv k eO)).mono ?_
       rintro _ w9 ⟨rfl,hT⟩
       have HT:=I hT
       clear hT
       go_wp2_with fail
       refine⟨⟨k+1,by go_num,by omega,⟨?_⟩⟩,by simp[intOf];omega⟩
       rw[HE.out.1 (beq_iff_eq.1 he)]
       exact HT.out
      ·have hne:¬u=v:=fun h=>by rw[beq_iff_eq.2 h]at he;exact absurd he (by decide)
       go_wp2_with fail
       go_region
       obtain⟨w1,hw1⟩:∃x,x=wr.drew:=⟨_,rfl⟩
       rw[←hw1]
       have hS1:Rs nm wd ln ds bd A3 c3 A4 c4 P0 kb n bx cx bY cY s.u s.v w1:=by rw[hw1];exact HSI.out.1.below ((aj _ _).drew)
       clear q0 q1 q4 q5 hw1
       have q1:w1.cell? ⟨kb,6,ai⟩=af (.slice (af ⟨bY,0,ai⟩) n cY):=hS1.at5.2
       have q5:w1.cell? ⟨bY,k,ai⟩=af (.int .u64 v):=by rw[HU.out.2];exact(hS1.atV hlt).1
       have HS3:=I hS1
       clear hS1
       go_wp2_with fail
       refine(oR HP3.out HP.out.2 HG0.out.2.2.2 HS3.out hn1 hlt (s:=s) (U:=(s.u.set k 0)) (V:=s.v) rfl (by rw[HU.out.2];exact nU _ _) (eY HSI.out.2.uu k eO) HSI.out.2.vv).mono ?_
       rintro _ w9 ⟨rfl,hT⟩
       clear q1 q5
       have hg2:=HSI.out.2.setU k eO
       obtain⟨s2,hs2⟩:∃s2,s2=kV F s (s.u.set k 0) s.v:=⟨_,rfl⟩
       rw[←hs2]at hT hg2
       have q0:w9.cell? ⟨kb,5,ai⟩=af (.slice (af ⟨bx,0,ai⟩) n cx):=hT.at5.1
       obtain⟨q4,-⟩:=hT.atU hlt
       obtain⟨u2,hu2⟩:∃u,u=s2.u.getD k 0:=⟨_,rfl⟩
       rw[←hu2]at q4
       have HS4:=I (ae hT (ae hg2 (ae hs2 hu2)))
       clear hT hg2 hs2 hu2
       go_wp2_with fail
       refine(oR HP3.out HP.out.2 HG0.out.2.2.2 HS4.out.1 hn1 hlt (s:=s2) (U:=s2.u) (V:=(s2.v.set k 0)) (by rw[HS4.out.2.2.2];exact nU _ _) rfl HS4.out.2.1.uu (eY HS4.out.2.1.vv k eO)).mono ?_
       rintro _ w10 ⟨rfl,hT⟩
       have HT:=I hT
       clear hT
       go_wp2_with fail
       refine⟨⟨k+1,by go_num,by omega,⟨?_⟩⟩,by simp[intOf];omega⟩
       rw[HE.out.2 hne,←HS4.out.2.2.1]
       exact HT.out
     ·have hkl:n=k:=by omega
      subst hkl
      have HG2:=I (ae hgs hs)
      have HS3:=I hS
      clear hS hgs hs HB
      obtain⟨s2,hs2⟩:∃z,z=s:=⟨_,rfl⟩
      subst hs2
      go_wp2_with fail
      go_loopw [18] (fun i W'=>∃k:Nat,i=.int .i64 k/\k<=n/\Aside0 (Rs nm wd ln ds bd A3 c3 A4 c4 P0 kb n bx cx bY cY (upS (fZ F P wd) k s2).u (upS (fZ F P wd) k s2).v W')) (fun i _=>n - (intOf i).toNat)
      case atStart=>exact⟨0,rfl,bh _,HS3⟩
      case round=>
       obtain⟨k,rfl,hk,HB⟩:=hrel
       have hS:=HB.out
       have hgs:=GS.up (F:=F) (n:=n) (f:=(fZ F P wd)) (fun k s h=>h.fZ P wd k) HG2.out.1 k
       obtain⟨s,hs⟩:∃s,s=upS (fZ F P wd) k s2:=⟨_,rfl⟩
       rw[←hs]at hS hgs
       by_cases hlt:k<n
       ·have hi1:(k:Int)<(n:Int):=by omega
        have hkP:k<P.length:=by rw[←HG0.out.2.2.1];exact hlt
        have q0:wr.cell? ⟨kb,5,ai⟩=af (.slice (af ⟨bx,0,ai⟩) n cx):=hS.at5.1
        have q1:wr.cell? ⟨kb,6,ai⟩=af (.slice (af ⟨bY,0,ai⟩) n cY):=hS.at5.2
        have q3:=((HO.out.2.below hS.low).cell hkP)
        obtain⟨q4,-⟩:=hS.atU hlt
        obtain⟨q5,-⟩:=hS.atV hlt
        obtain⟨u,hu⟩:∃u,u=s.u.getD k 0:=⟨_,rfl⟩
        obtain⟨v,hv⟩:∃v,v=s.v.getD k 0:=⟨_,rfl⟩
        obtain⟨b,hb⟩:∃b,b=P.getD k J:=⟨_,rfl⟩
        rw[←hu]at q4
        rw[←hv]at q5
        rw[←hb]at q3
        have HE:=I (show(b=J/\¬u=v->upS (fZ F P wd) (k+1) s2=lK F k wd.toNat s)/\(¬(b=J/\¬u=v)->upS (fZ F P wd) (k+1) s2=s) from by
         show(_->fZ F P wd k (upS (fZ F P wd) k s2)= _)/\(_->fZ F P wd k (upS (fZ F P wd) k s2)= _)
         rw[←hs,hu,hv,hb]
         unfold fZ
         exact⟨fun h=>if_pos h,fun h=>if_neg h⟩)
        have HSI:=I (ae hS hgs)
        have HU:=I (ae hu (ae hv hb))
        clear hS hgs hs hu hv hb
        have HPW:=I (show ∀W',Below P0.heap.size P0 W'->W'.cell? ⟨pb,1,ai⟩=af (.int .i64 wd) from fun W' h=>(aA (aB HBX.out h) 1).trans rfl)
        have HQ3:=I (fun(W':World) (h:Below P0.heap.size P0 W')=>(HO.out.2.below h).cell hkP)
        rw[←HU.out.2.2]at HQ3
        obtain⟨w1,w64⟩:=HWD.out
        go_wp2_with fail
        go_region
        obtain⟨w9,hw9⟩:∃x,x=wr.drew:=⟨_,rfl⟩
        rw[←hw9]
        have HS4:=I (show Rs nm wd ln ds bd A3 c3 A4 c4 P0 kb n bx cx bY cY s.u s.v w9 from by rw[hw9];exact HSI.out.1.below ((aj _ _).drew))
        have z1:=HPW.out w9 HS4.out.low
        clear q0 q1 q3 q4 q5 hw9
        obtain⟨ul,hul⟩:∃ul,ul=(u != v):=⟨_,rfl⟩
        rw[←hul]
        have HUL:=I hul
        clear hul
        go_wp2_with fail
        clear z1 w1 w64
        go_loopw [20] (fun i W'=>∃(t:Int) (m:Nat) (s':S3),i=.int .i64 t/\t=(m:Int) - 1/\m<=64/\Aside0 (Rs nm wd ln ds bd A3 c3 A4 c4 P0 kb n bx cx bY cY s'.u s'.v W'/\GS F n s'/\lK F k m s'=lK F k wd.toNat s/\(s'=s\/(b=J/\¬u=v))/\(m=0->b=J/\¬u=v))) (fun i _=>(intOf i+1).toNat)
        case atStart=>exact⟨_,wd.toNat,s,rfl,by have:=HWD.out;omega,by have:=HWD.out;omega,⟨HS4.out,HSI.out.2,rfl,az rfl,fun h=>absurd h (by have:=HWD.out;omega)⟩⟩
        case round=>
         obtain⟨t,m,s',rfl,ht,hm,HB2⟩:=hrel
         have hlow:=HB2.out.1.low
         have q3:=HQ3.out wr hlow
         have HLT:=I (ae hlt hm)
         cases m with
         |zero=>
          obtain rfl:t= -1:=by omega
          clear ht hm hlow
          go_wp2_with fail
          refine⟨⟨k+1,by go_num,by omega,⟨?_⟩⟩,by simp[intOf];omega⟩
          rw[HE.out.1 (HB2.out.2.2.2.2 rfl),←HB2.out.2.2.1]
          exact HB2.out.1
         |succ j=>
          obtain rfl:t=(j:Int):=by omega
          clear ht hm hlow
          cases b with
          |true=>
           have hs':s'=s:=by
            rcases HB2.out.2.2.2.1 with h | h
            ·exact h
            ·exact absurd h.1 (by decide)
           subst hs'
           go_wp2_with fail
           refine⟨⟨k+1,by go_num,by omega,⟨?_⟩⟩,by simp[intOf];omega⟩
           rw[HE.out.2 (by simp)]
           exact HB2.out.1
          |false=>
           cases ul with
           |false=>
            have hq:u=v:=by simpa using HUL.out
            have hs':s'=s:=by
             rcases HB2.out.2.2.2.1 with h | h
             ·exact h
             ·exact absurd hq h.2
            subst hs'
            go_wp2_with fail
            refine⟨⟨k+1,by go_num,by omega,⟨?_⟩⟩,by simp[intOf];omega⟩
            rw[HE.out.2 (by simp[hq])]
            exact HB2.out.1
           |true=>
            have HNE:=I (show ¬u=v from by simpa using HUL.out)
            obtain⟨p,hp⟩:∃p:Int,p=((2 ^ j:Nat):Int):=⟨_,rfl⟩
            have hm:=HLT.out.2
            have hj1:(0:Int)<=(j:Int):=by omega
            have hj2:(j:Int)<64:=by omega
            have e1:IntKind.u64.wrap (j:Int)=(j:Int):=by rw[o7];omega
            have e3:IntKind.u64.wrap ((2:Int) ^ j)=p:=by
             rw[hp,kC _ (Int.pow_nonneg (by decide)) (by exact_mod_cast Nat.pow_lt_pow_right (a:=2) (by decide) (by omega))]
             simp
            have HJ:=I (ae hp (show j<64 by omega))
            clear hp hm
            go_wp2_with fail
            refine(rbit_calls HP3.out HP.out.2 HG0.out.2.2.2 HB2.out.1 HB2.out.2.1 hn1 HLT.out.1 HJ.out.2 HJ.out.1).mono ?_
            rintro _ w10 ⟨rfl,hT⟩
            have HT:=I (ae hT (HB2.out.2.1.bitS k p))
            clear hT e1 e3
            go_wp2_with fail
            refine⟨⟨_,j,_,rfl,rfl,by have:=HJ.out.2;omega,⟨HT.out.1,HT.out.2,?_,Or.inr (by simp[HNE.out]),fun _=>by simp[HNE.out]⟩⟩,by simp[intOf]⟩
            rw[←HB2.out.2.2.1,HJ.out.1]
            rfl
       ·have hkl:n=k:=by omega
        subst hkl
        have HE:=I (show r=(s,0) from by
         rw[HG0.out.2.1]
         unfold lX
         rw[←HG0.out.2.2.1,←HG1.out.2,←HG2.out.2,←hs])
        have HSF:=I (ae hS hgs)
        clear hS hgs hs HB
        have HPW:=I (aB HBX.out HSF.out.1.low)
        obtain⟨⟨is2,at2,er2⟩,hr2⟩:∃r,r=bO nm wd ln ds bd s.u s.v:=⟨_,rfl⟩
        have ha2:at2=s.a:=by
         rw[HSF.out.2.a,HG0.out.2.2.2,←hr2]
        have HK:=I (fun(g:G wr)=>show Calls aq 30 #[.agg #[.string nm,.int .i64 wd,.int .i64 ln,.slice A3 ds.length c3,.slice A4 bd.length c4],.slice (af ⟨bx,0,ai⟩) n cx,.slice (af ⟨bY,0,ai⟩) n cY] g.W fun e W'=>e=.returned (.tuple #[.bool is2,.int .i64 s.a,.int .i64 er2])/\Below g.W.heap.size g.W W' from by
         have hs:=HSF.out.1.below g.below
         have h:=j6 nm wd ln ds bd A3 c3 A4 c4 g.W (HP3.out.below hs.low) HP.out.2 s.u s.v (af ⟨bx,0,ai⟩) (af ⟨bY,0,ai⟩) cx cY hs.rx.words hs.ry.words HSF.out.2.uu HSF.out.2.vv _ hr2
         rw[hs.u,hs.v,ha2]at h
         exact h)
        clear hr2 ha2
        have p0:∀g:G wr,g.W.cell? ⟨pb,0,ai⟩=af (.string nm):=fun g=>(aA (aB HPW.out g.below) 0).trans rfl
        have p1:∀g:G wr,g.W.cell? ⟨pb,1,ai⟩=af (.int .i64 wd):=fun g=>(aA (aB HPW.out g.below) 1).trans rfl
        have p2:∀g:G wr,g.W.cell? ⟨pb,2,ai⟩=af (.int .i64 ln):=fun g=>(aA (aB HPW.out g.below) 2).trans rfl
        have p3:∀g:G wr,g.W.cell? ⟨pb,3,ai⟩=af (.slice A3 ds.length c3):=fun g=>(aA (aB HPW.out g.below) 3).trans rfl
        have p4:∀g:G wr,g.W.cell? ⟨pb,4,ai⟩=af (.slice A4 bd.length c4):=fun g=>(aA (aB HPW.out g.below) 4).trans rfl
        have p5:∀g:G wr,g.W.cell? ⟨kb,5,ai⟩=af (.slice (af ⟨bx,0,ai⟩) n cx):=fun g=>(HSF.out.1.below g.below).at5.1
        have p6:∀g:G wr,g.W.cell? ⟨kb,6,ai⟩=af (.slice (af ⟨bY,0,ai⟩) n cY):=fun g=>(HSF.out.1.below g.below).at5.2
        go_wp2_with fail
        refine aG ?_
        intro gg
        refine bF (by kernel_rfl) (by kernel_rfl) ?_
        repeat(go_big_quiet_step (first | (go_at_call 30;exact aD (HK.out _))))
        refine wpQuiet_nil ?_
        rintro _ ⟨gg,rfl⟩
        clear p0 p1 p2 p3 p4
        go_wp2_with fail
        have HS5:=I (HSF.out.1.below gg.below)
        clear p5 p6
        generalize gg.W=w10 at HS5 ⊢
        have p5:w10.cell? ⟨kb,5,ai⟩=af (.slice (af ⟨bx,0,ai⟩) n cx):=HS5.out.at5.1
        have p6:w10.cell? ⟨kb,6,ai⟩=af (.slice (af ⟨bY,0,ai⟩) n cY):=HS5.out.at5.2
        go_region
        go_wp2_with fail
        refine bodyPost_ret (fT rfl _ _ _) rfl ?_
        rw[HE.out]
        have h9:=HS5.out.below ((aj _ _).drew)
        exact⟨.slice (af ⟨bx,0,ai⟩) n cx,.slice (af ⟨bY,0,ai⟩) n cY,rfl,⟨_,cx,by rw[h9.u],h9.rx.words⟩,⟨_,cY,by rw[h9.v],h9.ry.words⟩,HW2.out.trans (h9.low.mono HW2.out.size)⟩
end
end Go.Proofs.YtfigjpehecibeaaGreat.L
namespace Go.Proofs.YtfigjpehecibeaaGreat.L
open Go.RowKit Go.Proofs.YtfigjpehecibeaaGreatW.PrintWords Go.Proofs.YtfigjpehecibeaaGreatW.PrintLast Go.Proofs.YtfigjpehecibeaaGreatW.PrintMore Go.Proofs.YtfigjpehecibeaaGreat.Gr
section
attribute [local go_sem] G.cell
set_option maxRecDepth 100000 in
theorem own29_calls (nm:ByteArray)(wd ln:Int)(ds:List S70)(bd:List S119)(A3:Option Addr)(c3:Nat)(A4:Option Addr)(c4:Nat)(w:World)(hp:ProgAt w ds bd A3 c3 A4 c4)(hg:PGood nm wd ln ds bd):
 Calls aq 21 #[.agg #[.string nm,.int .i64 wd,.int .i64 ln,.slice A3 ds.length c3,.slice A4 bd.length c4]] w fun e w'=>∃A3' c3' A4' c4',e=.returned (.agg #[.string nm,.int .i64 wd,.int .i64 ln,.slice A3' ds.length c3',.slice A4' bd.length c4'])/\ProgAt w' ds bd A3' c3' A4' c4'/\Below w.heap.size w w':=by
 have PAt:=I hp
 have HG:=I hg
 clear hp hg
 go_enter Tryz.func21,Tryz.ntmps21
 go_upto_region 1 with (fail)
 obtain⟨X,hX⟩:∃X,X=(w.alloc (.cells #[.string nm,.int .i64 wd,.int .i64 ln,.slice A3 ds.length c3,.slice A4 bd.length c4] 25)).alloc (.cells #[.string ⟨#[]⟩,.int .i64 0,.int .i64 0,.slice ai 0 0,.slice ai 0 0] 25):=⟨_,rfl⟩
 rw[←hX]
 have KX:=I (show Below w.heap.size w X/\X.heap[w.heap.size]? =af (.cells #[.string nm,.int .i64 wd,.int .i64 ln,.slice A3 ds.length c3,.slice A4 bd.length c4] 25 (0,0))/\X.heap[w.heap.size+1]? =af (.cells #[.string ⟨#[]⟩,.int .i64 0,.int .i64 0,.slice ai 0 0,.slice ai 0 0] 25 (0,0)) from by
  rw[hX]
  exact⟨((aj _ _).alloc (ak _) _).alloc (by simp) _,fA (aW _ _) _,by simpa using aW (w.alloc (.cells #[.string nm,.int .i64 wd,.int .i64 ln,.slice A3 ds.length c3,.slice A4 bd.length c4] 25)) (.cells #[.string ⟨#[]⟩,.int .i64 0,.int .i64 0,.slice ai 0 0,.slice ai 0 0] 25)⟩)
 clear hX
 have OUT:=I (show ∀g:G X,Below w.heap.size w g.W from fun g=>KX.out.1.trans (g.below.mono KX.out.1.size))
 refine aG ?_
 intro gg
 have p0:∀g:G X,g.W.cell? ⟨w.heap.size,0,ai⟩=af (.string nm):=fun g=>(aA (aB KX.out.2.1 g.below) 0).trans rfl
 have p1:∀g:G X,g.W.cell? ⟨w.heap.size,1,ai⟩=af (.int .i64 wd):=fun g=>(aA (aB KX.out.2.1 g.below) 1).trans rfl
 have p2:∀g:G X,g.W.cell? ⟨w.heap.size,2,ai⟩=af (.int .i64 ln):=fun g=>(aA (aB KX.out.2.1 g.below) 2).trans rfl
 have p3:∀g:G X,g.W.cell? ⟨w.heap.size,3,ai⟩=af (.slice A3 ds.length c3):=fun g=>(aA (aB KX.out.2.1 g.below) 3).trans rfl
 have p4:∀g:G X,g.W.cell? ⟨w.heap.size,4,ai⟩=af (.slice A4 bd.length c4):=fun g=>(aA (aB KX.out.2.1 g.below) 4).trans rfl
 go_wp2_with fail
 refine(great_calls nm wd ln ds bd A3 c3 A4 c4 gg.W (PAt.out.below (OUT.out gg))).mono ?_
 rintro _ w9 ⟨⟨b,rfl⟩,hb⟩
 obtain⟨gg,rfl⟩:∃g:G X,w9=g.W:=⟨mkG (gg.below.trans (hb.mono gg.below.size)),rfl⟩
 clear hb
 rcases aL b with rfl | rfl
 ·obtain⟨w9,hw9⟩:∃w9,w9=gg.W:=⟨_,rfl⟩
  have HZ:=I (show w9.heap[w.heap.size+1]? =af (.cells #[.string ⟨#[]⟩,.int .i64 0,.int .i64 0,.slice ai 0 0,.slice ai 0 0] 25 (0,0)) from hw9 ▸ aB KX.out.2.2 gg.below)
  have q0:=hw9 ▸ p0 gg
  have q1:=hw9 ▸ p1 gg
  have q2:=hw9 ▸ p2 gg
  have q3:=hw9 ▸ p3 gg
  have q4:=hw9 ▸ p4 gg
  have HO:=I (show Below w.heap.size w w9 from hw9 ▸ OUT.out gg)
  rw[←hw9]
  clear hw9
  have r0:w9.cell? ⟨w.heap.size+1,0,ai⟩=af (.string ⟨#[]⟩):=(aA HZ.out 0).trans rfl
  have f0:=aH HZ.out 0
  have r1:w9.cell? ⟨w.heap.size+1,1,ai⟩=af (.int .i64 0):=(aA HZ.out 1).trans rfl
  have f1:=aH HZ.out 1
  have r2:w9.cell? ⟨w.heap.size+1,2,ai⟩=af (.int .i64 0):=(aA HZ.out 2).trans rfl
  have f2:=aH HZ.out 2
  have r3:w9.cell? ⟨w.heap.size+1,3,ai⟩=af (.slice ai 0 0):=(aA HZ.out 3).trans rfl
  have f3:=aH HZ.out 3
  have r4:w9.cell? ⟨w.heap.size+1,4,ai⟩=af (.slice ai 0 0):=(aA HZ.out 4).trans rfl
  have f4:=aH HZ.out 4
  go_wp2_with fail
  refine bodyPost_ret (results_cell_row rfl _ _ (w.heap.size+1) 25 #[.string nm,.int .i64 wd,.int .i64 ln,.slice A3 ds.length c3,.slice A4 bd.length c4] (0,0) _ rfl ((bS (bS (bS (bS (bS HZ.out 0 _ rfl) 1 _ rfl) 2 _ rfl) 3 _ rfl) 4 _ rfl)) Tryz.underlying25 rfl (by kernel_rfl)) rfl ?_
  have HB:=(((((HO.out.setCell (p:=⟨w.heap.size+1,0,ai⟩) (show w.heap.size<=w.heap.size+1 by omega) (.string nm)).setCell (p:=⟨w.heap.size+1,1,ai⟩) (show w.heap.size<=w.heap.size+1 by omega) (.int .i64 wd)).setCell (p:=⟨w.heap.size+1,2,ai⟩) (show w.heap.size<=w.heap.size+1 by omega) (.int .i64 ln)).setCell (p:=⟨w.heap.size+1,3,ai⟩) (show w.heap.size<=w.heap.size+1 by omega) (.slice A3 ds.length c3)).setCell (p:=⟨w.heap.size+1,4,ai⟩) (show w.heap.size<=w.heap.size+1 by omega) (.slice A4 bd.length c4))
  exact⟨A3,c3,A4,c4,rfl,PAt.out.below HB,HB⟩
 ·go_wp2_with fail
  refine(ownP_calls nm wd ln ds bd A3 c3 A4 c4 gg.W (PAt.out.below (OUT.out gg)) HG.out).mono ?_
  rintro _ w9 ⟨A3',c3',A4',c4',rfl,hR,hb⟩
  have HR:=I hR
  have HS:=I (show w.heap.size+1<gg.W.heap.size from aX (aB KX.out.2.2 gg.below))
  have HZ:=I (aB (aB KX.out.2.2 gg.below) hb)
  have HO:=I (show Below w.heap.size w w9 from(OUT.out gg).trans (hb.mono (OUT.out gg).size))
  clear hR hb
  have r0:w9.cell? ⟨w.heap.size+1,0,ai⟩=af (.string ⟨#[]⟩):=(aA HZ.out 0).trans rfl
  have f0:=aH HZ.out 0
  have r1:w9.cell? ⟨w.heap.size+1,1,ai⟩=af (.int .i64 0):=(aA HZ.out 1).trans rfl
  have f1:=aH HZ.out 1
  have r2:w9.cell? ⟨w.heap.size+1,2,ai⟩=af (.int .i64 0):=(aA HZ.out 2).trans rfl
  have f2:=aH HZ.out 2
  have r3:w9.cell? ⟨w.heap.size+1,3,ai⟩=af (.slice ai 0 0):=(aA HZ.out 3).trans rfl
  have f3:=aH HZ.out 3
  have r4:w9.cell? ⟨w.heap.size+1,4,ai⟩=af (.slice ai 0 0):=(aA HZ.out 4).trans rfl
  have f4:=aH HZ.out 4
  go_wp2_with fail
  refine bodyPost_ret (results_cell_row rfl _ _ (w.heap.size+1) 25 #[.string nm,.int .i64 wd,.int .i64 ln,.slice A3' ds.length c3',.slice A4' bd.length c4'] (0,0) _ rfl ((bS (bS (bS (bS (bS HZ.out 0 _ rfl) 1 _ rfl) 2 _ rfl) 3 _ rfl) 4 _ rfl)) Tryz.underlying25 rfl (by kernel_rfl)) rfl ?_
  have HB:=(((((HO.out.setCell (p:=⟨w.heap.size+1,0,ai⟩) (show w.heap.size<=w.heap.size+1 by omega) (.string nm)).setCell (p:=⟨w.heap.size+1,1,ai⟩) (show w.heap.size<=w.heap.size+1 by omega) (.int .i64 wd)).setCell (p:=⟨w.heap.size+1,2,ai⟩) (show w.heap.size<=w.heap.size+1 by omega) (.int .i64 ln)).setCell (p:=⟨w.heap.size+1,3,ai⟩) (show w.heap.size<=w.heap.size+1 by omega) (.slice A3' ds.length c3')).setCell (p:=⟨w.heap.size+1,4,ai⟩) (show w.heap.size<=w.heap.size+1 by omega) (.slice A4' bd.length c4'))
  have hs:=HS.out
  refine⟨A3',c3',A4',c4',rfl,prog_of_R (base:=gg.W.heap.size) (ok:=fun b=>gg.W.heap.size<=b) ?_ ?_,HB⟩
  ·exact(Kd.cQ (Kd.cQ (Kd.cQ (Kd.cQ (Kd.cQ (Kd.eI (Kd.eN HR.out.1) (fun b hb=>hb.2.1)) (p:=⟨w.heap.size+1,0,ai⟩) (fun b hb=>by show b≠w.heap.size+1;omega) _) (p:=⟨w.heap.size+1,1,ai⟩) (fun b hb=>by show b≠w.heap.size+1;omega) _) (p:=⟨w.heap.size+1,2,ai⟩) (fun b hb=>by show b≠w.heap.size+1;omega) _) (p:=⟨w.heap.size+1,3,ai⟩) (fun b hb=>by show b≠w.heap.size+1;omega) _) (p:=⟨w.heap.size+1,4,ai⟩) (fun b hb=>by show b≠w.heap.size+1;omega) _)
  ·exact(Kd.cQ (Kd.cQ (Kd.cQ (Kd.cQ (Kd.cQ (Kd.eI (Kd.eN HR.out.2) (fun b hb=>hb.2.1)) (p:=⟨w.heap.size+1,0,ai⟩) (fun b hb=>by show b≠w.heap.size+1;omega) _) (p:=⟨w.heap.size+1,1,ai⟩) (fun b hb=>by show b≠w.heap.size+1;omega) _) (p:=⟨w.heap.size+1,2,ai⟩) (fun b hb=>by show b≠w.heap.size+1;omega) _) (p:=⟨w.heap.size+1,3,ai⟩) (fun b hb=>by show b≠w.heap.size+1;omega) _) (p:=⟨w.heap.size+1,4,ai⟩) (fun b hb=>by show b≠w.heap.size+1;omega) _)
end
end Go.Proofs.YtfigjpehecibeaaGreat.L
namespace Go.Proofs.YtfigjpehecibeaaGreat.Ot
open Go.RowKit Go.Proofs.YtfigjpehecibeaaGreat.L Go.Proofs.YtfigjpehecibeaaGreatW.PrintWords Go.Proofs.YtfigjpehecibeaaGreat.Op
abbrev qM (w:World):List Int->List Value->Prop:=(Kd.slice 74 (Kd.int .u64)).K w
abbrev iX (xs:List Int):Prop:=xs.length*8<=140737488351232/\∀v∈xs,okU v
abbrev iW (xs:List Int):Nat:=xs.length+1
theorem opensW {H:Type}{enc:TypeId × Value->H}{w:World}(n:Nat):jI enc aq w Rows.uptoBulk n 36 (Kd.slice 74 (Kd.int .u64)) iX iW:=
 iF (fS bulk (bytes:=8) Tryz.underlying36 (by kernel_rfl) (by kernel_rfl) (by decide) fun m _=>e9 bulk jv) (fun _ h=>h) (fun xs=>by rw[sum_ones];exact ak _)
theorem slice_of_K {α:Type}{d:Kd α}{e:Nat}{w:World}{xs:List α}{v:Value}(hs:∃a l c,v=.slice a l c)(h:(Kd.slice e d).K w xs v.cells.toList):∃A c,v=.slice A xs.length c/\xs.length<=c/\d.C w A xs.length xs:=by
 obtain⟨a,l,c,rfl⟩:=hs
 obtain⟨A,c',e1,hl,hc⟩:=h
 simp[Value.cells]at e1
 obtain⟨rfl,rfl,rfl⟩:=e1
 exact⟨a,c,rfl,hl,hc⟩
end Go.Proofs.YtfigjpehecibeaaGreat.Ot
namespace Go.Proofs.YtfigjpehecibeaaGreat.L
open Go.RowKit Bm C Go.Maps Go.Proofs.YtfigjpehecibeaaGreatW.PrintWords Go.Proofs.YtfigjpehecibeaaGreatW.PrintLast Go.Proofs.YtfigjpehecibeaaGreatW.PrintMore Go.Proofs.YtfigjpehecibeaaGreat.Gr
section
set_option maxRecDepth 100000
theorem GS.shrink {F:List Int->List Int->Bool × Int × Int}{P:List Bool}{s:S3}(h:GS F P.length s)(wd:Int):GS F P.length (lX F P wd s):=
 GS.up (fun k s h=>h.fZ P wd k) (GS.up (fun k s h=>h.gD k) (GS.up (fun k s h=>h.fY P k) h _) _) _
theorem shrink_len (nm:ByteArray)(wd ln:Int)(ds:List S70)(bd:List S119){x y:List Int}(ux:∀v∈x,U64 v)(uy:∀v∈y,U64 v):(eV nm wd ln ds bd x y).1.u.length<=x.length/\(eV nm wd ln ds bd x y).1.v.length<=y.length:=by
 unfold eV
 by_cases h:(bO nm wd ln ds bd x y).1=ac
 ·rw[if_pos h]
  obtain⟨_,h1,h2,_⟩:=rZ h
  have hg:=(oP h ux uy).shrink wd
  exact⟨by rw[hg.u,h1];exact ak _,by rw[hg.v,h2];exact ak _⟩
 ·rw[if_neg h]
  exact⟨bh _,bh _⟩
theorem o5 (nm:ByteArray)(wd ln:Int)(ds:List S70)(bd:List S119)(A3:Option Addr)(c3:Nat)(A4:Option Addr)(c4:Nat)(x y:List Int)(A B:Option Addr)(cA cB:Nat)(w:World)(hp:ProgAt w ds bd A3 c3 A4 c4)(hg:PGood nm wd ln ds bd)(hI:(Kd.int .u64).C w A x.length x)(hJ:(Kd.int .u64).C w B y.length y)(hc:x.length<=cA)(hd:y.length<=cB)(ux:∀v∈x,U64 v)(uy:∀v∈y,U64 v)(hl:x.length<=1073741824)(hm:y.length<=1073741824):
 Calls aq 8 #[.agg #[.string nm,.int .i64 wd,.int .i64 ln,.slice A3 ds.length c3,.slice A4 bd.length c4],.slice A x.length cA,.slice B y.length cB] w fun e w'=>e=.returned (.bool ac)/\Below w.heap.size w w':=by
 obtain⟨xb,hxb⟩:∃b,b=w.heap.size:=⟨_,rfl⟩
 obtain⟨X,hX⟩:∃X,X=w.alloc (.cells #[.string nm,.int .i64 wd,.int .i64 ln,.slice A3 ds.length c3,.slice A4 bd.length c4] 25):=⟨_,rfl⟩
 have hXB:Below w.heap.size w X:=by rw[hX];exact(aj _ _).alloc (ak _) _
 have hbx:X.heap[xb]? =af (.cells #[.string nm,.int .i64 wd,.int .i64 ln,.slice A3 ds.length c3,.slice A4 bd.length c4] 25 (0,0)):=by rw[hX,hxb];exact aW _ _
 have PAt:=I (ae hp (ae hXB (ae hbx (ae (ae hI hJ) (ae (ae hc hd) (ae ux uy))))))
 have HG:=I hg
 have HXE:=I (ae hX hxb)
 have x0:X.cell? ⟨xb,0,ai⟩=af (.string nm):=(aA hbx 0).trans rfl
 have x1:X.cell? ⟨xb,1,ai⟩=af (.int .i64 wd):=(aA hbx 1).trans rfl
 have x2:X.cell? ⟨xb,2,ai⟩=af (.int .i64 ln):=(aA hbx 2).trans rfl
 have x3:X.cell? ⟨xb,3,ai⟩=af (.slice A3 ds.length c3):=(aA hbx 3).trans rfl
 have x4:X.cell? ⟨xb,4,ai⟩=af (.slice A4 bd.length c4):=(aA hbx 4).trans rfl
 clear hp hg hI hJ hc hd ux uy hX hxb hXB hbx
 go_enter Tryz.func8,Tryz.ntmps8
 go_upto_region 1 with (fail)
 rw[←HXE.out.1,←HXE.out.2]
 clear x0 x1 x2 x3 x4
 have HO:=I (show(Kd.int .u64).R 74 (X.alloc (.cells #[] 74)) X.heap.size (fun _=>True) (.slice (af ⟨X.heap.size,0,ai⟩) 0 0) ([]:List Int) from⟨fun _ _=>trivial,[],own_lit X X.heap.size 74 .u64 [] (ak _) (bh _),gR.none _ _⟩)
 have hba:Below X.heap.size X (X.alloc (.cells #[] 74)):=(aj _ _).alloc (ak _) _
 have HBA:=I hba
 have HIC:=I (Kd.aF (Kd.aF PAt.out.2.2.2.1.1 PAt.out.2.1) hba)
 have HL8:=I (show(([]:List Int).length+x.length)*8<=140737488355328 from by simp;omega)
 clear hba
 go_wp2_with (at_builtin;refine Kd.R_append_row (bc .u64) (0:Int) (w0:=X) X.heap.size rfl (.tmp 17) (.tmp 18) 36 74 (.int .u64 0) 8 rfl iM mS rfl (by decide) (.slice (af ⟨X.heap.size,0,ai⟩) 0 0) [] x A x.length cA (ok:=fun _=>True) rfl rfl (fun _ _=>trivial) HO.out HIC.out HBA.out HBA.out.size HL8.out ?_)
 intro v2 u2 hr2 hb2 hg2 hat2
 obtain⟨Ax,cx,hv2,lx,gx⟩:=Kd.dC hr2
 subst hv2
 have H2:=I (show Below w.heap.size w u2/\u2.heap[xb]? =af (.cells #[.string nm,.int .i64 wd,.int .i64 ln,.slice A3 ds.length c3,.slice A4 bd.length c4] 25 (0,0))/\(Kd.int .u64).C u2 Ax x.length x/\x.length<=cx from⟨PAt.out.2.1.trans (hb2.mono PAt.out.2.1.size),aB PAt.out.2.2.1 hb2,gx,lx⟩)
 clear hr2 hb2 hg2 hat2 lx gx HO HBA HIC HL8
 have HO:=I (show(Kd.int .u64).R 74 (u2.alloc (.cells #[] 74)) u2.heap.size (fun _=>True) (.slice (af ⟨u2.heap.size,0,ai⟩) 0 0) ([]:List Int) from⟨fun _ _=>trivial,[],own_lit u2 u2.heap.size 74 .u64 [] (ak _) (bh _),gR.none _ _⟩)
 have hba:Below u2.heap.size u2 (u2.alloc (.cells #[] 74)):=(aj _ _).alloc (ak _) _
 have HBA:=I hba
 have HIC:=I (Kd.aF (Kd.aF PAt.out.2.2.2.1.2 H2.out.1) hba)
 have HL8:=I (show(([]:List Int).length+y.length)*8<=140737488355328 from by simp;omega)
 clear hba
 go_wp2_with (at_builtin;refine Kd.R_append_row (bc .u64) (0:Int) (w0:=u2) u2.heap.size rfl (.tmp 20) (.tmp 21) 36 74 (.int .u64 0) 8 rfl iM mS rfl (by decide) (.slice (af ⟨u2.heap.size,0,ai⟩) 0 0) [] y B y.length cB (ok:=fun _=>True) rfl rfl (fun _ _=>trivial) HO.out HIC.out HBA.out HBA.out.size HL8.out ?_)
 intro v3 u3 hr3 hb2 hg2 hat2
 obtain⟨Ay,cy,hv3,ly,gy⟩:=Kd.dC hr3
 subst hv3
 have H3:=I (show Below w.heap.size w u3/\u3.heap[xb]? =af (.cells #[.string nm,.int .i64 wd,.int .i64 ln,.slice A3 ds.length c3,.slice A4 bd.length c4] 25 (0,0))/\((Kd.int .u64).C u3 Ax x.length x/\x.length<=cx)/\(Kd.int .u64).C u3 Ay y.length y/\y.length<=cy from⟨H2.out.1.trans (hb2.mono H2.out.1.size),aB H2.out.2.1 hb2,⟨Kd.aF H2.out.2.2.1 hb2,H2.out.2.2.2⟩,gy,ly⟩)
 clear hr3 hb2 hg2 hat2 ly gy HO HBA HIC HL8
 obtain⟨r,hr⟩:∃r,r=eV nm wd ln ds bd x y:=⟨_,rfl⟩
 have HLN:=I (show r.1.u.length<=1073741824/\r.1.v.length<=1073741824 from by
  have h:=shrink_len nm wd ln ds bd PAt.out.2.2.2.2.2.1 PAt.out.2.2.2.2.2.2
  rw[hr];omega)
 have HL1:=I (fun(W:World) (hW:Below u3.heap.size u3 W) (A5:Option Addr) (c5:Nat) (A6:Option Addr) (c6:Nat) (h:ProgAt W ds bd A5 c5 A6 c6)=>shrink_calls nm wd ln ds bd A5 c5 A6 c6 W h HG.out x y Ax Ay cx cy (Kd.aF H3.out.2.2.1.1 hW) (Kd.aF H3.out.2.2.2.1 hW) PAt.out.2.2.2.2.2.1 PAt.out.2.2.2.2.2.2 H3.out.2.2.1.2 H3.out.2.2.2.2 r hr)
 have HL2:=I (fun(W:World) (hW:Below w.heap.size w W)=>qR nm wd ln ds bd A3 c3 A4 c4 W (PAt.out.1.below hW) HG.out x y A B cA cB (eQ (Kd.aF PAt.out.2.2.2.1.1 hW)) (eQ (Kd.aF PAt.out.2.2.2.1.2 hW)) PAt.out.2.2.2.2.2.1 PAt.out.2.2.2.2.2.2 r hr)
 have x0:u3.cell? ⟨xb,0,ai⟩=af (.string nm):=(aA H3.out.2.1 0).trans rfl
 have x1:u3.cell? ⟨xb,1,ai⟩=af (.int .i64 wd):=(aA H3.out.2.1 1).trans rfl
 have x2:u3.cell? ⟨xb,2,ai⟩=af (.int .i64 ln):=(aA H3.out.2.1 2).trans rfl
 have x3:u3.cell? ⟨xb,3,ai⟩=af (.slice A3 ds.length c3):=(aA H3.out.2.1 3).trans rfl
 have x4:u3.cell? ⟨xb,4,ai⟩=af (.slice A4 bd.length c4):=(aA H3.out.2.1 4).trans rfl
 clear hr
 go_wp2_with fail
 refine(own29_calls nm wd ln ds bd A3 c3 A4 c4 u3 (PAt.out.1.below H3.out.1) HG.out).mono ?_
 rintro _ V ⟨A31,c31,A41,c41,rfl,hp1,hb1⟩
 have P1:=I (ae hp1 hb1)
 clear hp1 hb1 x0 x1 x2 x3 x4
 go_wp2_with fail
 refine(HL1.out V P1.out.2 _ _ _ _ P1.out.1).mono ?_
 rintro _ w4 ⟨vu,vv,rfl,hu,hv,hb4⟩
 obtain⟨Au,cu,rfl,wu⟩:=hu
 obtain⟨Av,cv,rfl,wv⟩:=hv
 have H4:=I (show Below u3.heap.size u3 w4/\bT w4 Au r.1.u/\bT w4 Av r.1.v from⟨P1.out.2.trans (hb4.mono P1.out.2.size),wu,wv⟩)
 clear hb4 wu wv
 have x0:w4.cell? ⟨xb,0,ai⟩=af (.string nm):=(aA (aB H3.out.2.1 H4.out.1) 0).trans rfl
 have x1:w4.cell? ⟨xb,1,ai⟩=af (.int .i64 wd):=(aA (aB H3.out.2.1 H4.out.1) 1).trans rfl
 have x2:w4.cell? ⟨xb,2,ai⟩=af (.int .i64 ln):=(aA (aB H3.out.2.1 H4.out.1) 2).trans rfl
 have x3:w4.cell? ⟨xb,3,ai⟩=af (.slice A3 ds.length c3):=(aA (aB H3.out.2.1 H4.out.1) 3).trans rfl
 have x4:w4.cell? ⟨xb,4,ai⟩=af (.slice A4 bd.length c4):=(aA (aB H3.out.2.1 H4.out.1) 4).trans rfl
 go_wp2_with fail
 refine(HL2.out w4 (H3.out.1.trans (H4.out.1.mono H3.out.1.size))).mono ?_
 rintro _ w5 ⟨vu2,vv2,rfl,hu,hv,hb5⟩
 obtain⟨Au2,cu2,rfl,wu2⟩:=hu
 obtain⟨Av2,cv2,rfl,wv2⟩:=hv
 have H5:=I (show Below u3.heap.size u3 w5/\(bT w5 Au r.1.u/\bT w5 Av r.1.v)/\bT w5 Au2 r.1.u/\bT w5 Av2 r.1.v from⟨H4.out.1.trans (hb5.mono H4.out.1.size),⟨H4.out.2.1.below hb5,H4.out.2.2.below hb5⟩,wu2,wv2⟩)
 clear hb5 wu2 wv2 x0 x1 x2 x3 x4
 have HW5:=I (H3.out.1.trans (H5.out.1.mono H3.out.1.size))
 have HXX:=I (show bT w5 Ax x/\bT w5 A x/\bT w5 Ay y/\bT w5 B y from⟨(eQ H3.out.2.2.1.1).below H5.out.1,(eQ PAt.out.2.2.2.1.1).below HW5.out,(eQ H3.out.2.2.2.1).below H5.out.1,(eQ PAt.out.2.2.2.1.2).below HW5.out⟩)
 go_wp2_with fail
 refine(iR r.1.u Au Au2 cu cu2 w5 H5.out.2.1.1 H5.out.2.2.1 HLN.out.1).mono ?_
 rintro _ w6 ⟨rfl,hb6⟩
 have H6:=I hb6
 clear hb6
 go_wp2_with fail
 refine(iR r.1.v Av Av2 cv cv2 w6 (H5.out.2.1.2.below H6.out) (H5.out.2.2.2.below H6.out) HLN.out.2).mono ?_
 rintro _ w7 ⟨rfl,hb7⟩
 have H7:=I (H6.out.trans (hb7.mono H6.out.size))
 clear hb7
 go_wp2_with fail
 refine(iR x Ax A cx cA w7 (HXX.out.1.below H7.out) (HXX.out.2.1.below H7.out) (by omega)).mono ?_
 rintro _ w8 ⟨rfl,hb8⟩
 have H8:=I (H7.out.trans (hb8.mono H7.out.size))
 clear hb8
 go_wp2_with fail
 refine(iR y Ay B cy cB w8 (HXX.out.2.2.1.below H8.out) (HXX.out.2.2.2.below H8.out) (by omega)).mono ?_
 rintro _ w9 ⟨rfl,hb9⟩
 have H9:=I (HW5.out.trans ((H8.out.trans (hb9.mono H8.out.size)).mono HW5.out.size))
 clear hb9
 go_wp2_with fail
 go_ret
 exact⟨by simp,H9.out⟩
theorem pY (v0:Value)(x0:Ot.Prog)(v1:Value)(x1:List Int)(v2:Value)(x2:List Int)(w:World)(s0:∃cs,v0=.agg cs/\cs.size=Tryz.prog.cellsOf 25)(k0:Ot.opensP_K w x0 v0.cells.toList)(g0:Ot.rJ x0){m0:Nat}(b0:Ot.rK x0<=m0)(s1:∃a l c,v1=.slice a l c)(k1:Ot.qM w x1 v1.cells.toList)(g1:Ot.iX x1){m1:Nat}(b1:Ot.iW x1<=m1)(s2:∃a l c,v2=.slice a l c)(k2:Ot.qM w x2 v2.cells.toList)(g2:Ot.iX x2){m2:Nat}(b2:Ot.iW x2<=m2)(hb:m0+m1+m2<=1048576):
 Calls aq 8 #[v0,v1,v2] w fun e w'=>e=.returned (.bool ac)/\Below w.heap.size w w':=by
 obtain⟨A3,c3,A4,c4,rfl,l3,g3,l4,g4⟩:=Ot.prog_of_K (s0.imp fun _ h=>h.1) k0
 obtain⟨A,c,rfl,l5,g5⟩:=Ot.slice_of_K s1 k1
 obtain⟨B,d,rfl,l6,g6⟩:=Ot.slice_of_K s2 k2
 have hx1:x1.length+1<=m1:=b1
 have hx2:x2.length+1<=m2:=b2
 refine o5 x0.nm x0.wd x0.ln x0.ds x0.bd A3 c3 A4 c4 x1 x2 A B c d w ⟨g3,l3,g4,l4⟩ ⟨g0,bi b0 (by omega)⟩ g5 g6 l5 l6 (fun v hv=> ?_) (fun v hv=> ?_) (by omega) (by omega)
 ·obtain⟨n,e,h⟩:=wf_u64 (g1.2 v hv)
  rw[e];exact mN h
 ·obtain⟨n,e,h⟩:=wf_u64 (g2.2 v hv)
  rw[e];exact mN h
end
end Go.Proofs.YtfigjpehecibeaaGreat.L
