/- Texts joined by a program of mine: Sk Xd Sm Sn. -/
import Derived.Test.YtfigjpehecibeaaGreatZg11
open And renaming intro -> ae
open Bool renaming true -> ac, false -> J
open Go.Act renaming put -> au
open Go.Proofs.Tryz renaming prog -> aq
open Go.Proofs.YtfigjpehecibeaaGreatW.PrintWords.Aside0 renaming mk -> I
open Go.RowKit.Below renaming refl -> aj
open Int renaming toNat_natCast -> aw, natCast_nonneg -> bg
open List renaming setIfInBounds_toArray -> aa, set_cons_zero -> ag, set_cons_succ -> ah, map_toArray -> bq, map_cons -> cd, map_nil -> cn, getElem?_set -> jw, getD_eq_getElem?_getD -> av, getElem?_eq_getElem -> ax, getElem?_eq_none -> cz
open Nat renaming ne_of_gt -> dg, le_refl -> ak, le_trans -> bi, ne_of_lt -> jf, lt_of_lt_of_le -> bk, zero_le -> bh, mod_eq_of_lt -> dw
open Option renaming some -> af, none -> ai
open Or renaming inl -> az
set_option linter.unusedVariables false
set_option linter.unusedSimpArgs false
set_option maxHeartbeats 8000000
namespace Go.Proofs.YtfigjpehecibeaaGreat.L
open Go.RowKit Bm C Go.Maps Go.Proofs.YtfigjpehecibeaaGreatW.PrintWords Go.Proofs.YtfigjpehecibeaaGreatW.PrintLast Go.Proofs.YtfigjpehecibeaaGreatW.PrintMore Go.Proofs.YtfigjpehecibeaaGreat.Gr
section
set_option maxRecDepth 100000
theorem try_gs {c:ShC}(hc:c.OK)(nm:ByteArray)(wd ln:Int)(ds:List S70)(bd:List S119)(A3:Option Addr)(c3:Nat)(A4:Option Addr)(c4:Nat)(hp:ProgAt c.w0 ds bd A3 c3 A4 c4/\PGood nm wd ln ds bd){pb:Nat}(hpb:c.P0.heap[pb]? =af (.cells #[.string nm,.int .i64 wd,.int .i64 ln,.slice A3 ds.length c3,.slice A4 bd.length c4] 25 (0,0)))(hpa:pb≠c.ab){F:List Int->List Int->Bool × Int × Int}(hF:F=bO nm wd ln ds bd){n:Nat}{s:S3}(hgs:GS F n s)(h0:0<n)(h1:n<=65536){f:FuncId}{caps:Array Value}{U' V':List Int}{bx cx bY cY:Nat}{W:World}(hT:Turn c f caps s.u s.v U' V' W)(hS:Sh c bx cx bY cY s.u s.v s.a W)(hU:U'.length=n)(hV:V'.length=n)(uu:∀v∈U',U64 v)(uv:∀v∈V',U64 v):
 Calls aq 88 #[.func (.func f) #[] caps,.pointer (af ⟨c.xb,0,ai⟩),.pointer (af ⟨c.yb,0,ai⟩),.pointer (af ⟨pb,0,ai⟩),.pointer (af ⟨c.ab,0,ai⟩)] W fun e W'=>e=.returned (.tuple #[])/\TryW c bx bY (kV F s U' V') W W':=by
 subst hF
 exact try_calls hc nm wd ln ds bd A3 c3 A4 c4 hp.1 hp.2 hpb hpa hT (aj _ _) hS (by rw[hgs.u];exact h0) (by rw[hgs.v,hgs.u]) (by rw[hgs.u];omega) (by rw[hgs.u,hU]) (by rw[hgs.u,hV]) uu uv
theorem TryW.box {c:ShC}{bx bY:Nat}{s:S3}{W W':World}(h:TryW c bx bY s W W')(hc:c.OK){g:Nat}{cs:Array Value}{t:TypeId}(hg:W.heap[g]? =af (.cells cs t (0,0)))(h1:g≠bx)(h2:g≠bY)(h3:g≠c.xb)(h4:g≠c.yb)(h5:g≠c.ab):W'.heap[g]? =af (.cells cs t (0,0)):=(h.kz.2 g (aX hg) h1 h2 h3 h4 h5).trans hg
theorem Sh.away {c:ShC}{bx cx bY cY:Nat}{U V:List Int}{a:Int}{W:World}(h:Sh c bx cx bY cY U V a W):bx<W.heap.size/\bY<W.heap.size/\c.xb<W.heap.size/\c.yb<W.heap.size/\c.ab<W.heap.size:=⟨h.rx.lt,h.ry.lt,aX h.x,aX h.y,aX h.a⟩
theorem Sh.ne3 {c:ShC}{bx cx bY cY:Nat}{U V:List Int}{a:Int}{W:World}(h:Sh c bx cx bY cY U V a W){g:Nat}{cs:Array Value}(hg:W.heap[g]? =af (.cells cs 3 (0,0))):g≠bx/\g≠bY/\g≠c.xb/\g≠c.yb:=by
 obtain⟨_,h1⟩:=h.rx.blk
 obtain⟨_,h2⟩:=h.ry.blk
 exact⟨dJ hg h1 (by decide),dJ hg h2 (by decide),dJ hg h.x (by decide),dJ hg h.y (by decide)⟩
theorem TryW.box3 {c:ShC}{bx cx bY cY:Nat}{U V:List Int}{a:Int}{s:S3}{W W':World}(hT:TryW c bx bY s W W')(hc:c.OK)(h:Sh c bx cx bY cY U V a W){g:Nat}{cs:Array Value}(hg:W.heap[g]? =af (.cells cs 3 (0,0)))(hn:c.ab<g):W'.heap[g]? =af (.cells cs 3 (0,0)):=
 have k:=h.ne3 hg
 hT.box hc hg k.1 k.2.1 k.2.2.1 k.2.2.2 (dg hn)
theorem shrink_calls (nm:ByteArray)(wd ln:Int)(ds:List S70)(bd:List S119)(A3:Option Addr)(c3:Nat)(A4:Option Addr)(c4:Nat)(W:World)(hp:ProgAt W ds bd A3 c3 A4 c4)(hg:PGood nm wd ln ds bd)(x y:List Int)(A B:Option Addr)(cA cB:Nat)(hx:(Kd.int .u64).C W A x.length x)(hy:(Kd.int .u64).C W B y.length y)(ux:∀v∈x,U64 v)(uy:∀v∈y,U64 v)(hcx:x.length<=cA)(hcy:y.length<=cB)(r:S3 × Int)(hr:r=eV nm wd ln ds bd x y):
 Calls aq 36 #[.agg #[.string nm,.int .i64 wd,.int .i64 ln,.slice A3 ds.length c3,.slice A4 bd.length c4],.slice A x.length cA,.slice B y.length cB] W fun e W'=>∃vu vv,e=.returned (.tuple #[vu,vv,.int .i64 r.1.a,.int .i64 r.2])/\Out W' vu r.1.u/\Out W' vv r.1.v/\Below W.heap.size W W':=by
 obtain⟨pb,hpb⟩:∃b,b=W.heap.size:=⟨_,rfl⟩
 obtain⟨X,hX⟩:∃X,X=((W.alloc (.cells #[.string nm,.int .i64 wd,.int .i64 ln,.slice A3 ds.length c3,.slice A4 bd.length c4] 25)).alloc (.cells #[.slice A x.length cA] 36)).alloc (.cells #[.slice B y.length cB] 36):=⟨_,rfl⟩
 have hX1:Below W.heap.size W (W.alloc (.cells #[.string nm,.int .i64 wd,.int .i64 ln,.slice A3 ds.length c3,.slice A4 bd.length c4] 25)):=(aj _ _).alloc (ak _) _
 have hX2:=hX1.alloc (by simp) (.cells #[.slice A x.length cA] 36)
 have hXB:Below W.heap.size W X:=by rw[hX];exact hX2.alloc (by simp;omega) _
 have hbp:X.heap[pb]? =af (.cells #[.string nm,.int .i64 wd,.int .i64 ln,.slice A3 ds.length c3,.slice A4 bd.length c4] 25 (0,0)):=by
  rw[hX,hpb];exact aB (aB (aW _ _) ((aj _ _).alloc (ak _) _)) ((aj _ _).alloc (ak _) _)
 have hbx:X.heap[pb+1]? =af (.cells #[.slice A x.length cA] 36 (0,0)):=by
  rw[hX,hpb]
  have:=aB (aW (W.alloc (.cells #[.string nm,.int .i64 wd,.int .i64 ln,.slice A3 ds.length c3,.slice A4 bd.length c4] 25)) (.cells #[.slice A x.length cA] 36)) ((aj _ _).alloc (ak _) (.cells #[.slice B y.length cB] 36))
  simpa using this
 have hby:X.heap[pb+1+1]? =af (.cells #[.slice B y.length cB] 36 (0,0)):=by
  rw[hX,hpb]
  have:=aW ((W.alloc (.cells #[.string nm,.int .i64 wd,.int .i64 ln,.slice A3 ds.length c3,.slice A4 bd.length c4] 25)).alloc (.cells #[.slice A x.length cA] 36)) (.cells #[.slice B y.length cB] 36)
  simpa using this
 obtain⟨⟨is,at1,er⟩,hle⟩:∃r,r=bO nm wd ln ds bd x y:=⟨_,rfl⟩
 have hmf:∀(fn:Fn) (first cap:Array Value) (w:World),(Instr.makeFunc fn first cap).run aq w=.ok (.func fn first cap) w:=fun _ _ _ _=>rfl
 have HPU:=I (fun(W':World) (h:Below X.heap.size X W')=>l7 nm wd ln ds bd A3 c3 A4 c4 W' ((hp.below hXB).below h) hg)
 have HX:=I (ae hXB (ae hbp (ae hbx hby)))
 have HP:=I (ae hp hg)
 have HI:=I (ae (Kd.aF hx hXB) (ae (Kd.aF hy hXB) (ae ux uy)))
 have HLK:=I (sX nm wd ln ds bd A3 c3 A4 c4 X (hp.below hXB) hg x y A B cA cB ((eQ hx).below hXB) ((eQ hy).below hXB) ux uy hcx hcy _ hle)
 have HR:=I hr
 have HLE:=I hle
 have HXE:=I (ae hX hpb)
 have x0:X.cell? ⟨pb,0,ai⟩=af (.string nm):=(aA hbp 0).trans rfl
 have x1:X.cell? ⟨pb,1,ai⟩=af (.int .i64 wd):=(aA hbp 1).trans rfl
 have x2:X.cell? ⟨pb,2,ai⟩=af (.int .i64 ln):=(aA hbp 2).trans rfl
 have x3:X.cell? ⟨pb,3,ai⟩=af (.slice A3 ds.length c3):=(aA hbp 3).trans rfl
 have x4:X.cell? ⟨pb,4,ai⟩=af (.slice A4 bd.length c4):=(aA hbp 4).trans rfl
 have x5:X.cell? ⟨pb+1,0,ai⟩=af (.slice A x.length cA):=(aA hbx 0).trans rfl
 have x6:X.cell? ⟨pb+1+1,0,ai⟩=af (.slice B y.length cB):=(aA hby 0).trans rfl
 clear hp hg hx hy ux uy hX hpb hXB hbx hby hbp hr hle hX1 hX2 hcx hcy
 go_enter Tryz.func36,Tryz.ntmps36
 go_upto_region 1 with (fail)
 rw[←HXE.out.1,←HXE.out.2]
 go_wp2_with fail
 refine HLK.out.mono ?_
 rintro _ w1 ⟨rfl,hb1⟩
 have H1:=I hb1
 clear hb1 x0 x1 x2 x3 x4 x5 x6
 go_upto_region 2 with (fail)
 obtain⟨ab,hab⟩:∃b,b=w1.heap.size:=⟨_,rfl⟩
 obtain⟨V,hV⟩:∃V,V=w1.alloc (.cells #[.int .i64 at1] 3):=⟨_,rfl⟩
 rw[←hV,←hab]
 have HV:=I (show Below X.heap.size X V/\V.heap[ab]? =af (.cells #[.int .i64 at1] 3 (0,0)) from by
  rw[hV,hab];exact⟨H1.out.trans (((aj _ _).alloc (ak _) _).mono H1.out.size),aW _ _⟩)
 have HVW:=I (show Below W.heap.size W V from HX.out.1.trans (HV.out.1.mono HX.out.1.size))
 have HAB:=I (show W.heap.size<=ab from by rw[hab];exact bi HX.out.1.size H1.out.size)
 clear hV
 cases is with
 |false=>
  by_cases he:er=0
  ·subst he
   have HA:=I (show r=(⟨[],[],0⟩,1) from by rw[HR.out];unfold eV;rw[←HLE.out];rfl)
   go_wp2_with fail
   refine bodyPost_ret (fT rfl _ _ _) rfl ?_
   rw[HA.out]
   exact⟨_,_,rfl,Out.none _,Out.none _,HVW.out⟩
  ·have HA:=I (show r=(⟨[],[],0⟩,er) from by rw[HR.out];unfold eV;rw[←HLE.out];simp[he])
   go_wp2_with fail
   refine bodyPost_ret (fT rfl _ _ _) rfl ?_
   rw[HA.out]
   exact⟨_,_,rfl,Out.none _,Out.none _,HVW.out⟩
 |true=>
  have hl1:(bO nm wd ln ds bd x y).1=ac:=by rw[←HLE.out]
  obtain⟨f0,f1,f2,f3⟩:=rZ hl1
  have hpos:=leak_pos hl1
  have hst:=oP hl1 HI.out.2.2.1 HI.out.2.2.2
  rw[←HLE.out]at f3 hst
  obtain⟨P,hP⟩:∃P,P=gO ds ds.length:=⟨_,rfl⟩
  obtain⟨F,hF⟩:∃F,F=bO nm wd ln ds bd:=⟨_,rfl⟩
  have HA:=I (show r=(lX F P wd ⟨fE wd x,fE wd y,at1⟩,0) from by rw[HR.out,hF,hP];unfold eV;rw[←HLE.out];rfl)
  rw[←hP]at f1 f2 hst
  rw[←hF]at hst
  have f3:er=0:=f3
  subst f3
  obtain⟨n,hn⟩:∃n,n=P.length:=⟨_,rfl⟩
  rw[←hn]at f1 f2 hst
  have HN:=I (ae hn (ae f1 (ae f2 (ae hst hF))))
  have HWD:=I (show 1<=wd/\wd<=64 from by
   obtain⟨m,e,h⟩:=(eE f0).wd
   rw[e];unfold d9 at h;omega)
  have hn1:n<=65536:=by
   have h2:=jN (fun i hi=>dB f0 i hi) ds.length (ak _)
   have h3:=(eE f0).few
   rw[hn,hP];omega
  have hn0:0<n:=by omega
  obtain⟨a1,rfl⟩:∃a,A=af a:=by
   obtain⟨ad,e,_⟩:=eQ HI.out.1 0 hpos
   exact⟨ad,e⟩
  obtain⟨a2,rfl⟩:∃a,B=af a:=by
   obtain⟨ad,e,_⟩:=eQ HI.out.2.1 0 (by omega)
   exact⟨ad,e⟩
  have HQ:=I (show ∀W',Below V.heap.size V W'->(Calls aq 17 #[.agg #[.string nm,.int .i64 wd,.int .i64 ln,.slice A3 ds.length c3,.slice A4 bd.length c4]] W' fun e W'_1=>∃v,e=.returned (.tuple #[v,.int .i64 0])/\Kd.bool.R 4 W'_1 W'.heap.size (fun _=>True) v P/\Below W'.heap.size W' W'_1) from fun W' h=>by
   have:=HPU.out W' (HV.out.1.trans (h.mono HV.out.1.size))
   rw[(eR nm wd ln ds bd).1 f0,←hP]at this
   exact this)
  rw[f1]at HX HI ⊢
  rw[f2]at HX HI ⊢
  have hbp:=aB HX.out.2.1 HV.out.1
  have hbx:=aB HX.out.2.2.1 HV.out.1
  have hby:=aB HX.out.2.2.2 HV.out.1
  have x0:V.cell? ⟨pb,0,ai⟩=af (.string nm):=(aA hbp 0).trans rfl
  have x1:V.cell? ⟨pb,1,ai⟩=af (.int .i64 wd):=(aA hbp 1).trans rfl
  have x2:V.cell? ⟨pb,2,ai⟩=af (.int .i64 ln):=(aA hbp 2).trans rfl
  have x3:V.cell? ⟨pb,3,ai⟩=af (.slice A3 ds.length c3):=(aA hbp 3).trans rfl
  have x4:V.cell? ⟨pb,4,ai⟩=af (.slice A4 bd.length c4):=(aA hbp 4).trans rfl
  clear hP hF hn hst hl1 f0 hpos hbp hbx hby hab
  go_wp2_with fail
  refine(HQ.out V (aj _ _)).mono ?_
  rintro _ P0 ⟨v,rfl,hR,hb2⟩
  obtain⟨og,cv,rfl,-,-,-⟩:=Kd.R_form hR (by rw[←HN.out.1];exact hn0)
  have HO:=I (ae hb2 (openAt_R hR (by rw[←HN.out.1];exact hn0)))
  clear hR hb2 x0 x1 x2 x3 x4
  have HW2:=I (show Below W.heap.size W P0 from HVW.out.trans (HO.out.1.mono HVW.out.size))
  have HBX:=I (show P0.heap[pb]? =af (.cells #[.string nm,.int .i64 wd,.int .i64 ln,.slice A3 ds.length c3,.slice A4 bd.length c4] 25 (0,0))/\P0.heap[pb+1]? =af (.cells #[.slice (af a1) n cA] 36 (0,0))/\P0.heap[pb+1+1]? =af (.cells #[.slice (af a2) n cB] 36 (0,0))/\P0.heap[ab]? =af (.cells #[.int .i64 at1] 3 (0,0)) from
   have h:=HV.out.1.trans (HO.out.1.mono HV.out.1.size)
   ⟨aB HX.out.2.1 h,aB HX.out.2.2.1 h,aB HX.out.2.2.2 h,aB HV.out.2 HO.out.1⟩)
  have HIC:=I (show ∀g:G P0,(Kd.int .u64).C g.W (af a1) n x/\(Kd.int .u64).C g.W (af a2) n y from fun g=>
   have h:=(HV.out.1.trans (HO.out.1.mono HV.out.1.size)).trans (g.below.mono (HV.out.1.trans (HO.out.1.mono HV.out.1.size)).size)
   ⟨Kd.aF (HI.out.1) h,Kd.aF (HI.out.2.1) h⟩)
  have p0:∀g:G P0,g.W.cell? ⟨pb,1,ai⟩=af (.int .i64 wd):=fun g=>(aA (aB HBX.out.1 g.below) 1).trans rfl
  have p1:∀g:G P0,g.W.cell? ⟨pb+1,0,ai⟩=af (.slice (af a1) n cA):=fun g=>(aA (aB HBX.out.2.1 g.below) 0).trans rfl
  have p2:∀g:G P0,g.W.cell? ⟨pb+1+1,0,ai⟩=af (.slice (af a2) n cB):=fun g=>(aA (aB HBX.out.2.2.1 g.below) 0).trans rfl
  have p3:∀g:G P0,g.W.frozen? ⟨pb+1,0,ai⟩=J:=fun g=>aH (aB HBX.out.2.1 g.below) 0
  have HT1:=I (fun(g:G P0)=>show Calls aq 87 #[.int .i64 wd,.slice (af a1) n cA] g.W fun e W'=>∃b c',e=.returned (.slice (af ⟨b,0,ai⟩) n c')/\g.W.heap.size<=b/\Row W' g.W.heap.size b c' (fE wd x)/\Below g.W.heap.size g.W W' from by
   have h:=nF wd HWD.out.1 x a1 cA g.W (by rw[HN.out.2.1];exact(HIC.out g).1) (by rw[HN.out.2.1];omega) (by rw[HN.out.2.1];exact hn0) HI.out.2.2.1
   rw[HN.out.2.1]at h;exact h)
  have HT2:=I (fun(g:G P0)=>show Calls aq 87 #[.int .i64 wd,.slice (af a2) n cB] g.W fun e W'=>∃b c',e=.returned (.slice (af ⟨b,0,ai⟩) n c')/\g.W.heap.size<=b/\Row W' g.W.heap.size b c' (fE wd y)/\Below g.W.heap.size g.W W' from by
   have h:=nF wd HWD.out.1 y a2 cB g.W (by rw[HN.out.2.2.1];exact(HIC.out g).2) (by rw[HN.out.2.2.1];omega) (by rw[HN.out.2.2.1];exact hn0) HI.out.2.2.2
   rw[HN.out.2.2.1]at h;exact h)
  go_wp2_with fail
  refine aG ?_
  intro gg
  refine eZ (n:=10) (S:=fun w'=>∃g':G _,w'=g'.W) (ds:=[8,9]) #[J,J,J,J,J,J,J,J,J,J] (by kernel_rfl) rfl rfl ⟨mkG (gg.2.drew),rfl⟩ (fun hHeld=> ?_)
  obtain⟨gd,hgd⟩:=hHeld
  rw[hgd]
  clear hgd
  refine aQ (i:=0) (N:=af 39) (v:= ?_) (a':= ?_) #[ac,J,J,J,J,J,J,J,J,J] rfl rfl (by kernel_rfl) (fun _ _ _ h=>h) (az ⟨by rfl,?_⟩) ?_ ?_
  rotate_left
  ·intro w'
   go_simp
   with_reducible rfl
  rotate_left
  ·simp only[au,aa,ag,ah,aJ,aK]
   rfl
  refine cM (i:=1) (N:=af 40) (v:= ?_) (a':= ?_) #[ac,ac,J,J,J,J,J,J,J,J] rfl rfl (by kernel_rfl) (fun _ _ _ h=>h) (az ⟨by rfl,?_⟩) ⟨gd,rfl⟩ ?_ ?_
  rotate_left
  ·rintro w' ⟨g',rfl⟩
   go_simp
   with_reducible rfl
  rotate_left
  ·simp only[au,aa,ag,ah,aJ,aK]
   rfl
  refine cM (i:=2) (N:=af 41) (v:= ?_) (a':= ?_) #[ac,ac,ac,J,J,J,J,J,J,J] rfl rfl (by kernel_rfl) (fun _ _ _ h=>h) (az ⟨by rfl,?_⟩) ⟨gd,rfl⟩ ?_ ?_
  rotate_left
  ·rintro w' ⟨g',rfl⟩
   go_simp
   with_reducible rfl
  rotate_left
  ·simp only[au,aa,ag,ah,aJ,aK]
   rfl
  refine aQ (i:=4) (N:=af 43) (v:= ?_) (a':= ?_) #[ac,ac,ac,J,ac,J,J,J,J,J] rfl rfl (by kernel_rfl) (fun _ _ _ h=>h) (az ⟨by rfl,?_⟩) ?_ ?_
  rotate_left
  ·intro w'
   go_simp
   with_reducible rfl
  rotate_left
  ·simp only[au,aa,ag,ah,aJ,aK]
   rfl
  refine cM (i:=5) (N:=af 44) (v:= ?_) (a':= ?_) #[ac,ac,ac,J,ac,ac,J,J,J,J] rfl rfl (by kernel_rfl) (fun _ _ _ h=>h) (az ⟨by rfl,?_⟩) ⟨gd,rfl⟩ ?_ ?_
  rotate_left
  ·rintro w' ⟨g',rfl⟩
   go_simp
   with_reducible rfl
  rotate_left
  ·simp only[au,aa,ag,ah,aJ,aK]
   rfl
  refine cM (i:=6) (N:=af 45) (v:= ?_) (a':= ?_) #[ac,ac,ac,J,ac,ac,ac,J,J,J] rfl rfl (by kernel_rfl) (fun _ _ _ h=>h) (az ⟨by rfl,?_⟩) ⟨gd,rfl⟩ ?_ ?_
  rotate_left
  ·rintro w' ⟨g',rfl⟩
   go_simp
   with_reducible rfl
  rotate_left
  ·simp only[au,aa,ag,ah,aJ,aK]
   rfl
  refine jY (i:=3) (N:=af 42) #[ac,ac,ac,ac,ac,ac,ac,J,J,J] rfl rfl (by kernel_rfl) (by simp) (fun Kr hKr=> ?_)
  refine gQ Tryz.func87 (by kernel_rfl) rfl #[.int .i64 wd,.slice (af a1) n cA] (by rfl) rfl rfl (by(try simp only[bq,cd,cn]);first | done | rfl) ?_
  refine(HT1.out gd).mono ?_
  rintro _ w9 ⟨b1,k1,rfl,hba,hra,hb⟩
  refine⟨_,rfl,?_⟩
  have HC1:=I (ae (bi gd.below.size hba) (hra.low gd.below.size))
  clear hba hra
  obtain⟨gd,rfl⟩:∃g':G _,w9=g'.W:=⟨mkG (gd.below.trans (hb.mono gd.below.size)),rfl⟩
  clear hb
  refine hKr.out _ _ ⟨gd,rfl⟩ (fun _=> ?_)
  clear hKr Kr
  refine cN (a':= ?_) ?_ ?_
  rotate_left
  ·show au _ (af 42) _ = _
   simp only[au,aa,ag,ah,aJ,aK]
   rfl
  refine jY (i:=7) (N:=af 46) #[ac,ac,ac,ac,ac,ac,ac,ac,J,J] rfl rfl (by kernel_rfl) (by simp) (fun Kr hKr=> ?_)
  refine gQ Tryz.func87 (by kernel_rfl) rfl #[.int .i64 wd,.slice (af a2) n cB] (by rfl) rfl rfl (by(try simp only[bq,cd,cn]);first | done | rfl) ?_
  refine(HT2.out gd).mono ?_
  rintro _ w9 ⟨b2,k2,rfl,hbb,hrb,hb⟩
  refine⟨_,rfl,?_⟩
  have HC2:=I (ae (ae HC1.out.1 (HC1.out.2.below hb)) (ae (ae (bi gd.below.size hbb) (hrb.low gd.below.size)) (jf (bk HC1.out.2.lt hbb))))
  clear hbb hrb HC1
  obtain⟨gd,rfl⟩:∃g':G _,w9=g'.W:=⟨mkG (gd.below.trans (hb.mono gd.below.size)),rfl⟩
  clear hb
  refine hKr.out _ _ ⟨gd,rfl⟩ (fun _=> ?_)
  clear hKr Kr
  refine cN (a':= ?_) ?_ ?_
  rotate_left
  ·show au _ (af 46) _ = _
   simp only[au,aa,ag,ah,aJ,aK]
   rfl
  refine lU (i:=8) (N:=ai) #[ac,ac,ac,ac,ac,ac,ac,ac,ac,J] rfl rfl (by kernel_rfl) (by simp) (fun Kr hKr=> ?_)
  refine skip_ (w1:=gd.W.setCell ⟨pb+1,0,ai⟩ (.slice (af ⟨b1,0,ai⟩) n k1)) (by rfl) rfl (by first | (go_simp;done) | (go_simp;rfl)) ?_
  refine hKr.out _ _ ?_
  clear hKr Kr
  refine lU (i:=9) (N:=ai) #[ac,ac,ac,ac,ac,ac,ac,ac,ac,ac] rfl rfl (by kernel_rfl) (by simp) (fun Kr hKr=> ?_)
  have t1:(gd.W.setCell ⟨pb+1,0,ai⟩ (.slice (af ⟨b1,0,ai⟩) n k1)).cell? ⟨pb+1+1,0,ai⟩=af (.slice (af a2) n cB):=(aA (dQ (aB HBX.out.2.2.1 gd.below) (p:=⟨pb+1,0,ai⟩) (show pb+1+1≠pb+1 by omega) _) 0).trans rfl
  have t2:(gd.W.setCell ⟨pb+1,0,ai⟩ (.slice (af ⟨b1,0,ai⟩) n k1)).frozen? ⟨pb+1+1,0,ai⟩=J:=aH (dQ (aB HBX.out.2.2.1 gd.below) (p:=⟨pb+1,0,ai⟩) (show pb+1+1≠pb+1 by omega) _) 0
  refine skip_ (w1:=(gd.W.setCell ⟨pb+1,0,ai⟩ (.slice (af ⟨b1,0,ai⟩) n k1)).setCell ⟨pb+1+1,0,ai⟩ (.slice (af ⟨b2,0,ai⟩) n k2)) (by rfl) rfl (by first | (go_simp;done) | (go_simp;rfl)) ?_
  clear t1 t2
  refine hKr.out _ _ ?_
  clear hKr Kr
  refine iQ (by kernel_rfl) ?_
  obtain⟨c,hc⟩:∃c:ShC,c=⟨W,P0,pb+1,pb+1+1,ab⟩:=⟨_,rfl⟩
  have HS0:=I (show c.OK/\Sh c b1 k1 b2 k2 (fE wd x) (fE wd y) at1 ((gd.W.setCell ⟨pb+1,0,ai⟩ (.slice (af ⟨b1,0,ai⟩) n k1)).setCell ⟨pb+1+1,0,ai⟩ (.slice (af ⟨b2,0,ai⟩) n k2)) from by
   rw[hc]
   have e:=HXE.out.2
   have e1:pb+1≠pb+1+1:=by omega
   have h0:=HW2.out.trans (gd.below.mono HW2.out.size)
   have hx:=aB HBX.out.2.1 gd.below
   have hy:=aB HBX.out.2.2.1 gd.below
   have ha:=aB HBX.out.2.2.2 gd.below
   have hx1:=bR hx 0 (.slice (af ⟨b1,0,ai⟩) n k1)
   have hy1:=dQ hy (p:=⟨pb+1,0,ai⟩) (fun h=>e1 h.symm) (.slice (af ⟨b1,0,ai⟩) n k1)
   obtain⟨d1,g1⟩:=HC2.out.1.2.blk
   obtain⟨d2,g2⟩:=HC2.out.2.1.2.blk
   have le1:W.heap.size<=pb+1:=by omega
   have le2:W.heap.size<=pb+1+1:=by omega
   have lab:W.heap.size<=ab:=HAB.out
   refine⟨⟨le1,le2,lab,HW2.out.size,e1⟩,?_⟩
   refine⟨(h0.setCell (p:=⟨pb+1,0,ai⟩) le1 _).setCell (p:=⟨pb+1+1,0,ai⟩) le2 _,((Kx.of_below gd.below).set hx (az rfl) 0 _).set hy1 (az rfl) 0 _,?_,?_,dQ (dQ ha (dJ ha hx (by decide)) _) (dJ ha hy (by decide)) _,(HC2.out.1.2.far (dJ hx g1 (by decide)) _).far (dJ hy g1 (by decide)) _,(HC2.out.2.1.2.far (dJ hx g2 (by decide)) _).far (dJ hy g2 (by decide)) _,HC2.out.2.2⟩
   ·rw[gI,HN.out.2.1];exact dQ hx1 (p:=⟨pb+1+1,0,ai⟩) e1 _
   ·rw[gI,HN.out.2.2.1];exact bR hy1 0 _)
  obtain⟨V3,hV3⟩:∃V3,V3=(gd.W.setCell ⟨pb+1,0,ai⟩ (.slice (af ⟨b1,0,ai⟩) n k1)).setCell ⟨pb+1+1,0,ai⟩ (.slice (af ⟨b2,0,ai⟩) n k2):=⟨_,rfl⟩
  rw[←hV3]at HS0 ⊢
  obtain⟨s0,hs0⟩:∃s0:S3,s0=⟨fE wd x,fE wd y,at1⟩:=⟨_,rfl⟩
  have HG0:=I (show GS F n s0/\r=(lX F P wd s0,0)/\n=P.length/\F=bO nm wd ln ds bd from by rw[hs0];exact⟨HN.out.2.2.2.1,HA.out,HN.out.1,HN.out.2.2.2.2⟩)
  have HX5:Aside0 (P0.heap[pb]? =af (.cells #[.string nm,.int .i64 wd,.int .i64 ln,.slice A3 ds.length c3,.slice A4 bd.length c4] 25 (0,0))/\kO P0 og P/\pb≠ab/\og≠ab/\c.P0=P0/\c.w0=W/\c.ab=ab/\c.xb=pb+1/\c.yb=pb+1+1):=⟨HBX.out.1,HO.out.2,(dJ HBX.out.1 HBX.out.2.2.2 (by decide)),HO.out.2.ne HBX.out.2.2.2,by rw[hc],by rw[hc],by rw[hc],by rw[hc],by rw[hc]⟩
  have x0:V3.cell? ⟨pb+1,0,ai⟩=af (.slice (af ⟨b1,0,ai⟩) n k1):=by
   have h:=(aA HS0.out.2.x 0).trans rfl
   rw[gI,HN.out.2.1,HX5.out.2.2.2.2.2.2.2.1]at h
   exact h
  have HP2:=I (show ProgAt c.w0 ds bd A3 c3 A4 c4/\PGood nm wd ln ds bd from by rw[HX5.out.2.2.2.2.2.1];exact HP.out)
  rw[←HG0.out.2.2.1]
  have HS1:=I (show c.OK/\Sh c b1 k1 b2 k2 s0.u s0.v s0.a V3 from by rw[hs0];exact HS0.out)
  have HC:=I (show c.P0.heap[pb]? =af (.cells #[.string nm,.int .i64 wd,.int .i64 ln,.slice A3 ds.length c3,.slice A4 bd.length c4] 25 (0,0))/\kO c.P0 og P/\pb≠c.ab/\og≠c.ab from by rw[HX5.out.2.2.2.2.1,HX5.out.2.2.2.2.2.2.1];exact⟨HX5.out.1,HX5.out.2.1,HX5.out.2.2.1,HX5.out.2.2.2.1⟩)
  have HXN:=I HX5.out.2.2.2.2.2.1
  rw[←HX5.out.2.2.2.2.2.2.2.2,←HX5.out.2.2.2.2.2.2.2.1,←HX5.out.2.2.2.2.2.2.1]
  rw[←HX5.out.2.2.2.2.2.2.2.1]at x0
  clear HS0 HX5 HBX
  clear hs0 hV3 hc p0 p1 p2 p3 HT1 HT2 HIC HC2 HPU HX HLK HQ HA HR HLE HI HV HXE HVW HAB HW2 HO
  go_wp2_with fail
  go_loopw [50] (fun i W'=>∃k:Nat,i=.int .i64 k/\k<=n/\Aside0 (∃bx cx bY cY,Sh c bx cx bY cY (upS (fY F P) k s0).u (upS (fY F P) k s0).v (upS (fY F P) k s0).a W')) (fun i _=>n - (intOf i).toNat)
  case atStart=>exact⟨0,rfl,bh _,⟨_,_,_,_,HS1.out.2⟩⟩
  case round=>
   as_aux_lemma=>
    obtain⟨k,rfl,hk,HB⟩:=hrel
    obtain⟨bx,cx,bY,cY,hS⟩:=HB.out
    have hgs:=GS.up (F:=F) (n:=n) (f:=(fY F P)) (fun k s h=>h.fY P k) HG0.out.1 k
    obtain⟨s,hs⟩:∃s,s=upS (fY F P) k s0:=⟨_,rfl⟩
    rw[←hs]at hS hgs
    by_cases hlt:k<n
    ·have hi1:(k:Int)<(n:Int):=by omega
     have hkP:k<P.length:=by rw[←HG0.out.2.2.1];exact hlt
     obtain⟨Wi,hWi⟩:∃Wi,Wi=wr.alloc (.cells #[.int .i64 k] 3):=⟨_,rfl⟩
     obtain⟨ib,hib⟩:∃b,b=wr.heap.size:=⟨_,rfl⟩
     have hbw:Wi.heap[ib]? =af (.cells #[.int .i64 k] 3 (0,0)):=by rw[hWi,hib];exact aW _ _
     have hSi:=hS.below (W':=Wi) (by rw[hWi];exact(aj _ _).alloc (ak _) _)
     have q0:Wi.cell? ⟨c.xb,0,ai⟩=af (.slice (af ⟨bx,0,ai⟩) n cx):=by rw[←hgs.u];exact(aA hSi.x 0).trans rfl
     have q1:Wi.cell? ⟨c.yb,0,ai⟩=af (.slice (af ⟨bY,0,ai⟩) n cY):=by rw[←hgs.v];exact(aA hSi.y 0).trans rfl
     have q2:Wi.cell? ⟨ib,0,ai⟩=af (.int .i64 k):=(aA hbw 0).trans rfl
     have q3:=(HC.out.2.1.kx hSi.kx HC.out.2.2.2).cell hkP
     obtain⟨q4,-⟩:=hSi.rx.cell (k:=k) (by rw[hgs.u];exact hlt)
     obtain⟨q5,-⟩:=hSi.ry.cell (k:=k) (by rw[hgs.v];exact hlt)
     obtain⟨u,hu⟩:∃u,u=s.u.getD k 0:=⟨_,rfl⟩
     obtain⟨v,hv⟩:∃v,v=s.v.getD k 0:=⟨_,rfl⟩
     obtain⟨b,hb⟩:∃b,b=P.getD k J:=⟨_,rfl⟩
     rw[←hu]at q4
     rw[←hv]at q5
     rw[←hb]at q3
     have HE:=I (show(b=J/\¬u=v->upS (fY F P) (k+1) s0=kV F s s.u (s.v.set k u))/\(¬(b=J/\¬u=v)->upS (fY F P) (k+1) s0=s) from by
      show(_->fY F P k (upS (fY F P) k s0)= _)/\(_->fY F P k (upS (fY F P) k s0)= _)
      rw[←hs,hu,hv,hb]
      unfold fY
      exact⟨fun h=>if_pos h,fun h=>if_neg h⟩)
     have HSI:=I (ae hSi (ae hgs hbw))
     have HU:=I hu
     clear hS hgs hs hSi hu hv hb hbw
     cases b with
     |true=>
      go_upto_region 12 with (fail)
      rw[←hib,←hWi]
      clear hib hWi
      go_region
      go_wp2_with fail
      refine⟨⟨k+1,by go_num,by omega,⟨bx,cx,bY,cY,?_⟩⟩,by simp[intOf];omega⟩
      rw[HE.out.2 (by simp)]
      exact HSI.out.1.below ((aj _ _).drew)
     |false=>
      rcases aL (u==v)with he | he
      ·go_upto_region 12 with (fail)
       rw[←hib,←hWi]
       clear hib hWi
       go_region
       go_wp2_with fail
       refine⟨⟨k+1,by go_num,by omega,⟨bx,cx,bY,cY,?_⟩⟩,by simp[intOf];omega⟩
       rw[HE.out.2 (by simp[beq_iff_eq.1 he])]
       exact HSI.out.1.below ((aj _ _).drew)
      ·have hne:¬u=v:=fun h=>by rw[beq_iff_eq.2 h]at he;exact absurd he (by decide)
       go_upto_region 12 with (fail)
       rw[←hib,←hWi]
       clear hib hWi
       go_region
       go_wp2_with fail
       refine(try_gs HS1.out.1 nm wd ln ds bd A3 c3 A4 c4 HP2.out HC.out.1 HC.out.2.2.1 HG0.out.2.2.2 HSI.out.2.1 hn0 hn1 (turn90 HS1.out.1 (W0:=Wi.drew) (k:=k) (aB HSI.out.2.2 (aj _ _).drew) (by rw[HSI.out.2.1.u];exact hlt) (by rw[HSI.out.2.1.v];exact hlt)) (HSI.out.1.below ((aj _ _).drew)) HSI.out.2.1.u (by rw[List.length_set];exact HSI.out.2.1.v) HSI.out.2.1.uu (eY HSI.out.2.1.vv k (eL HSI.out.2.1.uu k))).mono ?_
       rintro _ w' ⟨rfl,hT⟩
       obtain⟨⟨bx2,cx2,bY2,cY2,hS2⟩,hz⟩:=hT
       have HS2:=I hS2
       clear hS2 hz
       go_wp2_with fail
       refine⟨⟨k+1,by go_num,by omega,⟨bx2,cx2,bY2,cY2,?_⟩⟩,by simp[intOf];omega⟩
       rw[HE.out.1 (by simp[hne]),HU.out]
       exact HS2.out
    ·have hkl:n=k:=by omega
     subst hkl
     have HG1:=I (ae hgs hs)
     have y0:wr.cell? ⟨c.xb,0,ai⟩=af (.slice (af ⟨bx,0,ai⟩) n cx):=by rw[←hgs.u];exact(aA hS.x 0).trans rfl
     have HS2:=I hS
     clear hS hgs hs HB x0
     obtain⟨s1,hs1⟩:∃z,z=s:=⟨_,rfl⟩
     subst hs1
     go_wp2_with fail
     clear y0
     go_loopw [75] (fun i W'=>∃k:Nat,i=.int .i64 k/\k<=n/\Aside0 (∃bx cx bY cY,Sh c bx cx bY cY (upS (gD F) k s1).u (upS (gD F) k s1).v (upS (gD F) k s1).a W')) (fun i _=>n - (intOf i).toNat)
     case atStart=>exact⟨0,rfl,bh _,⟨_,_,_,_,HS2.out⟩⟩
     case round=>
      as_aux_lemma=>
       obtain⟨k,rfl,hk,HB⟩:=hrel
       obtain⟨bx,cx,bY,cY,hS⟩:=HB.out
       have hgs:=GS.up (F:=F) (n:=n) (f:=(gD F)) (fun k s h=>h.gD k) HG1.out.1 k
       obtain⟨s,hs⟩:∃s,s=upS (gD F) k s1:=⟨_,rfl⟩
       rw[←hs]at hS hgs
       by_cases hlt:k<n
       ·have hi1:(k:Int)<(n:Int):=by omega
        have hkP:k<P.length:=by rw[←HG0.out.2.2.1];exact hlt
        obtain⟨Wi,hWi⟩:∃Wi,Wi=wr.alloc (.cells #[.int .i64 k] 3):=⟨_,rfl⟩
        obtain⟨ib,hib⟩:∃b,b=wr.heap.size:=⟨_,rfl⟩
        have hbw:Wi.heap[ib]? =af (.cells #[.int .i64 k] 3 (0,0)):=by rw[hWi,hib];exact aW _ _
        have hSi:=hS.below (W':=Wi) (by rw[hWi];exact(aj _ _).alloc (ak _) _)
        have q0:Wi.cell? ⟨c.xb,0,ai⟩=af (.slice (af ⟨bx,0,ai⟩) n cx):=by rw[←hgs.u];exact(aA hSi.x 0).trans rfl
        have q1:Wi.cell? ⟨c.yb,0,ai⟩=af (.slice (af ⟨bY,0,ai⟩) n cY):=by rw[←hgs.v];exact(aA hSi.y 0).trans rfl
        have q2:Wi.cell? ⟨ib,0,ai⟩=af (.int .i64 k):=(aA hbw 0).trans rfl
        have q3:=(HC.out.2.1.kx hSi.kx HC.out.2.2.2).cell hkP
        obtain⟨q4,-⟩:=hSi.rx.cell (k:=k) (by rw[hgs.u];exact hlt)
        obtain⟨q5,-⟩:=hSi.ry.cell (k:=k) (by rw[hgs.v];exact hlt)
        obtain⟨u,hu⟩:∃u,u=s.u.getD k 0:=⟨_,rfl⟩
        obtain⟨v,hv⟩:∃v,v=s.v.getD k 0:=⟨_,rfl⟩
        obtain⟨b,hb⟩:∃b,b=P.getD k J:=⟨_,rfl⟩
        rw[←hu]at q4
        rw[←hv]at q5
        rw[←hb]at q3
        have HE:=I (show(u=v->upS (gD F) (k+1) s1=kV F s (s.u.set k 0) (s.v.set k 0))/\(¬u=v->upS (gD F) (k+1) s1=stepV F k (kV F s (s.u.set k 0) s.v)) from by
         show(_->gD F k (upS (gD F) k s1)= _)/\(_->gD F k (upS (gD F) k s1)= _)
         rw[←hs,hu,hv]
         unfold gD
         exact⟨fun h=>if_pos h,fun h=>if_neg h⟩)
        have HSI:=I (ae hSi (ae hgs hbw))
        have HAW:=I (show bx<ib/\bY<ib/\c.xb<ib/\c.yb<ib/\c.ab<ib from by rw[hib];exact hS.away)
        clear hS hgs hs hSi hu hv hb hbw q3
        rcases aL (u==v)with he | he
        ·go_upto_region 18 with (fail)
         rw[←hib,←hWi]
         clear hib hWi
         go_region
         go_wp2_with fail
         refine(try_gs HS1.out.1 nm wd ln ds bd A3 c3 A4 c4 HP2.out HC.out.1 HC.out.2.2.1 HG0.out.2.2.2 HSI.out.2.1 hn0 hn1 (turn91 HS1.out.1 (W0:=Wi.drew) (k:=k) (aB HSI.out.2.2 (aj _ _).drew) (by rw[HSI.out.2.1.u];exact hlt) (by rw[HSI.out.2.1.v];exact hlt)) (HSI.out.1.below ((aj _ _).drew)) (by rw[List.length_set];exact HSI.out.2.1.u) (by rw[List.length_set];exact HSI.out.2.1.v) (eY HSI.out.2.1.uu k eO) (eY HSI.out.2.1.vv k eO)).mono ?_
         rintro _ w' ⟨rfl,hT⟩
         obtain⟨⟨bx2,cx2,bY2,cY2,hS2⟩,hz⟩:=hT
         have HS3:=I hS2
         clear hS2 hz
         go_wp2_with fail
         refine⟨⟨k+1,by go_num,by omega,⟨bx2,cx2,bY2,cY2,?_⟩⟩,by simp[intOf];omega⟩
         rw[HE.out.1 (beq_iff_eq.1 he)]
         exact HS3.out
        ·have hne:¬u=v:=fun h=>by rw[beq_iff_eq.2 h]at he;exact absurd he (by decide)
         go_upto_region 18 with (fail)
         rw[←hib,←hWi]
         clear hib hWi
         go_region
         go_wp2_with fail
         refine(try_gs HS1.out.1 nm wd ln ds bd A3 c3 A4 c4 HP2.out HC.out.1 HC.out.2.2.1 HG0.out.2.2.2 HSI.out.2.1 hn0 hn1 (turn92 HS1.out.1 (W0:=Wi.drew) (k:=k) (aB HSI.out.2.2 (aj _ _).drew) (by rw[HSI.out.2.1.u];exact hlt)) (HSI.out.1.below ((aj _ _).drew)) (by rw[List.length_set];exact HSI.out.2.1.u) HSI.out.2.1.v (eY HSI.out.2.1.uu k eO) HSI.out.2.1.vv).mono ?_
         rintro _ w' ⟨rfl,hT⟩
         have hbi:=hT.box HS1.out.1 (aB HSI.out.2.2 (aj _ _).drew) (dg HAW.out.1) (dg HAW.out.2.1) (dg HAW.out.2.2.1) (dg HAW.out.2.2.2.1) (dg HAW.out.2.2.2.2)
         obtain⟨⟨bx2,cx2,bY2,cY2,hS2⟩,hz⟩:=hT
         have hg2:=HSI.out.2.1.setU k eO
         obtain⟨s2,hs2⟩:∃s2,s2=kV F s (s.u.set k 0) s.v:=⟨_,rfl⟩
         rw[←hs2]at hS2 hg2
         have HS3:=I (ae hS2 (ae hg2 (ae hbi hs2)))
         clear hS2 hz hbi hg2 hs2 q0 q1 q2 q4 q5
         go_wp2_with fail
         refine(try_gs HS1.out.1 nm wd ln ds bd A3 c3 A4 c4 HP2.out HC.out.1 HC.out.2.2.1 HG0.out.2.2.2 HS3.out.2.1 hn0 hn1 (turn93 HS1.out.1 (W0:=w') (k:=k) HS3.out.2.2.1 (by rw[HS3.out.2.1.v];exact hlt)) HS3.out.1 HS3.out.2.1.u (by rw[List.length_set];exact HS3.out.2.1.v) HS3.out.2.1.uu (eY HS3.out.2.1.vv k eO)).mono ?_
         rintro _ w'' ⟨rfl,hT⟩
         obtain⟨⟨bx3,cx3,bY3,cY3,hS3⟩,hz⟩:=hT
         have HS4:=I hS3
         clear hS3 hz
         go_wp2_with fail
         refine⟨⟨k+1,by go_num,by omega,⟨bx3,cx3,bY3,cY3,?_⟩⟩,by simp[intOf];omega⟩
         rw[HE.out.2 hne,←HS3.out.2.2.2]
         exact HS4.out
       ·have hkl:n=k:=by omega
        subst hkl
        have HG2:=I (ae hgs hs)
        have y0:wr.cell? ⟨c.xb,0,ai⟩=af (.slice (af ⟨bx,0,ai⟩) n cx):=by rw[←hgs.u];exact(aA hS.x 0).trans rfl
        have HS3:=I hS
        clear hS hgs hs HB
        go_wp2_with fail
        clear y0
        obtain⟨s2,hs2⟩:∃z,z=s:=⟨_,rfl⟩
        subst hs2
        go_loopw [99] (fun i W'=>∃k:Nat,i=.int .i64 k/\k<=n/\Aside0 (∃bx cx bY cY,Sh c bx cx bY cY (upS (fZ F P wd) k s2).u (upS (fZ F P wd) k s2).v (upS (fZ F P wd) k s2).a W')) (fun i _=>n - (intOf i).toNat)
        case atStart=>exact⟨0,rfl,bh _,⟨_,_,_,_,HS3.out⟩⟩
        case round=>
         as_aux_lemma=>
          obtain⟨k,rfl,hk,HB⟩:=hrel
          obtain⟨bx,cx,bY,cY,hS⟩:=HB.out
          have hgs:=GS.up (F:=F) (n:=n) (f:=(fZ F P wd)) (fun k s h=>h.fZ P wd k) HG2.out.1 k
          obtain⟨s,hs⟩:∃s,s=upS (fZ F P wd) k s2:=⟨_,rfl⟩
          rw[←hs]at hS hgs
          by_cases hlt:k<n
          ·have hi1:(k:Int)<(n:Int):=by omega
           have hkP:k<P.length:=by rw[←HG0.out.2.2.1];exact hlt
           obtain⟨Wi,hWi⟩:∃Wi,Wi=wr.alloc (.cells #[.int .i64 k] 3):=⟨_,rfl⟩
           obtain⟨ib,hib⟩:∃b,b=wr.heap.size:=⟨_,rfl⟩
           have hbw:Wi.heap[ib]? =af (.cells #[.int .i64 k] 3 (0,0)):=by rw[hWi,hib];exact aW _ _
           have hSi:=hS.below (W':=Wi) (by rw[hWi];exact(aj _ _).alloc (ak _) _)
           have q0:Wi.cell? ⟨c.xb,0,ai⟩=af (.slice (af ⟨bx,0,ai⟩) n cx):=by rw[←hgs.u];exact(aA hSi.x 0).trans rfl
           have q1:Wi.cell? ⟨c.yb,0,ai⟩=af (.slice (af ⟨bY,0,ai⟩) n cY):=by rw[←hgs.v];exact(aA hSi.y 0).trans rfl
           have q2:Wi.cell? ⟨ib,0,ai⟩=af (.int .i64 k):=(aA hbw 0).trans rfl
           have q3:=(HC.out.2.1.kx hSi.kx HC.out.2.2.2).cell hkP
           obtain⟨q4,-⟩:=hSi.rx.cell (k:=k) (by rw[hgs.u];exact hlt)
           obtain⟨q5,-⟩:=hSi.ry.cell (k:=k) (by rw[hgs.v];exact hlt)
           obtain⟨u,hu⟩:∃u,u=s.u.getD k 0:=⟨_,rfl⟩
           obtain⟨v,hv⟩:∃v,v=s.v.getD k 0:=⟨_,rfl⟩
           obtain⟨b,hb⟩:∃b,b=P.getD k J:=⟨_,rfl⟩
           rw[←hu]at q4
           rw[←hv]at q5
           rw[←hb]at q3
           have HE:=I (show(b=J/\¬u=v->upS (fZ F P wd) (k+1) s2=lK F k wd.toNat s)/\(¬(b=J/\¬u=v)->upS (fZ F P wd) (k+1) s2=s) from by
            show(_->fZ F P wd k (upS (fZ F P wd) k s2)= _)/\(_->fZ F P wd k (upS (fZ F P wd) k s2)= _)
            rw[←hs,hu,hv,hb]
            unfold fZ
            exact⟨fun h=>if_pos h,fun h=>if_neg h⟩)
           have HSI:=I (ae hSi (ae hgs hbw))
           have HAW:=I (show c.ab<ib from by rw[hib];exact hS.away.2.2.2.2)
           have HPB:=I (show Wi.heap[pb]? =af (.cells #[.string nm,.int .i64 wd,.int .i64 ln,.slice A3 ds.length c3,.slice A4 bd.length c4] 25 (0,0)) from hSi.kx.blk _ _ _ _ HC.out.1 (by decide) (by decide) HC.out.2.2.1)
           have HQ4:=I q4
           clear hS hgs hs hSi hu hv hb hbw
           cases b with
           |true=>
            go_upto_region 26 with (fail)
            rw[←hib,←hWi]
            clear hib hWi
            go_region
            go_wp2_with fail
            refine⟨⟨k+1,by go_num,by omega,⟨bx,cx,bY,cY,?_⟩⟩,by simp[intOf];omega⟩
            rw[HE.out.2 (by simp)]
            exact HSI.out.1.below ((aj _ _).drew)
           |false=>
            rcases aL (u==v)with he | he
            ·go_upto_region 26 with (fail)
             rw[←hib,←hWi]
             clear hib hWi
             go_region
             go_wp2_with fail
             refine⟨⟨k+1,by go_num,by omega,⟨bx,cx,bY,cY,?_⟩⟩,by simp[intOf];omega⟩
             rw[HE.out.2 (by simp[beq_iff_eq.1 he])]
             exact HSI.out.1.below ((aj _ _).drew)
            ·have hne:¬u=v:=fun h=>by rw[beq_iff_eq.2 h]at he;exact absurd he (by decide)
             have HE2:=I (HE.out.1 ⟨rfl,hne⟩)
             have pw:Wi.drew.cell? ⟨pb,1,ai⟩=af (.int .i64 wd):=(aA (aB HPB.out (aj _ _).drew) 1).trans rfl
             obtain⟨w1,w64⟩:=HWD.out
             go_upto_region 26 with (fail)
             rw[←hib,←hWi]
             clear hib hWi
             go_region
             clear q0 q1 q2 q3 q4 q5 he hne
             go_wp2_with fail
             clear pw w1 w64
             go_loopw [19] (fun i W'=>∃(t:Int) (m:Nat) (s':S3),i=.int .i64 t/\t=(m:Int) - 1/\m<=64/\Aside0 ((∃bx cx bY cY,Sh c bx cx bY cY s'.u s'.v s'.a W')/\GS F n s'/\lK F k m s'=lK F k wd.toNat s/\W'.heap[ib]? =af (.cells #[.int .i64 k] 3 (0,0)))) (fun i _=>(intOf i+1).toNat)
             case atStart=>exact⟨_,wd.toNat,s,rfl,by have:=HWD.out;omega,by have:=HWD.out;omega,⟨⟨_,_,_,_,HSI.out.1.below ((aj _ _).drew)⟩,HSI.out.2.1,rfl,aB HSI.out.2.2 (aj _ _).drew⟩⟩
             case round=>
              as_aux_lemma=>
               obtain⟨t,m,s',rfl,ht,hm,HB2⟩:=hrel
               cases m with
               |zero=>
                obtain rfl:t= -1:=by omega
                obtain⟨⟨bx2,cx2,bY2,cY2,hS4⟩,-,he4,-⟩:=HB2.out
                have HS4:=I (ae hS4 he4)
                clear hS4 he4 ht hm
                go_wp2_with fail
                refine⟨⟨k+1,by go_num,by omega,⟨bx2,cx2,bY2,cY2,?_⟩⟩,by simp[intOf];omega⟩
                rw[HE2.out,←HS4.out.2]
                exact HS4.out.1
               |succ j=>
                obtain rfl:t=(j:Int):=by omega
                obtain⟨p,hp⟩:∃p:Int,p=((2 ^ j:Nat):Int):=⟨_,rfl⟩
                have hj1:(0:Int)<=(j:Int):=by omega
                have hj2:(j:Int)<64:=by omega
                have e1:IntKind.u64.wrap (j:Int)=(j:Int):=by rw[o7];omega
                have e2:shl .u64 1 (j:Int)=p:=by
                 have h:=shl_nat 1 (n:=(j:Int)) (m:=j) rfl (by omega)
                 rw[Nat.one_mul,dw (Nat.pow_lt_pow_right (by decide) (by omega))]at h
                 rw[hp];exact h
                have e3:IntKind.u64.wrap ((2:Int) ^ j)=p:=by
                 rw[hp,kC _ (Int.pow_nonneg (by decide)) (by exact_mod_cast Nat.pow_lt_pow_right (a:=2) (by decide) (by omega))]
                 simp
                have HJ:=I (ae hp (show j<64 by omega))
                have HLT:=I hlt
                clear hp ht hm hi1 hk hlt
                go_upto_region 31 with (fail)
                obtain⟨Wj,hWj⟩:∃Wj,Wj=wr.alloc (.cells #[.int .u64 p] 74):=⟨_,rfl⟩
                obtain⟨bb,hbb⟩:∃b,b=wr.heap.size:=⟨_,rfl⟩
                rw[←hbb,←hWj]
                obtain⟨⟨bx,cx,bY,cY,hS4⟩,hg4,-,hi4⟩:=HB2.out
                have hawj:bx<bb/\bY<bb/\c.xb<bb/\c.yb<bb/\c.ab<bb:=by rw[hbb];exact hS4.away
                have hWb:Below wr.heap.size wr Wj:=by rw[hWj];exact(aj _ _).alloc (ak _) _
                have hb4:Wj.heap[bb]? =af (.cells #[.int .u64 p] 74 (0,0)):=by rw[hWj,hbb];exact aW _ _
                replace hS4:=hS4.below hWb
                replace hi4:=aB hi4 hWb
                have q0:Wj.cell? ⟨c.xb,0,ai⟩=af (.slice (af ⟨bx,0,ai⟩) n cx):=by rw[←hg4.u];exact(aA hS4.x 0).trans rfl
                have q2:Wj.cell? ⟨ib,0,ai⟩=af (.int .i64 k):=(aA hi4 0).trans rfl
                have q3:Wj.cell? ⟨bb,0,ai⟩=af (.int .u64 p):=(aA hb4 0).trans rfl
                obtain⟨q4,-⟩:=hS4.rx.cell (k:=k) (by rw[hg4.u];exact HLT.out)
                have HE4:=I (show(Go.bits .and .u64 (s'.u.getD k 0) p=0->s'=bitU F k p s')/\(¬Go.bits .and .u64 (s'.u.getD k 0) p=0->kV F s' (s'.u.set k (Go.bits .andNot .u64 (s'.u.getD k 0) p)) s'.v=bitU F k p s') from by
                 unfold bitU
                 exact⟨fun h=>by rw[if_pos h],fun h=>by rw[if_neg h]⟩)
                obtain⟨u,hu⟩:∃u,u=s'.u.getD k 0:=⟨_,rfl⟩
                rw[←hu]at q4 HE4
                obtain⟨z,hz⟩:∃z,z=Go.bits .and .u64 u p:=⟨_,rfl⟩
                rw[←hz]at HE4
                have e4:=hz.symm
                have HU4:=I hu
                have HS4:=I (ae hS4 (ae hg4 (ae hi4 (ae hb4 hawj))))
                clear hWj hbb hS4 hg4 hi4 hawj hWb hb4 hu hz e1 e2 e3
                have hi1:(k:Int)<(n:Int):=by have:=HLT.out;omega
                rcases aL (z==0)with hz | hz
                focus
                 have HEZ:=I (HE4.out.1 (beq_iff_eq.1 hz))
                 go_region
                 go_wp2_with fail
                 have HS5:Aside0 (Sh c bx cx bY cY s'.u s'.v s'.a Wj.drew/\GS F n s'/\Wj.drew.heap[ib]? =af (.cells #[.int .i64 k] 3 (0,0))/\Wj.drew.heap[bb]? =af (.cells #[.int .u64 p] 74 (0,0))/\s'=bitU F k p s'):=⟨HS4.out.1.below ((aj _ _).drew),HS4.out.2.1,aB HS4.out.2.2.1 (aj _ _).drew,aB HS4.out.2.2.2.1 (aj _ _).drew,HEZ.out⟩
                 generalize Wj.drew=w2 at HS5 ⊢
                 obtain⟨s5,hs5⟩:∃x,x=s':=⟨_,rfl⟩
                 have HS5:Aside0 (Sh c bx cx bY cY s5.u s5.v s5.a w2/\GS F n s5/\w2.heap[ib]? =af (.cells #[.int .i64 k] 3 (0,0))/\w2.heap[bb]? =af (.cells #[.int .u64 p] 74 (0,0))/\s5=bitU F k p s'):=by rw[hs5];exact HS5
                 clear hs5 hz
                 obtain⟨bx2,cx2,bY2,cY2,HS5⟩:∃bx2 cx2 bY2 cY2,Aside0 (Sh c bx2 cx2 bY2 cY2 s5.u s5.v s5.a w2/\GS F n s5/\w2.heap[ib]? =af (.cells #[.int .i64 k] 3 (0,0))/\w2.heap[bb]? =af (.cells #[.int .u64 p] 74 (0,0))/\s5=bitU F k p s'):=⟨_,_,_,_,HS5⟩
                rotate_left
                focus
                 have hz':¬z=0:=fun h=>by rw[beq_iff_eq.2 h]at hz;exact absurd hz (by decide)
                 have HEZ:=I (HE4.out.2 hz')
                 go_region
                 go_wp2_with fail
                 refine(try_gs HS1.out.1 nm wd ln ds bd A3 c3 A4 c4 HP2.out HC.out.1 HC.out.2.2.1 HG0.out.2.2.2 HS4.out.2.1 hn0 hn1 (turn94 HS1.out.1 (W0:=Wj.drew) (k:=k) (aB HS4.out.2.2.1 (aj _ _).drew) (aB HS4.out.2.2.2.1 (aj _ _).drew) (by rw[HS4.out.2.1.u];exact HLT.out)) (HS4.out.1.below ((aj _ _).drew)) (by rw[List.length_set];exact HS4.out.2.1.u) HS4.out.2.1.v (eY HS4.out.2.1.uu k (fK _ _)) HS4.out.2.1.vv).mono ?_
                 rintro _ w2 ⟨rfl,hT⟩
                 have hi6:=TryW.box3 (hT:=hT) HS1.out.1 (HS4.out.1.below ((aj _ _).drew)) (aB HS4.out.2.2.1 (aj _ _).drew) HAW.out
                 have hb6:=hT.box HS1.out.1 (aB HS4.out.2.2.2.1 (aj _ _).drew) (dg HS4.out.2.2.2.2.1) (dg HS4.out.2.2.2.2.2.1) (dg HS4.out.2.2.2.2.2.2.1) (dg HS4.out.2.2.2.2.2.2.2.1) (dg HS4.out.2.2.2.2.2.2.2.2)
                 obtain⟨⟨bx2,cx2,bY2,cY2,hS6⟩,hz6⟩:=hT
                 rw[←HU4.out]at hS6
                 have hg6:=HS4.out.2.1.setU k (fK u p)
                 have he6:=HEZ.out
                 obtain⟨s5,hs5⟩:∃x,x=kV F s' (s'.u.set k (Go.bits .andNot .u64 u p)) s'.v:=⟨_,rfl⟩
                 rw[←hs5]at hS6 hg6 he6
                 have HS5:=I (ae hS6 (ae hg6 (ae hi6 (ae hb6 he6))))
                 clear hS6 hg6 hi6 hb6 he6 hs5 hz6 hz hz'
                 go_wp2_with fail
                all_goals
                 as_aux_lemma=>
                  clear q0 q2 q3 q4 e4 hi1
                  obtain⟨hS5,hg5,hi5,hb5,he5⟩:=HS5.out
                  have q0:w2.cell? ⟨c.yb,0,ai⟩=af (.slice (af ⟨bY2,0,ai⟩) n cY2):=by rw[←hg5.v];exact(aA hS5.y 0).trans rfl
                  have q2:w2.cell? ⟨ib,0,ai⟩=af (.int .i64 k):=(aA hi5 0).trans rfl
                  have q3:w2.cell? ⟨bb,0,ai⟩=af (.int .u64 p):=(aA hb5 0).trans rfl
                  obtain⟨q5,-⟩:=hS5.ry.cell (k:=k) (by rw[hg5.v];exact HLT.out)
                  have HE5:=I (show(Go.bits .and .u64 (s5.v.getD k 0) p=0->lK F k j s5=lK F k wd.toNat s)/\(¬Go.bits .and .u64 (s5.v.getD k 0) p=0->lK F k j (kV F s5 s5.u (s5.v.set k (Go.bits .andNot .u64 (s5.v.getD k 0) p)))=lK F k wd.toNat s) from by
                   have h:=HB2.out.2.2.1
                   rw[show lK F k (j+1) s'=lK F k j (bitV F k ((2 ^ j:Nat):Int) (bitU F k ((2 ^ j:Nat):Int) s')) from rfl,←HJ.out.1,←he5]at h
                   rw[←h]
                   unfold bitV
                   exact⟨fun h=>by rw[if_pos h],fun h=>by rw[if_neg h]⟩)
                  obtain⟨v,hv⟩:∃v,v=s5.v.getD k 0:=⟨_,rfl⟩
                  rw[←hv]at q5 HE5
                  obtain⟨z2,hz2⟩:∃z,z=Go.bits .and .u64 v p:=⟨_,rfl⟩
                  rw[←hz2]at HE5
                  have e5:=hz2.symm
                  have HV5:=I hv
                  clear hS5 hg5 hi5 hb5 he5 hv hz2
                  have hi1:(k:Int)<(n:Int):=by have:=HLT.out;omega
                  rcases aL (z2==0)with hz | hz
                  ·go_region
                   go_wp2_with fail
                   refine⟨⟨_,j,s5,rfl,rfl,Nat.le_of_lt HJ.out.2,⟨⟨bx2,cx2,bY2,cY2,HS5.out.1.below ((aj _ _).drew)⟩,HS5.out.2.1,HE5.out.1 (beq_iff_eq.1 hz),aB HS5.out.2.2.1 (aj _ _).drew⟩⟩,by simp[intOf]⟩
                  ·have hz':¬z2=0:=fun h=>by rw[beq_iff_eq.2 h]at hz;exact absurd hz (by decide)
                   go_region
                   go_wp2_with fail
                   refine(try_gs HS1.out.1 nm wd ln ds bd A3 c3 A4 c4 HP2.out HC.out.1 HC.out.2.2.1 HG0.out.2.2.2 HS5.out.2.1 hn0 hn1 (turn95 HS1.out.1 (W0:=w2.drew) (k:=k) (aB HS5.out.2.2.1 (aj _ _).drew) (aB HS5.out.2.2.2.1 (aj _ _).drew) (by rw[HS5.out.2.1.v];exact HLT.out)) (HS5.out.1.below ((aj _ _).drew)) HS5.out.2.1.u (by rw[List.length_set];exact HS5.out.2.1.v) HS5.out.2.1.uu (eY HS5.out.2.1.vv k (fK _ _))).mono ?_
                   rintro _ w3 ⟨rfl,hT⟩
                   have hi6:=TryW.box3 (hT:=hT) HS1.out.1 (HS5.out.1.below ((aj _ _).drew)) (aB HS5.out.2.2.1 (aj _ _).drew) HAW.out
                   obtain⟨⟨bx3,cx3,bY3,cY3,hS6⟩,hz6⟩:=hT
                   rw[←HV5.out]at hS6
                   have HS6:=I (ae hS6 (ae (HS5.out.2.1.setV k (fK v p)) hi6))
                   clear hS6 hz6 hi6
                   go_wp2_with fail
                   refine⟨⟨_,j,_,rfl,rfl,Nat.le_of_lt HJ.out.2,⟨⟨bx3,cx3,bY3,cY3,HS6.out.1⟩,HS6.out.2.1,HE5.out.2 hz',HS6.out.2.2⟩⟩,by simp[intOf]⟩
          ·have hkl:n=k:=by omega
           subst hkl
           have HE:=I (show r=(s,0) from by
            rw[HG0.out.2.1]
            unfold lX
            rw[←HG0.out.2.2.1,←HG1.out.2,←HG2.out.2,←hs])
           have HSF:=I (ae hS hgs)
           have q0:wr.cell? ⟨c.xb,0,ai⟩=af (.slice (af ⟨bx,0,ai⟩) n cx):=by rw[←hgs.u];exact(aA hS.x 0).trans rfl
           have q1:wr.cell? ⟨c.yb,0,ai⟩=af (.slice (af ⟨bY,0,ai⟩) n cY):=by rw[←hgs.v];exact(aA hS.y 0).trans rfl
           have q2:wr.cell? ⟨c.ab,0,ai⟩=af (.int .i64 s.a):=(aA hS.a 0).trans rfl
           clear hS hgs hs HB
           go_wp2_with fail
           go_region
           go_wp2_with fail
           refine bodyPost_ret (fT rfl _ _ _) rfl ?_
           rw[HE.out]
           have h9:=HSF.out.1.below ((aj _ _).drew)
           have hlow:=h9.low
           rw[HXN.out]at hlow
           exact⟨.slice (af ⟨bx,0,ai⟩) n cx,.slice (af ⟨bY,0,ai⟩) n cY,rfl,⟨_,cx,by rw[HSF.out.2.u],h9.rx.words⟩,⟨_,cY,by rw[HSF.out.2.v],h9.ry.words⟩,hlow⟩
end
section
set_option maxRecDepth 100000
theorem j6 (nm:ByteArray)(wd ln:Int)(ds:List S70)(bd:List S119)(A3:Option Addr)(c3:Nat)(A4:Option Addr)(c4:Nat)(W:World)(hp:ProgAt W ds bd A3 c3 A4 c4)(hg:PGood nm wd ln ds bd)(x y:List Int)(A B:Option Addr)(cA cB:Nat)(hx:bT W A x)(hy:bT W B y)(ux:∀v∈x,U64 v)(uy:∀v∈y,U64 v)(r:Bool × Int × Int)(hr:r=bO nm wd ln ds bd x y):
 Calls aq 30 #[.agg #[.string nm,.int .i64 wd,.int .i64 ln,.slice A3 ds.length c3,.slice A4 bd.length c4],.slice A x.length cA,.slice B y.length cB] W fun e W'=>e=.returned (.tuple #[.bool r.1,.int .i64 r.2.1,.int .i64 r.2.2])/\Below W.heap.size W W':=by
 obtain⟨xb,hxb⟩:∃b,b=W.heap.size:=⟨_,rfl⟩
 obtain⟨X,hX⟩:∃X,X=W.alloc (.cells #[.string nm,.int .i64 wd,.int .i64 ln,.slice A3 ds.length c3,.slice A4 bd.length c4] 25):=⟨_,rfl⟩
 have hXB:Below W.heap.size W X:=by rw[hX];exact(aj _ _).alloc (ak _) _
 have hbx:X.heap[xb]? =af (.cells #[.string nm,.int .i64 wd,.int .i64 ln,.slice A3 ds.length c3,.slice A4 bd.length c4] 25 (0,0)):=by rw[hX,hxb];exact aW _ _
 unfold bO at hr
 obtain⟨⟨l,er⟩,hle⟩:∃r,r=dU nm wd ln ds bd:=⟨_,rfl⟩
 have hpu:=jH nm wd ln ds bd A3 c3 A4 c4 X (hp.below hXB) hg
 rw[←hle]at hr hpu
 have HPU:=I hpu
 have HLE:=I hle
 have HR:=I hr
 have HX:=I (ae hXB (ae hbx (hp.below hXB)))
 have HI:=I (ae (hx.below hXB) (ae (hy.below hXB) (ae ux uy)))
 have HRX:=I (fun(W':World) (h:Below X.heap.size X W')=>pE nm wd ln ds bd A3 c3 A4 c4 W' ((hp.below hXB).below h) hg x A cA ((hx.below hXB).below h) ux)
 have HRY:=I (fun(W':World) (h:Below X.heap.size X W')=>pE nm wd ln ds bd A3 c3 A4 c4 W' ((hp.below hXB).below h) hg y B cB ((hy.below hXB).below h) uy)
 have HSM:=I (ae (kX nm wd ln ds bd x) (kX nm wd ln ds bd y))
 have HXE:=I (ae hX hxb)
 have x0:X.cell? ⟨xb,0,ai⟩=af (.string nm):=(aA hbx 0).trans rfl
 have x1:X.cell? ⟨xb,1,ai⟩=af (.int .i64 wd):=(aA hbx 1).trans rfl
 have x2:X.cell? ⟨xb,2,ai⟩=af (.int .i64 ln):=(aA hbx 2).trans rfl
 have x3:X.cell? ⟨xb,3,ai⟩=af (.slice A3 ds.length c3):=(aA hbx 3).trans rfl
 have x4:X.cell? ⟨xb,4,ai⟩=af (.slice A4 bd.length c4):=(aA hbx 4).trans rfl
 clear hp hg hx hy ux uy hX hxb hXB hbx hr hle hpu
 go_enter Tryz.func30,Tryz.ntmps30
 go_upto_region 1 with (fail)
 rw[←HXE.out.1,←HXE.out.2]
 go_wp2_with fail
 refine HPU.out.mono ?_
 rintro _ w1 ⟨v,rfl,hR,hb1⟩
 obtain⟨Av,cv,hv⟩:=Kd.cD hR
 subst hv
 have hbo:BoolsAt w1 Av l:=by
  obtain⟨A',c',e',-,hC⟩:=Kd.dC hR
  injection e' with e'
  rw[e'];exact sD hC
 have H1:=I (ae hb1 hbo)
 have HW1:=I (HX.out.1.trans (hb1.mono HX.out.1.size))
 clear hR hb1 hbo x0 x1 x2 x3 x4
 by_cases he:er=0
 ·have HF:=I (show(bE nm wd ln ds bd).e=0 from by
   by_cases h0:(bE nm wd ln ds bd).e=0
   ·exact h0
   ·have h:=HLE.out
    rw[(eR nm wd ln ds bd).2 h0]at h
    injection h with _ h
    exact absurd (h.symm.trans he) h0)
  have HWD:=I (show 1<=wd from by
   obtain⟨m,e,h⟩:=(eE HF.out).wd
   rw[e];unfold d9 at h;omega)
  subst he
  by_cases hn:x.length=l.length/\y.length=l.length
  ·obtain⟨hnx,hny⟩:=hn
   have HN:=I (ae hnx hny)
   have hr2:=HR.out
   rw[if_pos rfl,if_pos HN.out]at hr2
   have HR2:=I hr2
   have hl1:l.length<=65536:=by
    have h:=HLE.out
    rw[(eR nm wd ln ds bd).1 HF.out]at h
    injection h with h _
    have h2:=jN (fun i hi=>dB HF.out i hi) ds.length (ak _)
    have h3:=(eE HF.out).few
    rw[h];omega
   rw[hnx]at HRX ⊢
   rw[hny]at HRY ⊢
   clear hnx hny hr2
   go_wp2_with fail
   go_loopw [11] (fun i W'=>∃k:Nat,i=.int .i64 k/\k<=l.length/\Aside0 (Below w1.heap.size w1 W'/\gV wd l x y k)) (fun i _=>l.length - (intOf i).toNat)
   case atStart=>exact⟨0,rfl,bh _,⟨aj _ _,gV.zero _ _ _ _⟩⟩
   case round=>
    obtain⟨k,rfl,hk,HB⟩:=hrel
    have HXR:=I (show Below X.heap.size X wr from H1.out.1.trans (HB.out.1.mono H1.out.1.size))
    by_cases hlt:k<l.length
    ·have hi1:(k:Int)<(l.length:Int):=by omega
     obtain⟨ad0,e0,q0⟩:=H1.out.2 k hlt
     cases e0
     obtain⟨ad1,e1,q1⟩:=HI.out.1 k (by rw[HN.out.1];exact hlt)
     cases e1
     obtain⟨ad2,e2,q2⟩:=HI.out.2.1 k (by rw[HN.out.2];exact hlt)
     cases e2
     replace q0:=aE HB.out.1 q0
     replace q1:=aE HXR.out q1
     replace q2:=aE HXR.out q2
     have pw:∀g:G wr,g.W.cell? ⟨xb,1,ai⟩=af (.int .i64 wd):=fun g=>(aA (aB (aB HX.out.2.1 HXR.out) g.below) 1).trans rfl
     have HU:=I (ae (eL HI.out.2.2.1 k) (eL HI.out.2.2.2 k))
     obtain⟨b,hb⟩:∃b,b=l.getD k J:=⟨_,rfl⟩
     obtain⟨u,hu⟩:∃b,b=x.getD k 0:=⟨_,rfl⟩
     obtain⟨v,hv⟩:∃b,b=y.getD k 0:=⟨_,rfl⟩
     rw[←hb]at q0
     rw[←hu]at q1 HU
     rw[←hv]at q2 HU
     have HEQ:=I (ae hb (ae hu hv))
     have p0:∀g:G wr,g.W.cell? (ad0.add k)=af (.bool b):=fun g=>aE g.below q0
     have p1:∀g:G wr,g.W.cell? (ad1.add k)=af (.int .u64 u):=fun g=>aE g.below q1
     have p2:∀g:G wr,g.W.cell? (ad2.add k)=af (.int .u64 v):=fun g=>aE g.below q2
     clear hb hu hv q1 q2
     cases b with
     |false=>
      go_wp2_with fail
      refine aG ?_
      intro gg
      refine bF (by kernel_rfl) (by kernel_rfl) ?_
      repeat(go_big_quiet_step (first | (go_at_call 73;exact aD (nK HWD.out (by first | exact HU.out.1 | exact HU.out.2) _))))
      refine wpQuiet_nil ?_
      rintro _ ⟨gg,rfl⟩
      go_wp2_with fail
      refine⟨⟨k+1,by go_num,by omega,⟨HB.out.1.trans (gg.below.mono HB.out.1.size),HB.out.2.step fun h=> ?_⟩⟩,by simp[intOf];omega⟩
      rw[←HEQ.out.1]at h;exact absurd h (by decide)
     |true=>
      rcases aL (lL wd u==lL wd v)with ht | ht
      ·go_wp2_with fail
       refine aG ?_
       intro gg
       refine bF (by kernel_rfl) (by kernel_rfl) ?_
       repeat(go_big_quiet_step (first | (go_at_call 73;exact aD (nK HWD.out (by first | exact HU.out.1 | exact HU.out.2) _))))
       refine wpQuiet_nil ?_
       rintro _ ⟨gg,rfl⟩
       go_wp2_with fail
       refine⟨⟨k+1,by go_num,by omega,⟨HB.out.1.trans (gg.below.mono HB.out.1.size),HB.out.2.step fun h=> ?_⟩⟩,by simp[intOf];omega⟩
       rw[←HEQ.out.2.1,←HEQ.out.2.2];exact beq_iff_eq.1 ht
      ·have HA:=I (show r=(J,0,1) from by
        rw[HR2.out,if_neg]
        intro h
        have:=h k (by omega) HEQ.out.1.symm
        rw[←HEQ.out.2.1,←HEQ.out.2.2]at this
        rw[beq_iff_eq.2 this]at ht;exact absurd ht (by decide))
       go_wp2_with fail
       refine aG ?_
       intro gg
       refine bF (by kernel_rfl) (by kernel_rfl) ?_
       repeat(go_big_quiet_step (first | (go_at_call 73;exact aD (nK HWD.out (by first | exact HU.out.1 | exact HU.out.2) _))))
       refine wpQuiet_nil ?_
       rintro _ ⟨gg,rfl⟩
       go_wp2_with fail
       go_ret3
       exact⟨by rw[HA.out];rfl,HW1.out.trans ((HB.out.1.trans (gg.below.mono HB.out.1.size)).mono HW1.out.size)⟩
    ·have hkl:k=l.length:=by omega
     subst hkl
     have hr3:=HR2.out
     rw[if_pos HB.out.2]at hr3
     have HR3:=I hr3
     obtain⟨⟨er1,S,T⟩,hansx⟩:∃r,r=dW nm wd ln ds bd x:=⟨_,rfl⟩
     obtain⟨⟨er2,S2,U⟩,hansy⟩:∃r,r=dW nm wd ln ds bd y:=⟨_,rfl⟩
     rw[←hansx]at HRX HSM HR3
     rw[←hansy]at HRY HSM HR3
     clear hr3 hansx hansy
     have x0:wr.cell? ⟨xb,0,ai⟩=af (.string nm):=(aA (aB HX.out.2.1 HXR.out) 0).trans rfl
     have x1:wr.cell? ⟨xb,1,ai⟩=af (.int .i64 wd):=(aA (aB HX.out.2.1 HXR.out) 1).trans rfl
     have x2:wr.cell? ⟨xb,2,ai⟩=af (.int .i64 ln):=(aA (aB HX.out.2.1 HXR.out) 2).trans rfl
     have x3:wr.cell? ⟨xb,3,ai⟩=af (.slice A3 ds.length c3):=(aA (aB HX.out.2.1 HXR.out) 3).trans rfl
     have x4:wr.cell? ⟨xb,4,ai⟩=af (.slice A4 bd.length c4):=(aA (aB HX.out.2.1 HXR.out) 4).trans rfl
     go_wp2_with fail
     refine(HRX.out wr HXR.out).mono ?_
     rintro _ w3 ⟨vS,vT,rfl,hE,hb⟩
     obtain⟨⟨PS,pS,eS,-⟩,P,p,eT,hT⟩:=hE
     replace eS:vS=.slice PS S.length pS:=eS
     replace eT:vT=.slice P T.length p:=eT
     subst eS eT
     obtain⟨ab,hab⟩:∃b,b=w3.heap.size:=⟨_,rfl⟩
     obtain⟨w4,hw4⟩:∃w',w'=w3.alloc (.cells #[.slice PS S.length pS,.slice P T.length p] 40):=⟨_,rfl⟩
     have hb4:Below w3.heap.size w3 w4:=by rw[hw4];exact(aj _ _).alloc (ak _) _
     have hk:w4.heap[ab]? =af (.cells #[.slice PS S.length pS,.slice P T.length p] 40 (0,0)):=by rw[hw4,hab];exact aW _ _
     have H4:=I (show Below wr.heap.size wr w4/\w4.heap[ab]? =af (.cells #[.slice PS S.length pS,.slice P T.length p] 40 (0,0))/\mG.C w4 P T.length T from⟨hb.trans (hb4.mono hb.size),hk,Kd.aF hT hb4⟩)
     clear hb hb4 hk hT x0 x1 x2 x3 x4
     go_upto_region 12 with (fail)
     rw[←hab]
     rw[←hw4]
     clear hab hw4
     have HX4:=I (HXR.out.trans (H4.out.1.mono HXR.out.size))
     have x0:w4.cell? ⟨xb,0,ai⟩=af (.string nm):=(aA (aB HX.out.2.1 HX4.out) 0).trans rfl
     have x1:w4.cell? ⟨xb,1,ai⟩=af (.int .i64 wd):=(aA (aB HX.out.2.1 HX4.out) 1).trans rfl
     have x2:w4.cell? ⟨xb,2,ai⟩=af (.int .i64 ln):=(aA (aB HX.out.2.1 HX4.out) 2).trans rfl
     have x3:w4.cell? ⟨xb,3,ai⟩=af (.slice A3 ds.length c3):=(aA (aB HX.out.2.1 HX4.out) 3).trans rfl
     have x4:w4.cell? ⟨xb,4,ai⟩=af (.slice A4 bd.length c4):=(aA (aB HX.out.2.1 HX4.out) 4).trans rfl
     go_wp2_with fail
     refine(HRY.out w4 HX4.out).mono ?_
     rintro _ w5 ⟨vS,vT,rfl,hE,hb⟩
     obtain⟨⟨QS,qS,eS,-⟩,Q,q,eT,hT⟩:=hE
     replace eS:vS=.slice QS S2.length qS:=eS
     replace eT:vT=.slice Q U.length q:=eT
     subst eS eT
     obtain⟨ob,hob⟩:∃b,b=w5.heap.size:=⟨_,rfl⟩
     obtain⟨w6,hw6⟩:∃w',w'=w5.alloc (.cells #[.slice QS S2.length qS,.slice Q U.length q] 40):=⟨_,rfl⟩
     have hb4:Below w5.heap.size w5 w6:=by rw[hw6];exact(aj _ _).alloc (ak _) _
     have hk:w6.heap[ob]? =af (.cells #[.slice QS S2.length qS,.slice Q U.length q] 40 (0,0)):=by rw[hw6,hob];exact aW _ _
     have H6:=I (show Below w4.heap.size w4 w6/\w6.heap[ob]? =af (.cells #[.slice QS S2.length qS,.slice Q U.length q] 40 (0,0))/\mG.C w6 Q U.length U from⟨hb.trans (hb4.mono hb.size),hk,Kd.aF hT hb4⟩)
     clear hb hb4 hk hT x0 x1 x2 x3 x4
     go_upto_region 13 with (fail)
     rw[←hob]
     rw[←hw6]
     clear hob hw6
     have HX6:=I (HX4.out.trans (H6.out.1.mono HX4.out.size))
     have HC6:=I (ae (Kd.aF H4.out.2.2 H6.out.1) (ae H6.out.2.2 (ae (aB H4.out.2.1 H6.out.1) H6.out.2.1)))
     have a1:w6.cell? ⟨ab,1,ai⟩=af (.slice P T.length p):=(aA HC6.out.2.2.1 1).trans rfl
     have b1:w6.cell? ⟨ob,1,ai⟩=af (.slice Q U.length q):=(aA HC6.out.2.2.2 1).trans rfl
     obtain⟨⟨d1,d2⟩,hd⟩:∃r,r=difS T U:=⟨_,rfl⟩
     have HDC:=I (rE T U P Q p q w6 HC6.out.1 HC6.out.2.1 HSM.out.1 HSM.out.2 _ hd)
     have HD:=I hd
     clear hd
     go_wp2_with fail
     refine HDC.out.mono ?_
     rintro _ w7 ⟨rfl,hb7⟩
     have H7:=I (show Below W.heap.size W w7/\mG.C w7 P T.length T/\mG.C w7 Q U.length U from⟨HX.out.1.trans ((HX6.out.trans (hb7.mono HX6.out.size)).mono HX.out.1.size),Kd.aF HC6.out.1 hb7,Kd.aF HC6.out.2.1 hb7⟩)
     clear a1 b1
     have a1:w7.cell? ⟨ab,1,ai⟩=af (.slice P T.length p):=(aA (aB HC6.out.2.2.1 hb7) 1).trans rfl
     have b1:w7.cell? ⟨ob,1,ai⟩=af (.slice Q U.length q):=(aA (aB HC6.out.2.2.2 hb7) 1).trans rfl
     clear hb7
     rcases difS_cases T U with hdd | ⟨j,hdd⟩
     ·have hd2:=HD.out.trans hdd
      injection hd2 with hd1 hd2
      subst hd1 hd2
      have HA:=I (show r=(J,0,0) from HR3.out.trans (lV hdd))
      clear hdd
      go_wp2_with fail
      go_ret3
      exact⟨by rw[HA.out];rfl,H7.out.1⟩
     ·have hd2:=HD.out.trans hdd
      injection hd2 with hd1 hd2
      subst hd1 hd2
      have HJ:=I hdd
      clear hdd
      by_cases h1:j<T.length
      ·have hi1:decide ((j:Int)<(T.length:Int))=ac:=decide_eq_true (by omega)
       by_cases h2:j<U.length
       ·have hi2:decide ((j:Int)<(U.length:Int))=ac:=decide_eq_true (by omega)
        obtain⟨ad1,e1,q0,-,-⟩:=mA H7.out.2.1 (j:Int) (by omega) (by omega)
        cases e1
        obtain⟨ad2,e2,p0,-,-⟩:=mA H7.out.2.2 (j:Int) (by omega) (by omega)
        cases e2
        rw[aw]at q0 p0
        obtain⟨f,hf⟩:∃f,f=(fR T (j:Int)).f0:=⟨_,rfl⟩
        obtain⟨f',hf'⟩:∃f,f=(fR U (j:Int)).f0:=⟨_,rfl⟩
        rw[←hf]at q0
        rw[←hf']at p0
        have HFF:=I (ae hf hf')
        clear hf hf'
        rcases aL (f==5)with h5 | h5
        ·rcases aL (f'==5)with h6 | h6
         ·have HA:=I (show r=(J,0,0) from HR3.out.trans (o6 HJ.out ⟨h1,h2,by rw[←HFF.out.1];exact beq_iff_eq.1 h5,by rw[←HFF.out.2];exact beq_iff_eq.1 h6⟩))
          go_wp2_with fail
          go_ret3
          exact⟨by rw[HA.out];rfl,H7.out.1⟩
         ·have HA:=I (show r=(ac,(j:Int),0) from HR3.out.trans (eH HJ.out (fun h=>by have:=h.2.2.2;rw[←HFF.out.2]at this;rw[beq_iff_eq.2 this]at h6;exact absurd h6 (by decide))))
          go_wp2_with fail
          go_ret3
          exact⟨by rw[HA.out];rfl,H7.out.1⟩
        ·have HA:=I (show r=(ac,(j:Int),0) from HR3.out.trans (eH HJ.out (fun h=>by have:=h.2.2.1;rw[←HFF.out.1]at this;rw[beq_iff_eq.2 this]at h5;exact absurd h5 (by decide))))
         go_wp2_with fail
         go_ret3
         exact⟨by rw[HA.out];rfl,H7.out.1⟩
       ·have hi2:decide ((j:Int)<(U.length:Int))=J:=decide_eq_false (by omega)
        have HA:=I (show r=(ac,(j:Int),0) from HR3.out.trans (eH HJ.out (fun h=>by exact h2 h.2.1)))
        go_wp2_with fail
        go_ret3
        exact⟨by rw[HA.out];rfl,H7.out.1⟩
      ·have hi1:decide ((j:Int)<(T.length:Int))=J:=decide_eq_false (by omega)
       have HA:=I (show r=(ac,(j:Int),0) from HR3.out.trans (eH HJ.out (fun h=>by exact h1 h.1)))
       go_wp2_with fail
       go_ret3
       exact⟨by rw[HA.out];rfl,H7.out.1⟩
  ·have HA:=I (show r=(J,0,170) from by rw[HR.out,if_pos rfl,if_neg hn])
   by_cases hnx:x.length=l.length
   ·have hny:((y.length:Int)==(l.length:Int))=J:=by
     rw[beq_eq_false_iff_ne];intro h;exact hn ⟨hnx,by omega⟩
    rw[hnx]
    clear hn hnx
    go_wp2_with fail
    go_ret3
    exact⟨by rw[HA.out];rfl,HW1.out⟩
   ·have hnx':((x.length:Int)==(l.length:Int))=J:=by
     rw[beq_eq_false_iff_ne];intro h;exact hnx (by omega)
    clear hn hnx
    go_wp2_with fail
    go_ret3
    exact⟨by rw[HA.out];rfl,HW1.out⟩
 ·have HA:=I (show r=(J,0,er) from by rw[HR.out,if_neg he])
  have he0:(er==0)=J:=by rw[beq_eq_false_iff_ne];exact he
  go_wp2_with fail
  go_ret3
  exact⟨by rw[HA.out];rfl,HW1.out⟩
end
section
set_option maxRecDepth 100000
theorem set_back (l:List Int)(k:Nat)(x:Int):(l.set k x).set k (l.getD k 0)=l:=by
 rw[List.set_set]
 apply List.ext_getElem?
 intro i
 rw[jw]
 split
 ·rename_i h
  subst h
  split
  ·rename_i h2
   rw[av,ax h2];rfl
  ·rename_i h2
   rw[cz (by omega)]
 ·rfl
theorem nU (l:List Int)(k:Nat):l.set k (l.getD k 0)=l:=by
 have:=set_back l k (l.getD k 0)
 rwa [List.set_set]at this
section
variable (nm:ByteArray)(wd ln:Int)(ds:List S70)(bd:List S119)(A3:Option Addr)(c3:Nat)(A4:Option Addr)(c4:Nat)(P0:World)(kb n bx cx bY cY:Nat)
structure Rs (U V:List Int)(W:World):Prop where
 low:Below P0.heap.size P0 W
 k:W.heap[kb]? =af (.cells #[.string nm,.int .i64 wd,.int .i64 ln,.slice A3 ds.length c3,.slice A4 bd.length c4,.slice (af ⟨bx,0,ai⟩) n cx,.slice (af ⟨bY,0,ai⟩) n cY] 133 (0,0))
 rx:Row W P0.heap.size bx cx U
 ry:Row W P0.heap.size bY cY V
 u:U.length=n
 v:V.length=n
 ne:bx≠bY
end
section
variable {nm:ByteArray}{wd ln:Int}{ds:List S70}{bd:List S119}{A3:Option Addr}{c3:Nat}{A4:Option Addr}{c4:Nat}{P0:World}{kb n bx cx bY cY:Nat}{U V:List Int}{W W':World}
theorem Rs.below (h:Rs nm wd ln ds bd A3 c3 A4 c4 P0 kb n bx cx bY cY U V W)(hb:Below W.heap.size W W'):Rs nm wd ln ds bd A3 c3 A4 c4 P0 kb n bx cx bY cY U V W':=
 ⟨h.low.trans (hb.mono h.low.size),aB h.k hb,h.rx.below hb,h.ry.below hb,h.u,h.v,h.ne⟩
theorem Rs.setX (h:Rs nm wd ln ds bd A3 c3 A4 c4 P0 kb n bx cx bY cY U V W)(i:Nat)(x:Int):Rs nm wd ln ds bd A3 c3 A4 c4 P0 kb n bx cx bY cY (U.set i x) V (W.setCell ⟨bx,i,ai⟩ (.int .u64 x)):=by
 obtain⟨cs,hb⟩:=h.rx.blk
 exact⟨h.low.setCell (p:=⟨bx,i,ai⟩) h.rx.lo _,dQ h.k (dJ h.k hb (by decide)) _,h.rx.put i x,h.ry.far h.ne _,by rw[List.length_set];exact h.u,h.v,h.ne⟩
theorem Rs.setY (h:Rs nm wd ln ds bd A3 c3 A4 c4 P0 kb n bx cx bY cY U V W)(i:Nat)(x:Int):Rs nm wd ln ds bd A3 c3 A4 c4 P0 kb n bx cx bY cY U (V.set i x) (W.setCell ⟨bY,i,ai⟩ (.int .u64 x)):=by
 obtain⟨cs,hb⟩:=h.ry.blk
 exact⟨h.low.setCell (p:=⟨bY,i,ai⟩) h.ry.lo _,dQ h.k (dJ h.k hb (by decide)) _,h.rx.far (fun e=>h.ne e.symm) _,h.ry.put i x,h.u,by rw[List.length_set];exact h.v,h.ne⟩
theorem Rs.at5 (h:Rs nm wd ln ds bd A3 c3 A4 c4 P0 kb n bx cx bY cY U V W):W.cell? ⟨kb,5,ai⟩=af (.slice (af ⟨bx,0,ai⟩) n cx)/\W.cell? ⟨kb,6,ai⟩=af (.slice (af ⟨bY,0,ai⟩) n cY):=⟨(aA h.k 5).trans rfl,(aA h.k 6).trans rfl⟩
theorem Rs.atU (h:Rs nm wd ln ds bd A3 c3 A4 c4 P0 kb n bx cx bY cY U V W){i:Nat}(hi:i<n):W.cell? ⟨bx,i,ai⟩=af (.int .u64 (U.getD i 0))/\W.frozen? ⟨bx,i,ai⟩=J:=h.rx.cell (by rw[h.u];exact hi)
theorem Rs.atV (h:Rs nm wd ln ds bd A3 c3 A4 c4 P0 kb n bx cx bY cY U V W){i:Nat}(hi:i<n):W.cell? ⟨bY,i,ai⟩=af (.int .u64 (V.getD i 0))/\W.frozen? ⟨bY,i,ai⟩=J:=h.ry.cell (by rw[h.v];exact hi)
theorem rtry_calls (hp:ProgAt P0 ds bd A3 c3 A4 c4)(hg:PGood nm wd ln ds bd)(hS:Rs nm wd ln ds bd A3 c3 A4 c4 P0 kb n bx cx bY cY U V W)(hn:n<=65536){i:Nat}(hi:i<n)(x y:Int)(uu:∀v∈U.set i x,U64 v)(uv:∀v∈V.set i y,U64 v)(a:Int):
 Calls aq 97 #[.pointer (af ⟨kb,0,ai⟩),.int .i64 i,.int .u64 x,.int .u64 y] W fun e W'=>e=.returned (.tuple #[])/\Rs nm wd ln ds bd A3 c3 A4 c4 P0 kb n bx cx bY cY (kV (bO nm wd ln ds bd) ⟨U,V,a⟩ (U.set i x) (V.set i y)).u (kV (bO nm wd ln ds bd) ⟨U,V,a⟩ (U.set i x) (V.set i y)).v W':=by
 have HP:=I (ae hp (ae hg (ae uu uv)))
 have HS:=I hS
 have hi1:(i:Int)<(n:Int):=by omega
 obtain⟨k5,k6⟩:=hS.at5
 obtain⟨q1,f1⟩:=hS.atU hi
 obtain⟨q2,f2⟩:=hS.atV hi
 have HI:=I hi
 obtain⟨u,hu⟩:∃u,u=U.getD i 0:=⟨_,rfl⟩
 obtain⟨v,hv⟩:∃v,v=V.getD i 0:=⟨_,rfl⟩
 rw[←hu]at q1
 rw[←hv]at q2
 have HU:=I (ae hu hv)
 clear hp hg hS uu uv hu hv
 go_enter Tryz.func97,Tryz.ntmps97
 go_wp2_with fail
 go_region
 clear k5 k6 q1 q2 f1 f2
 obtain⟨W1,hW1⟩:∃W1,W1=W.drew:=⟨_,rfl⟩
 rw[←hW1]
 have hS1:=HS.out.below (W':=W1) (by rw[hW1];exact(aj _ _).drew)
 obtain⟨k5,k6⟩:=hS1.at5
 obtain⟨q1,f1⟩:=hS1.atU HI.out
 obtain⟨q2,f2⟩:=hS1.atV HI.out
 have hS2:=hS1.setX i x
 obtain⟨q3,f3⟩:=hS2.atV HI.out
 have HS2:=I (hS2.setY i y)
 clear hS1 hS2 hW1
 go_wp2_with fail
 go_region
 clear k5 k6 q1 q2 q3 f1 f2 f3
 obtain⟨W2,hW2⟩:∃W2,W2=((W1.setCell ⟨bx,i,ai⟩ (.int .u64 x)).setCell ⟨bY,i,ai⟩ (.int .u64 y)).drew:=⟨_,rfl⟩
 rw[←hW2]
 have HS3:=I (HS2.out.below (W':=W2) (by rw[hW2];exact(aj _ _).drew))
 clear hW2 HS2
 obtain⟨⟨is,at2,er⟩,hr⟩:∃r,r=bO nm wd ln ds bd (U.set i x) (V.set i y):=⟨_,rfl⟩
 have HK:=I (fun(g:G W2)=>show Calls aq 30 #[.agg #[.string nm,.int .i64 wd,.int .i64 ln,.slice A3 ds.length c3,.slice A4 bd.length c4],.slice (af ⟨bx,0,ai⟩) n cx,.slice (af ⟨bY,0,ai⟩) n cY] g.W fun e W'=>e=.returned (.tuple #[.bool is,.int .i64 at2,.int .i64 er])/\Below g.W.heap.size g.W W' from by
  have hs:=HS3.out.below g.below
  have h:=j6 nm wd ln ds bd A3 c3 A4 c4 g.W (HP.out.1.below hs.low) HP.out.2.1 (U.set i x) (V.set i y) (af ⟨bx,0,ai⟩) (af ⟨bY,0,ai⟩) cx cY hs.rx.words hs.ry.words HP.out.2.2.1 HP.out.2.2.2 _ hr
  rw[hs.u,hs.v]at h
  exact h)
 have HR:=I hr
 have p0:∀g:G W2,g.W.cell? ⟨kb,0,ai⟩=af (.string nm):=fun g=>(aA (aB HS3.out.k g.below) 0).trans rfl
 have p1:∀g:G W2,g.W.cell? ⟨kb,1,ai⟩=af (.int .i64 wd):=fun g=>(aA (aB HS3.out.k g.below) 1).trans rfl
 have p2:∀g:G W2,g.W.cell? ⟨kb,2,ai⟩=af (.int .i64 ln):=fun g=>(aA (aB HS3.out.k g.below) 2).trans rfl
 have p3:∀g:G W2,g.W.cell? ⟨kb,3,ai⟩=af (.slice A3 ds.length c3):=fun g=>(aA (aB HS3.out.k g.below) 3).trans rfl
 have p4:∀g:G W2,g.W.cell? ⟨kb,4,ai⟩=af (.slice A4 bd.length c4):=fun g=>(aA (aB HS3.out.k g.below) 4).trans rfl
 have p5:∀g:G W2,g.W.cell? ⟨kb,5,ai⟩=af (.slice (af ⟨bx,0,ai⟩) n cx):=fun g=>(aA (aB HS3.out.k g.below) 5).trans rfl
 have p6:∀g:G W2,g.W.cell? ⟨kb,6,ai⟩=af (.slice (af ⟨bY,0,ai⟩) n cY):=fun g=>(aA (aB HS3.out.k g.below) 6).trans rfl
 clear hr
 go_wp2_with fail
 refine aG ?_
 intro gg
 refine bF (by kernel_rfl) (by kernel_rfl) ?_
 repeat(go_big_quiet_step (first | (go_at_call 30;exact aD (HK.out _))))
 refine wpQuiet_nil ?_
 rintro _ ⟨gg,rfl⟩
 have HS4:=I (HS3.out.below gg.below)
 clear p0 p1 p2 p3 p4 p5 p6
 cases is with
 |true=>
  have HE:=I (show kV (bO nm wd ln ds bd) ⟨U,V,a⟩ (U.set i x) (V.set i y)=⟨U.set i x,V.set i y,at2⟩ from by unfold kV;rw[←HR.out];rfl)
  go_wp2_with fail
  go_end0
  rw[HE.out]
  exact⟨rfl,HS4.out⟩
 |false=>
  have HE:=I (show kV (bO nm wd ln ds bd) ⟨U,V,a⟩ (U.set i x) (V.set i y)=⟨U,V,a⟩ from by unfold kV;rw[←HR.out];rfl)
  go_wp2_with fail
  generalize gg.W=W3 at HS4 ⊢
  obtain⟨k5,k6⟩:=HS4.out.at5
  obtain⟨q1,f1⟩:=HS4.out.atU HI.out
  obtain⟨q2,f2⟩:=HS4.out.atV HI.out
  have hS5:=HS4.out.setX i u
  obtain⟨q3,f3⟩:=hS5.atV HI.out
  have HS6:=I (show Rs nm wd ln ds bd A3 c3 A4 c4 P0 kb n bx cx bY cY U V _ from by
   have h:=hS5.setY i v
   rw[HU.out.1,set_back,HU.out.2,set_back]at h
   rw[←HU.out.1,←HU.out.2]at h
   exact h)
  clear hS5
  have hi1:(i:Int)<(n:Int):=by have:=HI.out;omega
  go_region
  go_wp2_with fail
  go_end0
  rw[HE.out]
  exact⟨rfl,HS6.out.below ((aj _ _).drew)⟩
end
end
section
set_option maxRecDepth 100000
section
variable {nm:ByteArray}{wd ln:Int}{ds:List S70}{bd:List S119}{A3:Option Addr}{c3:Nat}{A4:Option Addr}{c4:Nat}{P0:World}{kb n bx cx bY cY:Nat}{W W':World}{F:List Int->List Int->Bool × Int × Int}{s:S3}
theorem oR (hp:ProgAt P0 ds bd A3 c3 A4 c4)(hg:PGood nm wd ln ds bd)(hF:F=bO nm wd ln ds bd)(hS:Rs nm wd ln ds bd A3 c3 A4 c4 P0 kb n bx cx bY cY s.u s.v W)(hn:n<=65536){i:Nat}(hi:i<n){x y:Int}{U V:List Int}(hU:s.u.set i x=U)(hV:s.v.set i y=V)(uu:∀v∈U,U64 v)(uv:∀v∈V,U64 v):
 Calls aq 97 #[.pointer (af ⟨kb,0,ai⟩),.int .i64 i,.int .u64 x,.int .u64 y] W fun e W'=>e=.returned (.tuple #[])/\Rs nm wd ln ds bd A3 c3 A4 c4 P0 kb n bx cx bY cY (kV F s U V).u (kV F s U V).v W':=by
 subst hF hU hV
 exact rtry_calls hp hg hS hn hi x y uu uv s.a
theorem rbit_calls (hp:ProgAt P0 ds bd A3 c3 A4 c4)(hg:PGood nm wd ln ds bd)(hF:F=bO nm wd ln ds bd)(hS:Rs nm wd ln ds bd A3 c3 A4 c4 P0 kb n bx cx bY cY s.u s.v W)(hgs:GS F n s)(hn:n<=65536){i j:Nat}(hi:i<n)(hj:j<64){p:Int}(hpj:p=((2 ^ j:Nat):Int)):
 Calls aq 98 #[.pointer (af ⟨kb,0,ai⟩),.int .i64 i,.int .u64 p] W fun e W'=>e=.returned (.tuple #[])/\Rs nm wd ln ds bd A3 c3 A4 c4 P0 kb n bx cx bY cY (bitS F i p s).u (bitS F i p s).v W':=by
 have HP:=I (ae hp (ae hg hF))
 have HS:=I (ae hS hgs)
 have hi1:(i:Int)<(n:Int):=by omega
 obtain⟨k5,k6⟩:=hS.at5
 obtain⟨q1,f1⟩:=hS.atU hi
 obtain⟨q2,f2⟩:=hS.atV hi
 have HI:=I hi
 have hu64:=eL hgs.uu i
 have hb1:=fun h=>andNot_bit hu64 hj (h:¬Go.bits .and .u64 (s.u.getD i 0) ((2 ^ j:Nat):Int)=0)
 rw[←hpj]at hb1
 obtain⟨u,hu⟩:∃u,u=s.u.getD i 0:=⟨_,rfl⟩
 obtain⟨v,hv⟩:∃v,v=s.v.getD i 0:=⟨_,rfl⟩
 rw[←hu]at q1 hu64 hb1
 rw[←hv]at q2
 have HE:=I (show(Go.bits .and .u64 u p=0->bitU F i p s=s)/\(¬Go.bits .and .u64 u p=0->bitU F i p s=kV F s (s.u.set i (Go.bits .andNot .u64 u p)) s.v) from by
  unfold bitU
  rw[←hu]
  exact⟨fun h=>by rw[if_pos h],fun h=>by rw[if_neg h]⟩)
 have HU:=I (ae hu hv)
 obtain⟨z,hz⟩:∃z,z=Go.bits .and .u64 u p:=⟨_,rfl⟩
 rw[←hz]at hb1 HE
 have e4:=hz.symm
 have HPJ:=I (ae hpj hj)
 have HB1:=I hb1
 have HU64:=I hu64
 clear hp hg hF hS hgs hi hj hpj hu hv hu64 hb1 hz
 go_enter Tryz.func98,Tryz.ntmps98
 rcases aL (z==0)with hz | hz
 focus
  have HEZ:=I (HE.out.1 (beq_iff_eq.1 hz))
  go_upto_region 2 with (fail)
  obtain⟨s5,hs5⟩:∃x,x=s:=⟨_,rfl⟩
  obtain⟨w2,hw2⟩:∃x,x=W:=⟨_,rfl⟩
  rw[←hw2]
  have HS5:Aside0 (Rs nm wd ln ds bd A3 c3 A4 c4 P0 kb n bx cx bY cY s5.u s5.v w2/\GS F n s5/\s5=bitU F i p s):=⟨by rw[hs5,hw2];exact HS.out.1,by rw[hs5];exact HS.out.2,by rw[HEZ.out,hs5]⟩
  clear hs5 hw2 hz k5 k6 q1 q2 f1 f2 e4
 rotate_left
 focus
  have hz':¬z=0:=fun h=>by rw[beq_iff_eq.2 h]at hz;exact absurd hz (by decide)
  have HEZ:=I (HE.out.2 hz')
  go_wp2_with fail
  clear k5 k6 q1 q2 f1 f2
  have p5:∀g:G W,g.W.cell? ⟨kb,5,ai⟩=af (.slice (af ⟨bx,0,ai⟩) n cx):=fun g=>(HS.out.1.below g.below).at5.1
  have p6:∀g:G W,g.W.cell? ⟨kb,6,ai⟩=af (.slice (af ⟨bY,0,ai⟩) n cY):=fun g=>(HS.out.1.below g.below).at5.2
  have p7:∀g:G W,g.W.cell? ⟨bx,i,ai⟩=af (.int .u64 u):=fun g=>by rw[HU.out.1];exact((HS.out.1.below g.below).atU HI.out).1
  have p8:∀g:G W,g.W.cell? ⟨bY,i,ai⟩=af (.int .u64 v):=fun g=>by rw[HU.out.2];exact((HS.out.1.below g.below).atV HI.out).1
  have hw:=HB1.out hz'
  have es:IntKind.u64.wrap (u - p)=u - p:=by
   have h1:=HU64.out
   have h2:=hw.2
   have h3:0<=p:=by rw[HPJ.out.1];exact bg _
   rw[o7];omega
  clear hw
  refine aG ?_
  intro gg
  refine eZ (n:=19) (S:=fun w'=>∃g':G _,w'=g'.W) (ds:=[18]) #[J,J,J,J,J,J,J,J,J,J,J,J,J,J,J,J,J,J,J] (by kernel_rfl) rfl rfl ⟨mkG (gg.2.drew),rfl⟩ (fun hHeld=> ?_)
  obtain⟨gd,hgd⟩:=hHeld
  rw[hgd]
  clear hgd
  refine aQ (i:=0) (N:=af 16) (v:= ?_) (a':= ?_) #[ac,J,J,J,J,J,J,J,J,J,J,J,J,J,J,J,J,J,J] rfl rfl (by kernel_rfl) (fun _ _ _ h=>h) (az ⟨by rfl,?_⟩) ?_ ?_
  rotate_left
  ·intro w'
   go_simp
   with_reducible rfl
  rotate_left
  ·simp only[au,aa,ag,ah,aJ,aK]
   rfl
  refine aQ (i:=1) (N:=af 17) (v:= ?_) (a':= ?_) #[ac,ac,J,J,J,J,J,J,J,J,J,J,J,J,J,J,J,J,J] rfl rfl (by kernel_rfl) (fun _ _ _ h=>h) (az ⟨by rfl,?_⟩) ?_ ?_
  rotate_left
  ·intro w'
   go_simp
   with_reducible rfl
  rotate_left
  ·simp only[au,aa,ag,ah,aJ,aK]
   rfl
  refine aQ (i:=2) (N:=af 18) (v:= ?_) (a':= ?_) #[ac,ac,ac,J,J,J,J,J,J,J,J,J,J,J,J,J,J,J,J] rfl rfl (by kernel_rfl) (fun _ _ _ h=>h) (az ⟨by rfl,?_⟩) ?_ ?_
  rotate_left
  ·intro w'
   go_simp
   with_reducible rfl
  rotate_left
  ·simp only[au,aa,ag,ah,aJ,aK]
   rfl
  refine aQ (i:=3) (N:=af 19) (v:= ?_) (a':= ?_) #[ac,ac,ac,ac,J,J,J,J,J,J,J,J,J,J,J,J,J,J,J] rfl rfl (by kernel_rfl) (fun _ _ _ h=>h) (az ⟨by rfl,?_⟩) ?_ ?_
  rotate_left
  ·intro w'
   go_simp
   with_reducible rfl
  rotate_left
  ·simp only[au,aa,ag,ah,aJ,aK]
   rfl
  refine aQ (i:=4) (N:=af 20) (v:= ?_) (a':= ?_) #[ac,ac,ac,ac,ac,J,J,J,J,J,J,J,J,J,J,J,J,J,J] rfl rfl (by kernel_rfl) (fun _ _ _ h=>h) (az ⟨by rfl,?_⟩) ?_ ?_
  rotate_left
  ·intro w'
   go_simp
   with_reducible rfl
  rotate_left
  ·simp only[au,aa,ag,ah,aJ,aK]
   rfl
  refine cM (i:=5) (N:=af 21) (v:= ?_) (a':= ?_) #[ac,ac,ac,ac,ac,ac,J,J,J,J,J,J,J,J,J,J,J,J,J] rfl rfl (by kernel_rfl) (fun _ _ _ h=>h) (az ⟨by rfl,?_⟩) ⟨gd,rfl⟩ ?_ ?_
  rotate_left
  ·rintro w' ⟨g',rfl⟩
   go_simp
   with_reducible rfl
  rotate_left
  ·simp only[au,aa,ag,ah,aJ,aK]
   rfl
  refine aQ (i:=6) (N:=af 22) (v:= ?_) (a':= ?_) #[ac,ac,ac,ac,ac,ac,ac,J,J,J,J,J,J,J,J,J,J,J,J] rfl rfl (by kernel_rfl) (fun _ _ _ h=>h) (az ⟨by rfl,?_⟩) ?_ ?_
  rotate_left
  ·intro w'
   go_simp
   with_reducible rfl
  rotate_left
  ·simp only[au,aa,ag,ah,aJ,aK]
   rfl
  refine aQ (i:=7) (N:=af 23) (v:= ?_) (a':= ?_) #[ac,ac,ac,ac,ac,ac,ac,ac,J,J,J,J,J,J,J,J,J,J,J] rfl rfl (by kernel_rfl) (fun _ _ _ h=>h) (az ⟨by rfl,?_⟩) ?_ ?_
  rotate_left
  ·intro w'
   go_simp
   with_reducible rfl
  rotate_left
  ·simp only[au,aa,ag,ah,aJ,aK]
   rfl
  refine cM (i:=8) (N:=af 24) (v:= ?_) (a':= ?_) #[ac,ac,ac,ac,ac,ac,ac,ac,ac,J,J,J,J,J,J,J,J,J,J] rfl rfl (by kernel_rfl) (fun _ _ _ h=>h) (az ⟨by rfl,?_⟩) ⟨gd,rfl⟩ ?_ ?_
  rotate_left
  ·rintro w' ⟨g',rfl⟩
   go_simp
   with_reducible rfl
  rotate_left
  ·simp only[au,aa,ag,ah,aJ,aK]
   rfl
  refine aQ (i:=9) (N:=af 25) (v:= ?_) (a':= ?_) #[ac,ac,ac,ac,ac,ac,ac,ac,ac,ac,J,J,J,J,J,J,J,J,J] rfl rfl (by kernel_rfl) (fun _ _ _ h=>h) (az ⟨by rfl,?_⟩) ?_ ?_
  rotate_left
  ·intro w'
   go_simp
   with_reducible rfl
  rotate_left
  ·simp only[au,aa,ag,ah,aJ,aK]
   rfl
  refine aQ (i:=10) (N:=af 26) (v:= ?_) (a':= ?_) #[ac,ac,ac,ac,ac,ac,ac,ac,ac,ac,ac,J,J,J,J,J,J,J,J] rfl rfl (by kernel_rfl) (fun _ _ _ h=>h) (az ⟨by rfl,?_⟩) ?_ ?_
  rotate_left
  ·intro w'
   go_simp
   with_reducible rfl
  rotate_left
  ·simp only[au,aa,ag,ah,aJ,aK]
   rfl
  refine aQ (i:=11) (N:=af 27) (v:= ?_) (a':= ?_) #[ac,ac,ac,ac,ac,ac,ac,ac,ac,ac,ac,ac,J,J,J,J,J,J,J] rfl rfl (by kernel_rfl) (fun _ _ _ h=>h) (az ⟨by rfl,?_⟩) ?_ ?_
  rotate_left
  ·intro w'
   go_simp
   with_reducible rfl
  rotate_left
  ·simp only[au,aa,ag,ah,aJ,aK]
   rfl
  refine aQ (i:=12) (N:=af 28) (v:= ?_) (a':= ?_) #[ac,ac,ac,ac,ac,ac,ac,ac,ac,ac,ac,ac,ac,J,J,J,J,J,J] rfl rfl (by kernel_rfl) (fun _ _ _ h=>h) (az ⟨by rfl,?_⟩) ?_ ?_
  rotate_left
  ·intro w'
   go_simp
   with_reducible rfl
  rotate_left
  ·simp only[au,aa,ag,ah,aJ,aK]
   rfl
  refine aQ (i:=13) (N:=af 29) (v:= ?_) (a':= ?_) #[ac,ac,ac,ac,ac,ac,ac,ac,ac,ac,ac,ac,ac,ac,J,J,J,J,J] rfl rfl (by kernel_rfl) (fun _ _ _ h=>h) (az ⟨by rfl,?_⟩) ?_ ?_
  rotate_left
  ·intro w'
   go_simp
   with_reducible rfl
  rotate_left
  ·simp only[au,aa,ag,ah,aJ,aK]
   rfl
  refine cM (i:=14) (N:=af 30) (v:= ?_) (a':= ?_) #[ac,ac,ac,ac,ac,ac,ac,ac,ac,ac,ac,ac,ac,ac,ac,J,J,J,J] rfl rfl (by kernel_rfl) (fun _ _ _ h=>h) (az ⟨by rfl,?_⟩) ⟨gd,rfl⟩ ?_ ?_
  rotate_left
  ·rintro w' ⟨g',rfl⟩
   go_simp
   with_reducible rfl
  rotate_left
  ·simp only[au,aa,ag,ah,aJ,aK]
   rfl
  refine aQ (i:=15) (N:=af 31) (v:= ?_) (a':= ?_) #[ac,ac,ac,ac,ac,ac,ac,ac,ac,ac,ac,ac,ac,ac,ac,ac,J,J,J] rfl rfl (by kernel_rfl) (fun _ _ _ h=>h) (az ⟨by rfl,?_⟩) ?_ ?_
  rotate_left
  ·intro w'
   go_simp
   with_reducible rfl
  rotate_left
  ·simp only[au,aa,ag,ah,aJ,aK]
   rfl
  refine aQ (i:=16) (N:=af 32) (v:= ?_) (a':= ?_) #[ac,ac,ac,ac,ac,ac,ac,ac,ac,ac,ac,ac,ac,ac,ac,ac,ac,J,J] rfl rfl (by kernel_rfl) (fun _ _ _ h=>h) (az ⟨by rfl,?_⟩) ?_ ?_
  rotate_left
  ·intro w'
   go_simp
   with_reducible rfl
  rotate_left
  ·simp only[au,aa,ag,ah,aJ,aK]
   rfl
  refine cM (i:=17) (N:=af 33) (v:= ?_) (a':= ?_) #[ac,ac,ac,ac,ac,ac,ac,ac,ac,ac,ac,ac,ac,ac,ac,ac,ac,ac,J] rfl rfl (by kernel_rfl) (fun _ _ _ h=>h) (az ⟨by rfl,?_⟩) ⟨gd,rfl⟩ ?_ ?_
  rotate_left
  ·rintro w' ⟨g',rfl⟩
   go_simp
   with_reducible rfl
  rotate_left
  ·simp only[au,aa,ag,ah,aJ,aK]
   rfl
  refine lU (i:=18) (N:=af 34) #[ac,ac,ac,ac,ac,ac,ac,ac,ac,ac,ac,ac,ac,ac,ac,ac,ac,ac,ac] rfl rfl (by kernel_rfl) (by simp) (fun Kr hKr=> ?_)
  refine gQ Tryz.func97 (by kernel_rfl) rfl #[.pointer (af ⟨kb,0,ai⟩),.int .i64 i,.int .u64 (u - p),.int .u64 v] (by rfl) rfl rfl (by(try simp only[bq,cd,cn]);first | done | rfl) ?_
  refine(oR HP.out.1 HP.out.2.1 HP.out.2.2 (HS.out.1.below gd.below) hn HI.out (U:=s.u.set i (Go.bits .andNot .u64 u p)) (V:=s.v) (by rw[(HB1.out hz').1]) (by rw[HU.out.2];exact nU _ _) (eY HS.out.2.uu i (fK _ _)) HS.out.2.vv).mono ?_
  rintro _ w9 ⟨rfl,hT⟩
  refine⟨_,rfl,?_⟩
  have HT:=I hT
  clear hT
  refine hKr.out _ _ ?_
  clear hKr Kr
  refine cN (a':= ?_) ?_ ?_
  rotate_left
  ·show au _ (af 34) _ = _
   simp only[au,aa,ag,ah,aJ,aK]
   rfl
  refine iQ (by kernel_rfl) ?_
  clear p5 p6 p7 p8 es hz
  go_upto_region 2 with (fail)
  obtain⟨s5,hs5⟩:∃x,x=kV F s (s.u.set i (Go.bits .andNot .u64 u p)) s.v:=⟨_,rfl⟩
  have hg5:=HS.out.2.setU i (fK u p)
  obtain⟨w2,hw2⟩:∃x,x=w9:=⟨_,rfl⟩
  rw[←hw2]
  have HS5:Aside0 (Rs nm wd ln ds bd A3 c3 A4 c4 P0 kb n bx cx bY cY s5.u s5.v w2/\GS F n s5/\s5=bitU F i p s):=⟨by rw[hs5,hw2];exact HT.out,by rw[hs5];exact hg5,by rw[HEZ.out,hs5]⟩
  clear hs5 hw2 hg5 HT e4
 all_goals
  obtain⟨k5,k6⟩:=HS5.out.1.at5
  obtain⟨q2,f2⟩:=HS5.out.1.atV HI.out
  have hv64:=eL HS5.out.2.1.vv i
  have hb1:=fun h=>andNot_bit hv64 HPJ.out.2 (h:¬Go.bits .and .u64 (s5.v.getD i 0) ((2 ^ j:Nat):Int)=0)
  rw[←HPJ.out.1]at hb1
  clear HU HU64 HB1 HE HEZ
  obtain⟨u,hu⟩:∃u,u=s5.u.getD i 0:=⟨_,rfl⟩
  obtain⟨v,hv⟩:∃v,v=s5.v.getD i 0:=⟨_,rfl⟩
  rw[←hv]at q2 hv64 hb1
  have HE5:=I (show(Go.bits .and .u64 v p=0->bitS F i p s=s5)/\(¬Go.bits .and .u64 v p=0->bitS F i p s=kV F s5 s5.u (s5.v.set i (Go.bits .andNot .u64 v p))) from by
   unfold bitS
   rw[←HS5.out.2.2]
   unfold bitV
   rw[←hv]
   exact⟨fun h=>by rw[if_pos h],fun h=>by rw[if_neg h]⟩)
  have HU5:=I (ae hu hv)
  obtain⟨z,hz⟩:∃z,z=Go.bits .and .u64 v p:=⟨_,rfl⟩
  rw[←hz]at hb1 HE5
  have e4:=hz.symm
  have HB5:=I hb1
  have HV64:=I hv64
  clear hu hv hv64 hb1 hz
  have hi1:(i:Int)<(n:Int):=by have:=HI.out;omega
  rcases aL (z==0)with hz | hz
  ·go_wp2_with fail
   go_end0
   rw[HE5.out.1 (beq_iff_eq.1 hz)]
   exact⟨rfl,HS5.out.1⟩
  ·have hz':¬z=0:=fun h=>by rw[beq_iff_eq.2 h]at hz;exact absurd hz (by decide)
   go_wp2_with fail
   clear k5 k6 q2 f2
   have p5:∀g:G w2,g.W.cell? ⟨kb,5,ai⟩=af (.slice (af ⟨bx,0,ai⟩) n cx):=fun g=>(HS5.out.1.below g.below).at5.1
   have p6:∀g:G w2,g.W.cell? ⟨kb,6,ai⟩=af (.slice (af ⟨bY,0,ai⟩) n cY):=fun g=>(HS5.out.1.below g.below).at5.2
   have p7:∀g:G w2,g.W.cell? ⟨bx,i,ai⟩=af (.int .u64 u):=fun g=>by rw[HU5.out.1];exact((HS5.out.1.below g.below).atU HI.out).1
   have p8:∀g:G w2,g.W.cell? ⟨bY,i,ai⟩=af (.int .u64 v):=fun g=>by rw[HU5.out.2];exact((HS5.out.1.below g.below).atV HI.out).1
   have hw:=HB5.out hz'
   have es:IntKind.u64.wrap (v - p)=v - p:=by
    have h1:=HV64.out
    have h2:=hw.2
    have h3:0<=p:=by rw[HPJ.out.1];exact bg _
    rw[o7];omega
   clear hw
   refine aG ?_
   intro gg
   refine eZ (n:=19) (S:=fun w'=>∃g':G _,w'=g'.W) (ds:=[18]) #[J,J,J,J,J,J,J,J,J,J,J,J,J,J,J,J,J,J,J] (by kernel_rfl) rfl rfl ⟨mkG (gg.2.drew),rfl⟩ (fun hHeld=> ?_)
   obtain⟨gd,hgd⟩:=hHeld
   rw[hgd]
   clear hgd
   refine aQ (i:=0) (N:=af 45) (v:= ?_) (a':= ?_) #[ac,J,J,J,J,J,J,J,J,J,J,J,J,J,J,J,J,J,J] rfl rfl (by kernel_rfl) (fun _ _ _ h=>h) (az ⟨by rfl,?_⟩) ?_ ?_
   rotate_left
   ·intro w'
    go_simp
    with_reducible rfl
   rotate_left
   ·simp only[au,aa,ag,ah,aJ,aK]
    rfl
   refine aQ (i:=1) (N:=af 46) (v:= ?_) (a':= ?_) #[ac,ac,J,J,J,J,J,J,J,J,J,J,J,J,J,J,J,J,J] rfl rfl (by kernel_rfl) (fun _ _ _ h=>h) (az ⟨by rfl,?_⟩) ?_ ?_
   rotate_left
   ·intro w'
    go_simp
    with_reducible rfl
   rotate_left
   ·simp only[au,aa,ag,ah,aJ,aK]
    rfl
   refine aQ (i:=2) (N:=af 47) (v:= ?_) (a':= ?_) #[ac,ac,ac,J,J,J,J,J,J,J,J,J,J,J,J,J,J,J,J] rfl rfl (by kernel_rfl) (fun _ _ _ h=>h) (az ⟨by rfl,?_⟩) ?_ ?_
   rotate_left
   ·intro w'
    go_simp
    with_reducible rfl
   rotate_left
   ·simp only[au,aa,ag,ah,aJ,aK]
    rfl
   refine aQ (i:=3) (N:=af 48) (v:= ?_) (a':= ?_) #[ac,ac,ac,ac,J,J,J,J,J,J,J,J,J,J,J,J,J,J,J] rfl rfl (by kernel_rfl) (fun _ _ _ h=>h) (az ⟨by rfl,?_⟩) ?_ ?_
   rotate_left
   ·intro w'
    go_simp
    with_reducible rfl
   rotate_left
   ·simp only[au,aa,ag,ah,aJ,aK]
    rfl
   refine aQ (i:=4) (N:=af 49) (v:= ?_) (a':= ?_) #[ac,ac,ac,ac,ac,J,J,J,J,J,J,J,J,J,J,J,J,J,J] rfl rfl (by kernel_rfl) (fun _ _ _ h=>h) (az ⟨by rfl,?_⟩) ?_ ?_
   rotate_left
   ·intro w'
    go_simp
    with_reducible rfl
   rotate_left
   ·simp only[au,aa,ag,ah,aJ,aK]
    rfl
   refine cM (i:=5) (N:=af 50) (v:= ?_) (a':= ?_) #[ac,ac,ac,ac,ac,ac,J,J,J,J,J,J,J,J,J,J,J,J,J] rfl rfl (by kernel_rfl) (fun _ _ _ h=>h) (az ⟨by rfl,?_⟩) ⟨gd,rfl⟩ ?_ ?_
   rotate_left
   ·rintro w' ⟨g',rfl⟩
    go_simp
    with_reducible rfl
   rotate_left
   ·simp only[au,aa,ag,ah,aJ,aK]
    rfl
   refine aQ (i:=6) (N:=af 51) (v:= ?_) (a':= ?_) #[ac,ac,ac,ac,ac,ac,ac,J,J,J,J,J,J,J,J,J,J,J,J] rfl rfl (by kernel_rfl) (fun _ _ _ h=>h) (az ⟨by rfl,?_⟩) ?_ ?_
   rotate_left
   ·intro w'
    go_simp
    with_reducible rfl
   rotate_left
   ·simp only[au,aa,ag,ah,aJ,aK]
    rfl
   refine aQ (i:=7) (N:=af 52) (v:= ?_) (a':= ?_) #[ac,ac,ac,ac,ac,ac,ac,ac,J,J,J,J,J,J,J,J,J,J,J] rfl rfl (by kernel_rfl) (fun _ _ _ h=>h) (az ⟨by rfl,?_⟩) ?_ ?_
   rotate_left
   ·intro w'
    go_simp
    with_reducible rfl
   rotate_left
   ·simp only[au,aa,ag,ah,aJ,aK]
    rfl
   refine cM (i:=8) (N:=af 53) (v:= ?_) (a':= ?_) #[ac,ac,ac,ac,ac,ac,ac,ac,ac,J,J,J,J,J,J,J,J,J,J] rfl rfl (by kernel_rfl) (fun _ _ _ h=>h) (az ⟨by rfl,?_⟩) ⟨gd,rfl⟩ ?_ ?_
   rotate_left
   ·rintro w' ⟨g',rfl⟩
    go_simp
    with_reducible rfl
   rotate_left
   ·simp only[au,aa,ag,ah,aJ,aK]
    rfl
   refine aQ (i:=9) (N:=af 54) (v:= ?_) (a':= ?_) #[ac,ac,ac,ac,ac,ac,ac,ac,ac,ac,J,J,J,J,J,J,J,J,J] rfl rfl (by kernel_rfl) (fun _ _ _ h=>h) (az ⟨by rfl,?_⟩) ?_ ?_
   rotate_left
   ·intro w'
    go_simp
    with_reducible rfl
   rotate_left
   ·simp only[au,aa,ag,ah,aJ,aK]
    rfl
   refine aQ (i:=10) (N:=af 55) (v:= ?_) (a':= ?_) #[ac,ac,ac,ac,ac,ac,ac,ac,ac,ac,ac,J,J,J,J,J,J,J,J] rfl rfl (by kernel_rfl) (fun _ _ _ h=>h) (az ⟨by rfl,?_⟩) ?_ ?_
   rotate_left
   ·intro w'
    go_simp
    with_reducible rfl
   rotate_left
   ·simp only[au,aa,ag,ah,aJ,aK]
    rfl
   refine aQ (i:=11) (N:=af 56) (v:= ?_) (a':= ?_) #[ac,ac,ac,ac,ac,ac,ac,ac,ac,ac,ac,ac,J,J,J,J,J,J,J] rfl rfl (by kernel_rfl) (fun _ _ _ h=>h) (az ⟨by rfl,?_⟩) ?_ ?_
   rotate_left
   ·intro w'
    go_simp
    with_reducible rfl
   rotate_left
   ·simp only[au,aa,ag,ah,aJ,aK]
    rfl
   refine cM (i:=12) (N:=af 57) (v:= ?_) (a':= ?_) #[ac,ac,ac,ac,ac,ac,ac,ac,ac,ac,ac,ac,ac,J,J,J,J,J,J] rfl rfl (by kernel_rfl) (fun _ _ _ h=>h) (az ⟨by rfl,?_⟩) ⟨gd,rfl⟩ ?_ ?_
   rotate_left
   ·rintro w' ⟨g',rfl⟩
    go_simp
    with_reducible rfl
   rotate_left
   ·simp only[au,aa,ag,ah,aJ,aK]
    rfl
   refine aQ (i:=13) (N:=af 58) (v:= ?_) (a':= ?_) #[ac,ac,ac,ac,ac,ac,ac,ac,ac,ac,ac,ac,ac,ac,J,J,J,J,J] rfl rfl (by kernel_rfl) (fun _ _ _ h=>h) (az ⟨by rfl,?_⟩) ?_ ?_
   rotate_left
   ·intro w'
    go_simp
    with_reducible rfl
   rotate_left
   ·simp only[au,aa,ag,ah,aJ,aK]
    rfl
   refine aQ (i:=14) (N:=af 59) (v:= ?_) (a':= ?_) #[ac,ac,ac,ac,ac,ac,ac,ac,ac,ac,ac,ac,ac,ac,ac,J,J,J,J] rfl rfl (by kernel_rfl) (fun _ _ _ h=>h) (az ⟨by rfl,?_⟩) ?_ ?_
   rotate_left
   ·intro w'
    go_simp
    with_reducible rfl
   rotate_left
   ·simp only[au,aa,ag,ah,aJ,aK]
    rfl
   refine cM (i:=15) (N:=af 60) (v:= ?_) (a':= ?_) #[ac,ac,ac,ac,ac,ac,ac,ac,ac,ac,ac,ac,ac,ac,ac,ac,J,J,J] rfl rfl (by kernel_rfl) (fun _ _ _ h=>h) (az ⟨by rfl,?_⟩) ⟨gd,rfl⟩ ?_ ?_
   rotate_left
   ·rintro w' ⟨g',rfl⟩
    go_simp
    with_reducible rfl
   rotate_left
   ·simp only[au,aa,ag,ah,aJ,aK]
    rfl
   refine aQ (i:=16) (N:=af 61) (v:= ?_) (a':= ?_) #[ac,ac,ac,ac,ac,ac,ac,ac,ac,ac,ac,ac,ac,ac,ac,ac,ac,J,J] rfl rfl (by kernel_rfl) (fun _ _ _ h=>h) (az ⟨by rfl,?_⟩) ?_ ?_
   rotate_left
   ·intro w'
    go_simp
    with_reducible rfl
   rotate_left
   ·simp only[au,aa,ag,ah,aJ,aK]
    rfl
   refine aQ (i:=17) (N:=af 62) (v:= ?_) (a':= ?_) #[ac,ac,ac,ac,ac,ac,ac,ac,ac,ac,ac,ac,ac,ac,ac,ac,ac,ac,J] rfl rfl (by kernel_rfl) (fun _ _ _ h=>h) (az ⟨by rfl,?_⟩) ?_ ?_
   rotate_left
   ·intro w'
    go_simp
    with_reducible rfl
   rotate_left
   ·simp only[au,aa,ag,ah,aJ,aK]
    rfl
   refine lU (i:=18) (N:=af 63) #[ac,ac,ac,ac,ac,ac,ac,ac,ac,ac,ac,ac,ac,ac,ac,ac,ac,ac,ac] rfl rfl (by kernel_rfl) (by simp) (fun Kr hKr=> ?_)
   refine gQ Tryz.func97 (by kernel_rfl) rfl #[.pointer (af ⟨kb,0,ai⟩),.int .i64 i,.int .u64 u,.int .u64 (v - p)] (by rfl) rfl rfl (by(try simp only[bq,cd,cn]);first | done | rfl) ?_
   refine(oR HP.out.1 HP.out.2.1 HP.out.2.2 (HS5.out.1.below gd.below) hn HI.out (U:=s5.u) (V:=s5.v.set i (Go.bits .andNot .u64 v p)) (by rw[HU5.out.1];exact nU _ _) (by rw[(HB5.out hz').1]) HS5.out.2.1.uu (eY HS5.out.2.1.vv i (fK _ _))).mono ?_
   rintro _ w9 ⟨rfl,hT⟩
   refine⟨_,rfl,?_⟩
   have HT:=I hT
   clear hT
   refine hKr.out _ _ ?_
   clear hKr Kr
   refine cN (a':= ?_) ?_ ?_
   rotate_left
   ·show au _ (af 63) _ = _
    simp only[au,aa,ag,ah,aJ,aK]
    rfl
   refine iQ (by kernel_rfl) ?_
   go_wp2_with fail
   go_end0
   rw[HE5.out.2 hz']
   exact⟨rfl,HT.out⟩
end
end
end Go.Proofs.YtfigjpehecibeaaGreat.L
