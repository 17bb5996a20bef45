/- Texts joined by a program of mine: Wx Wy Wl Lr Wf Wc Va Vb Vc Vd Ve. -/
import Derived.Deep.MidRow
import Derived.Defers
import Derived.Recover
import Derived.Laws.Pointers
import Derived.Test.YtfigjpehecibeaaGreatZi2
set_option maxRecDepth 100000
open And renaming intro -> aq
open Bool renaming false -> O, true -> ac, and_eq_true -> dg
open Go.Act renaming put -> ay
open Go.Oper renaming wp -> fq
open Go.Proofs.Tryz renaming prog -> au
open Go.Proofs.YtfigjpehecibeaaGreatW.PrintWords.Aside0 renaming mk -> J
open Go.Region renaming wanted -> ct
open Go.RowKit.Below renaming refl -> ak, heap_alloc -> dr, heap_setCell -> cy
open Go.Value renaming ownBlock -> dm
open Go.World renaming block_lt_of_cell? -> ah, setCell -> fo
open Int renaming natCast_nonneg -> bc, toNat_natCast -> ax
open List renaming setIfInBounds_toArray -> aa, set_cons_zero -> af, set_cons_succ -> ag, map_toArray -> cd, map_cons -> cq, map_nil -> dc, map_append -> cw, length_append -> ar, length_singleton -> az, append_assoc -> bh, take_length -> df, mem_cons -> cg, cons_append -> fc, sizeOf_lt_of_mem -> fe, range -> cr, drop_eq_nil_of_le -> gr, getD_eq_getElem?_getD -> aw, drop_eq_getElem_cons -> dw, getElem_mem -> dz, getElem?_eq_getElem -> av, any_cons -> gm, mem_cons_self -> fz, any_append -> ed, isEmpty_iff -> dx, all_eq_true -> ew
open Nat renaming le_refl -> ai, le_trans -> bg, zero_le -> br, lt_of_lt_of_le -> ee, eq_zero_or_pos -> bu, lt_or_ge -> gh, mul_le_mul_right -> gn, not_lt_zero -> dn, add_zero -> fg, add_assoc -> db
open Option renaming none -> aj, some -> ae
open Or renaming inl -> bi
open SizeOf renaming sizeOf -> cu
set_option linter.unusedVariables false
set_option linter.unusedSimpArgs false
set_option maxHeartbeats 8000000
namespace Go.Proofs.YtfigjpehecibeaaGreat.L
open Go.RowKit Go.Proofs.YtfigjpehecibeaaGreatW.PrintWords Go.Proofs.YtfigjpehecibeaaGreatW.PrintLast Go.Proofs.YtfigjpehecibeaaGreatW.PrintMore Go.Proofs.YtfigjpehecibeaaGreat.Gr
section
attribute [local go_sem] G.cell
def zTh:Value:=.agg #[.int .i64 0,.int .i64 0,.int .i64 0,.string ⟨#[]⟩,.int .i64 0,.int .u64 0,.string ⟨#[]⟩,.slice aj 0 0,.int .i64 0,.int .u64 0,.string ⟨#[]⟩,.slice aj 0 0,.int .u64 0,.int .u64 0,.slice aj 0 0,.slice aj 0 0,.int .i64 0,.int .u64 0,.string ⟨#[]⟩,.slice aj 0 0,.int .i64 0,.slice aj 0 0]
theorem lK:(Tryz.prog.info? 125).map (fun i=>(i.zero,i.size,i.bytes))=ae (ae zTh,22,304):=by kernel_rfl
theorem iU:Tryz.prog.underlying 112=ae (.slice 125):=by kernel_rfl
theorem weight_pos (e:S116):0<aO e:=by obtain⟨a,b,s,l⟩:=e;rw[aO];omega
theorem Lo.below {W0 w w1:World}{v lv:Value}{lo:List ByteArray}(h:Lo W0 w v lv lo)(hb:Below w.heap.size w w1):Lo W0 w1 v lv lo:=Kd.dA h hb
theorem Li.lt {W0 w:World}{v:Value}{xs:List Th}(h:Li 125 W0 w v xs):∀k,v.ownBlock=ae k->k<w.heap.size:=by
 obtain⟨_,inner,ho,_⟩:=h;exact fun k hk=>own_lt ho k hk
theorem Gro.cell {W0 w w1:World}{v v1:Value}(h:Gro W0 w w1 v v1){a:Addr}(ha:a.block<w.heap.size)(hn:ae a.block≠v.ownBlock):w1.cell? a=w.cell? a:=World.cell?_of_block (w:=w) (h.grown.block a.block ha hn)
theorem jL {v:Value}{n:Nat}(h:∀k,v.ownBlock=ae k->k<n){m:Nat}(hm:n<=m):ae m≠v.ownBlock:=fun e=>by have:=h m e.symm;omega
def ExprsC (e:S116):Prop:=∀(W0 w:World) (v lv:Value) (xs:List Th) (lo:List ByteArray) (A:Option Addr) (c:Nat),Below W0.heap.size W0 w->cH.C W0 A e.f3.length e.f3->e.f3.length<=c->
 Li 125 W0 w v xs->Lo W0 w v lv lo->xs.length+aO e<=8388608->
 Calls au 173 #[v,.agg #[.int .i64 e.f0,.int .u64 e.f1,.string e.f2,.slice A e.f3.length c],lv] w fun r w'=>∃v1,r=.returned v1/\Li 125 W0 w' v1 (xs++bJ e lo)/\Gro W0 w w' v v1
theorem exprs_walk (e:S116)(ih:∀y∈e.f3,ExprsC y):ExprsC e:=by
 intro W0 w v lv xs lo A c hb hc hl HL HO hn;obtain⟨La,lc,rfl⟩:=Kd.dG HO;have IH:=J ih;have HC:=J hc;have HB:=J hb;have HLi:=J HL;have HLo:=J HO;have HN:=J hn;have hlm:=hc.2.1;clear ih hc hb HL HO hn;go_enter Tryz.func173,Tryz.ntmps173
 go_upto_region 1 with (fail)
 refine aG ?_;intro gg;have gout:=@gA w;refine gG (n:=9) (S:=fun w'=>∃g':G _,w'=g'.W) (ds:=[7]) #[O,O,O,O,O,O,O,O,O] (by kernel_rfl) rfl rfl ⟨mkG (gg.2.drew),rfl⟩ (fun hHeld=> ?_);obtain⟨gd,hgd⟩:=hHeld;rw[hgd];clear hgd;refine bN (i:=0) (N:=ae 8) (v:= ?_) (a':= ?_) #[ac,O,O,O,O,O,O,O,O] rfl rfl (by kernel_rfl) (fun _ _ _ h=>h) (bi ⟨by rfl,?_⟩) ?_ ?_;rotate_left
 ·intro w';go_simp;with_reducible rfl
 rotate_left
 ·simp only[ay,aa,af,ag,aQ,aP];rfl
 refine eO (i:=1) (N:=ae 9) (v:= ?_) (a':= ?_) #[ac,ac,O,O,O,O,O,O,O] rfl rfl (by kernel_rfl) (fun _ _ _ h=>h) (bi ⟨by rfl,?_⟩) ⟨gd,rfl⟩ ?_ ?_;rotate_left
 ·rintro w' ⟨g',rfl⟩;go_simp;with_reducible rfl
 rotate_left
 ·simp only[ay,aa,af,ag,aQ,aP];rfl
 refine eO (i:=2) (N:=ae 10) (v:= ?_) (a':= ?_) #[ac,ac,ac,O,O,O,O,O,O] rfl rfl (by kernel_rfl) (fun _ _ _ h=>h) (bi ⟨by rfl,?_⟩) ⟨gd,rfl⟩ ?_ ?_;rotate_left
 ·rintro w' ⟨g',rfl⟩;go_simp;with_reducible rfl
 rotate_left
 ·simp only[ay,aa,af,ag,aQ,aP];rfl
 refine bN (i:=4) (N:=ae 12) (v:= ?_) (a':= ?_) #[ac,ac,ac,O,ac,O,O,O,O] rfl rfl (by kernel_rfl) (fun _ _ _ h=>h) (bi ⟨by rfl,?_⟩) ?_ ?_;rotate_left
 ·intro w';go_simp;with_reducible rfl
 rotate_left
 ·simp only[ay,aa,af,ag,aQ,aP];rfl
 refine jO (i:=3) (N:=ae 11) #[ac,ac,ac,ac,ac,O,O,O,O] rfl rfl (by kernel_rfl) (by simp) (fun Kr hKr=> ?_);refine kD Tryz.func245 (by kernel_rfl) rfl #[.agg #[.int .i64 e.f0,.int .u64 e.f1,.string e.f2,.slice A e.f3.length c]] (by rfl) rfl rfl (by(try simp only[cd,cq,dc]);first | done | rfl) ?_;refine(deep_calls _ e (ai _) (by have:=iQ e;have:=HN.out;omega) A c gd.W (Kd.aF HC.out (HB.out.trans ((gout gd).mono HB.out.size))) hl).mono ?_;rintro _ w9 ⟨rfl,hb⟩;refine⟨_,rfl,?_⟩;obtain⟨gd,rfl⟩:∃g':G _,w9=g'.W:=⟨mkG (gd.below.trans (hb.mono gd.below.size)),rfl⟩;clear hb;refine hKr.out _ _ ⟨gd,rfl⟩ (fun _=> ?_);clear hKr Kr;refine cG (a':= ?_) ?_ ?_;rotate_left
 ·show ay _ (ae 11) _ = _
  simp only[ay,aa,af,ag,aQ,aP];rfl
 refine bN (i:=5) (N:=ae 13) (v:= ?_) (a':= ?_) #[ac,ac,ac,ac,ac,ac,O,O,O] rfl rfl (by kernel_rfl) (fun _ _ _ h=>h) (bi ⟨by rfl,?_⟩) ?_ ?_;rotate_left
 ·intro w';go_simp;with_reducible rfl
 rotate_left
 ·simp only[ay,aa,af,ag,aQ,aP];rfl
 refine jO (i:=6) (N:=ae 14) #[ac,ac,ac,ac,ac,ac,ac,O,O] rfl rfl (by kernel_rfl) (by simp) (fun Kr hKr=> ?_);refine cO (v:=.slice (ae ⟨gd.W.heap.size,0,aj⟩) 1 1) (w1:=gd.W.alloc (.cells #[.int .i64 2,.int .i64 0,.int .i64 0,.string ⟨#[]⟩,.int .i64 0,.int .u64 0,.string ⟨#[]⟩,.slice aj 0 0,.int .i64 0,.int .u64 0,.string ⟨#[]⟩,.slice aj 0 0,.int .u64 0,.int .u64 0,.slice aj 0 0,.slice aj 0 0,.int .i64 e.f0,.int .u64 e.f1,.string e.f2,.slice A e.f3.length c,.int .i64 ((d5 e:Nat):Int),.slice La lo.length lc] 125)) (by rfl) (by first | (go_simp;done) | (go_simp;rfl)) ?_;refine hKr.out _ _ ⟨mkG (G.ball gd _),rfl⟩ (fun _=> ?_);clear hKr Kr;refine cG (a':= ?_) ?_ ?_;rotate_left
 ·show ay _ (ae 14) _ = _
  simp only[ay,aa,af,ag,aQ,aP];rfl
 refine last_ (i:=7) (N:=ae 15) #[ac,ac,ac,ac,ac,ac,ac,ac,O] rfl rfl (by kernel_rfl) (by simp) (fun Kr hKr=> ?_);refine Kd.eP (kTh W0) (w0:=W0) W0.heap.size (by rfl) (.tmp 8) (.tmp 14) 112 125 zTh 304 rfl iU lK rfl (show 0<22 by decide) (by decide) v (xs.map d9) (d9 (.expr e lo)) [.int .i64 2,.int .i64 0,.int .i64 0,.string ⟨#[]⟩,.int .i64 0,.int .u64 0,.string ⟨#[]⟩,.slice aj 0 0,.int .i64 0,.int .u64 0,.string ⟨#[]⟩,.slice aj 0 0,.int .u64 0,.int .u64 0,.slice aj 0 0,.slice aj 0 0,.int .i64 e.f0,.int .u64 e.f1,.string e.f2,.slice A e.f3.length c,.int .i64 ((d5 e:Nat):Int),.slice La lo.length lc] (fun _=>True) (fun k=>ae k≠v.ownBlock) rfl rfl (lM (x:=d9 (.expr e lo)) (k119_zero W0) (jR W0 e hl HC.out) (HLo.out.below (gout gd))) (fun _ h=>⟨trivial,h⟩) (fun _ _=>trivial) (HLi.out.below (gout gd)) (HB.out.trans ((gout gd).mono HB.out.size)) (bg HB.out.size (gout gd).size) (by have:=HN.out;have:=weight_pos e;simp;omega) ?_;intro v1 w1 ho hb1 hg1 hat1;refine hKr.out _ _ ?_;clear hKr Kr;refine cG (a':= ?_) ?_ ?_;rotate_left
 ·show ay _ (ae 15) _ = _
  simp only[ay,aa,af,ag,aQ,aP];rfl
 refine bN (i:=8) (N:=ae 0) (v:= ?_) (a':= ?_) #[ac,ac,ac,ac,ac,ac,ac,ac,ac] rfl rfl (by kernel_rfl) (fun _ _ _ h=>h) (bi ⟨by rfl,?_⟩) ?_ ?_;rotate_left
 ·intro w';go_simp;with_reducible rfl
 rotate_left
 ·simp only[ay,aa,af,ag,aQ,aP];rfl
 refine kG (by kernel_rfl) ?_;have HG:=J ((Gro.of_below v (HB.out.trans (((ak w.heap.size w).alloc (ai _) _).mono HB.out.size)) gd.below).trans ⟨hb1,hg1,hat1⟩:Gro W0 (gw0 gg) w1 v v1);have HLi1:=J (show Li 125 W0 w1 v1 (xs++[.expr e lo]) by unfold Li;rw[cw];exact ho);have HLo1:=J ((HLo.out.below (gout gd)).step ⟨hb1,hg1,hat1⟩);have hvl:=J (Li.lt HLi.out);clear ho hb1 hg1 hat1;go_wp2_with fail
 go_loopw [7,0] (fun i l W=>∃(k:Nat) (l1:Value) (W1:World),i=.int .i64 k/\l1=l/\W1=W/\k<=e.f3.length/\Aside0 (Li 125 W0 W1 l1 (xs++[.expr e lo]++bY (e.f3.take k) lo)/\Gro W0 (gw0 gg) W1 v l1/\Lo W0 W1 l1 (.slice La lo.length lc) lo)) (fun i _ _=>e.f3.length - (intOf i).toNat)
 case atStart=>exact⟨0,_,_,rfl,rfl,rfl,br _,⟨by simpa[bY]using HLi1.out,HG.out,HLo1.out⟩⟩
 case round=>
  obtain⟨k,l1,W1,rfl,rfl,rfl,hk,HREL⟩:=hrel;have hbox:W1.cell? ⟨w.heap.size,3,aj⟩=ae (.slice A e.f3.length c):=(HREL.out.2.1.cell (a:=⟨w.heap.size,3,aj⟩) (by simp[gw0]) (jL hvl.out (ai _))).trans (by simp[gw0,go_sem])
  by_cases hlt:k<e.f3.length
  ·obtain⟨ad,A3,c3,e1,q0,q1,q2,q3,l3,g3⟩:=iR HC.out (k:Int) (bc _) (by omega);cases e1;rw[ax]at q0 q1 q2 q3;have hBB:=HREL.out.2.1.below;replace q0:=(hBB.cell (ah W0 _ q0)).trans q0;replace q1:=(hBB.cell (ah W0 _ q1)).trans q1;replace q2:=(hBB.cell (ah W0 _ q2)).trans q2;replace q3:=(hBB.cell (ah W0 _ q3)).trans q3
   have hi1:(k:Int)<(e.f3.length:Int):=by omega
   have K:=J (aq l3 g3);have HBB:=J hBB;clear l3 g3 hBB;have MEM:=J (gX hlt);have T:=J (congrArg (fun l=>bY l lo) (cP hlt));have T2:=J (congrArg bD (cP hlt));have IH1:=J (IH.out _ MEM.out);clear MEM;generalize bF e.f3 (k:Int)=y at*;go_wp2_with fail
   have HN1:(xs++[Th.expr e lo]++bY (e.f3.take k) lo).length+aO y<=8388608:=by
    have h1:=HN.out;have h2:=T2.out;have h3:=fD e.f3 (k+1);rw[dR]at h2;rw[eC]at h1;simp only[ar,gM,az];omega
   have CALL:=IH1.out W0 W1 l1 (.slice La lo.length lc) (xs++[Th.expr e lo]++bY (e.f3.take k) lo) lo A3 c3 HBB.out K.out.2 K.out.1 HREL.out.1 HREL.out.2.2 HN1;refine CALL.mono ?_;clear CALL;rintro _ W2 ⟨l2,rfl,hLi2,hGro2⟩;have HR2:=J (aq hLi2 hGro2);clear hLi2 hGro2;go_wp2_with fail;refine⟨⟨k+1,l2,W2,by go_num,rfl,rfl,by omega,⟨?_,HREL.out.2.1.trans HR2.out.2,HREL.out.2.2.step HR2.out.2⟩⟩,by simp[intOf];omega⟩;have h1:=HR2.out.1;have h2:=T.out;simp only[i9]at h2;rw[h2,←bh];exact h1
  ·go_wp2_with fail;go_ret;refine⟨l1,rfl,?_,?_⟩
   ·have h1:=HREL.out.1;rw[show k=e.f3.length by omega,df,bh]at h1;rw[eW];exact h1
   ·exact(Gro.of_below v HB.out ((ak _ _).alloc (ai _) _)).trans HREL.out.2.1
theorem fV:∀(n:Nat) (e:S116),cu e<=n->ExprsC e:=by
 intro n
 induction n with
 |zero=>intro e h;obtain⟨a,b,s,l⟩:=e;simp at h
 |succ n ih=>exact fun e h=>exprs_walk e fun y hy=>ih y (fO rfl hy h)
end
section
def H (W0 wb:World)(v:Value):={ p:World × Value // Gro W0 wb p.1 v p.2 }
def H.W {W0 wb:World}{v:Value}(h:H W0 wb v):World:=h.1.1
def H.v {W0 wb:World}{v:Value}(h:H W0 wb v):Value:=h.1.2
theorem H.gro {W0 wb:World}{v:Value}(h:H W0 wb v):Gro W0 wb h.W v h.v:=h.2
def mkH {W0 wb w:World}{v v1:Value}(h:Gro W0 wb w v v1):H W0 wb v:=⟨(w,v1),h⟩
theorem H.cell {W0 wb:World}{v:Value}(h:H W0 wb v){b o:Nat}(hb:b<wb.heap.size)(hn:ae b≠v.ownBlock):h.W.cell? ⟨b,o,aj⟩=wb.cell? ⟨b,o,aj⟩:=h.gro.cell (a:=⟨b,o,aj⟩) hb hn
attribute [local go_sem] G.cell H.cell
theorem under78:Tryz.prog.underlying 52=ae (.slice 9):=by kernel_rfl
def StmtsC (l:List S119):Prop:=∀(W0 w:World) (v lv:Value) (xs:List Th) (lo:List ByteArray) (A:Option Addr) (c d:Nat) (dI:Int),dI=(d:Int)->Below W0.heap.size W0 w->cU.C W0 A l.length l->l.length<=c->
 Li 125 W0 w v xs->Lo W0 w v lv lo->xs.length+Ot.bH l<=8388608->d+Ot.bH l<=8388608->lo.length<=d->
 Calls au 127 #[v,.slice A l.length c,.int .i64 dI,lv] w fun r w'=>∃v1,r=.returned v1/\Li 125 W0 w' v1 (xs++aD l d lo)/\Gro W0 w w' v v1
theorem iA {l:List S119}{x:S119}(h:x∈l):Ot.iT x<=Ot.bH l:=by
 induction l with
 |nil=>cases h
 |cons y r ih=>
  rw[Ot.bH]
  rcases cg.1 h with rfl | h
  ·omega
  ·have:=ih h;omega
theorem jB (l r:List S119):Ot.bH (l++r)=Ot.bH l+Ot.bH r:=by
 induction l with
 |nil=>simp[Ot.bH]
 |cons y s ih=>rw[fc,Ot.bH,ih,Ot.bH];omega
theorem bulkTs_take (l:List S119)(k:Nat):Ot.bH (l.take k)<=Ot.bH l:=by
 have h:=jB (l.take k) (l.drop k);rw[List.take_append_drop]at h;omega
theorem aZ (x:S119):Ot.iT x=1+Ot.kI x.f2+Ot.kI x.f3+Ot.bH x.f6+Ot.bH x.f7:=by
 obtain⟨a,b,c,d,e,f,g,h⟩:=x;rw[Ot.iT]
theorem reps_nil {w:World}{b:Nat}{ok:Nat->Prop}:eY (Kd.string.M w b ok) Kd.string.sz [] []:=⟨rfl,fun j p hj=>by simp at hj⟩
theorem R_lt {α:Type}{d:Kd α}{e:Nat}{w:World}{base:Nat}{ok:Nat->Prop}{v:Value}{xs:List α}(h:d.R e w base ok v xs):∀k,v.ownBlock=ae k->k<w.heap.size:=by
 obtain⟨_,inner,ho,_⟩:=h;exact fun k hk=>own_lt ho k hk
theorem R_apart {α:Type}{d:Kd α}{e:Nat}{w w1:World}{base:Nat}{ok:Nat->Prop}{v u:Value}{xs:List α}(h:d.R e w base ok v xs)(hg:w.grownBy w1 aj){b:Nat}(hb:u.ownBlock=ae b)(hle:w.heap.size<=b):d.R e w1 base (fun k=>ae k≠u.ownBlock) v xs:=
 Kd.jA (Kd.j5 (Kd.iV h) hg (fun _ _=>by simp)) (fun k hk he=>by
  rw[hb]at he;injection he with he;have:=hk.2.2.1
  omega)
theorem Lo.reads {W0 w:World}{v:Value}{A:Option Addr}{n c:Nat}{lo:List ByteArray}(h:Lo W0 w v (.slice A n c) lo):Kd.string.C w A lo.length lo:=by
 obtain⟨A',c',e,l,g⟩:=Kd.fF h;injection e with e1 e2 e3;subst e1;exact g
theorem Lo.new {W0 w w1:World}{v lv:Value}{lo:List ByteArray}(hv:∀k,v.ownBlock=ae k->k<w.heap.size)(hb:W0.heap.size<=w.heap.size)(h:Kd.string.R 9 w1 w.heap.size (fun _=>True) lv lo):Lo W0 w1 v lv lo:=
 Kd.R_lower (Kd.jA (Kd.iV h) (fun k hk he=>by
  have h1:=hk.2.1;have h2:=hv k he.symm
  omega)) hb
theorem stmts_walk (l:List S119)(ih:∀x∈l,StmtsC x.f6/\StmtsC x.f7):StmtsC l:=by
 intro W0 w v lv xs lo A c d dI hdI hb hc hl HL HO hn hd hld;obtain⟨La,lc,rfl⟩:=Kd.dG HO;have IH:=J ih;have HC:=J hc;have HB:=J hb;have HLi:=J HL;have HLo:=J HO;have HN:=J (aq hn (aq hd hld));subst hdI;have hlm:=hc.2.1;clear ih hc hb HL HO hn hd hld;go_enter Tryz.func127,Tryz.ntmps127;go_wp2_with fail
 go_loopw [9,0] (fun i l2 W=>∃(k:Nat) (l1:Value) (W1:World),i=.int .i64 k/\l1=l2/\W1=W/\k<=l.length/\Aside0 (Li 125 W0 W1 l1 (xs++aD (l.take k) d lo)/\Gro W0 w W1 v l1/\Lo W0 W1 l1 (.slice La lo.length lc) lo)) (fun i _ _=>l.length - (intOf i).toNat)
 case atStart=>exact⟨0,_,_,rfl,rfl,rfl,br _,⟨by simpa[aD]using HLi.out,Gro.of_below v HB.out (ak _ _),HLo.out⟩⟩
 case round=>
  obtain⟨k,l1,W1,rfl,rfl,rfl,hk,HREL⟩:=hrel
  by_cases hlt:k<l.length
  ·obtain⟨ad,A5,c5,A9,c9,A12,c12,A13,c13,e1,q0,q1,q2,q3,q4,q5,q6,q7,q8,q9,q10,q11,q12,q13,l5,g5,l9,g9,l12,g12,l13,g13⟩:=lG HC.out (k:Int) (bc _) (by omega);cases e1;rw[ax]at q0 q1 q2 q3 q4 q5 q6 q7 q8 q9 q10 q11 q12 q13;have hBB:=HREL.out.2.1.below;replace q0:=(hBB.cell (ah W0 _ q0)).trans q0;replace q1:=(hBB.cell (ah W0 _ q1)).trans q1;replace q2:=(hBB.cell (ah W0 _ q2)).trans q2;replace q3:=(hBB.cell (ah W0 _ q3)).trans q3;replace q4:=(hBB.cell (ah W0 _ q4)).trans q4;replace q5:=(hBB.cell (ah W0 _ q5)).trans q5;replace q6:=(hBB.cell (ah W0 _ q6)).trans q6;replace q7:=(hBB.cell (ah W0 _ q7)).trans q7;replace q8:=(hBB.cell (ah W0 _ q8)).trans q8;replace q9:=(hBB.cell (ah W0 _ q9)).trans q9;replace q10:=(hBB.cell (ah W0 _ q10)).trans q10;replace q11:=(hBB.cell (ah W0 _ q11)).trans q11;replace q12:=(hBB.cell (ah W0 _ q12)).trans q12;replace q13:=(hBB.cell (ah W0 _ q13)).trans q13
   have hi1:(k:Int)<(l.length:Int):=by omega
   have K:=J (aq l5 (aq g5 (aq l9 (aq g9 (aq l12 (aq g12 (aq l13 g13)))))));have HBB:=J hBB;clear l5 g5 l9 g9 l12 g12 l13 g13 hBB;have MEM:=jH hlt;have T:=J (congrArg (fun l=>aD l d lo) (eT hlt));have T2:=J (aq (congrArg Ot.bH (eT hlt)) (bulkTs_take l (k+1)));have IH1:=J (IH.out _ MEM);clear MEM;generalize aI l (k:Int)=y at*
   have HSZ:xs.length+(aD (l.take k) d lo).length+Ot.iT y<=8388608/\d+Ot.iT y<=8388608:=by
    obtain⟨h1,h2⟩:=T2.out;obtain⟨h3,h4,_⟩:=HN.out;have h5:=bV (l.take k) d lo;rw[jB]at h1;simp only[Ot.bH]at h1;omega
   have HS:=J HSZ;clear HSZ;have hvl:=J (Li.lt HREL.out.1);have hne:ae W1.heap.size≠l1.ownBlock:=jL hvl.out (ai _)
   have kk:y.f0=1\/y.f0=3\/y.f0=2\/y.f0=4\/(¬y.f0=1/\¬y.f0=3/\¬y.f0=2/\¬y.f0=4):=by omega
   rcases kk with h0 | h0 | h0 | h0 | ⟨n1,n3,n2,n4⟩
   ·rw[h0]at q0;have H0:=J h0;clear h0
    go_upto_region 5 with (fail)
    refine aG ?_;intro gg;have gout:∀{o:Obj} (g:G (W1.alloc o)),Below W1.heap.size W1 g.W:=fun g=>((ak _ _).alloc (ai _) _).trans (g.below.mono (by simp))
    go_wp2_with ((with_reducible refine bX (b:=.append) (xs:= #[.tmp 22,.tmp 27]) rfl ?_);at_builtin;refine Kd.eG (kTh W0) (w0:=W0) W0.heap.size rfl (.tmp 22) (.tmp 27) 112 125 zTh 304 rfl iU lK rfl (show 0<22 by decide) (by decide) l1 ((xs++aD (l.take k) d lo).map d9) (d9 (.stmt y d lo)) [.int .i64 1,.int .i64 0,.int .i64 1,.string y.f1,.int .i64 y.f2.f0,.int .u64 y.f2.f1,.string y.f2.f2,.slice A5 y.f2.f3.length c5,.int .i64 y.f3.f0,.int .u64 y.f3.f1,.string y.f3.f2,.slice A9 y.f3.f3.length c9,.int .u64 y.f4,.int .u64 y.f5,.slice A12 y.f6.length c12,.slice A13 y.f7.length c13,.int .i64 0,.int .u64 0,.string ⟨#[]⟩,.slice aj 0 0,.int .i64 (d:Int),.slice La lo.length lc] (fun _=>True) (fun k=>ae k≠l1.ownBlock) rfl rfl (by have hm:=(lM (x:=d9 (.stmt y d lo)) (fH W0 y K.out.1 K.out.2.1 K.out.2.2.1 K.out.2.2.2.1 K.out.2.2.2.2.1 K.out.2.2.2.2.2.1 K.out.2.2.2.2.2.2.1 K.out.2.2.2.2.2.2.2) (fL W0) (HREL.out.2.2.below (gout gg)));rw[H0.out]at hm;exact hm) (fun _ h=>⟨trivial,h⟩) (fun _ _=>trivial) (HREL.out.1.below (gout gg)) (HBB.out.trans ((gout gg).mono HBB.out.size)) (bg HBB.out.size (gout gg).size) (by have:=HS.out;have:=aZ y;simp;omega) ?_;intro v2 w2 ho hb2 hg2 hat2;obtain⟨h,rfl,rfl⟩:∃h:H W0 (gw0 gg) l1,h.W=w2/\h.v=v2:=⟨mkH ((Gro.of_below l1 (HBB.out.trans (((ak W1.heap.size W1).alloc (ai _) _).mono HBB.out.size)) gg.below).trans ⟨hb2,hg2,hat2⟩),rfl,rfl⟩;have HL2:=J (show Li 125 W0 h.W h.v (xs++aD (l.take k) d lo++[.stmt y d lo]) by unfold Li;rw[cw];exact ho);have HO2:=J ((HREL.out.2.2.below (gout gg)).step ⟨hb2,hg2,hat2⟩);clear ho hb2 hg2 hat2)
    have C:=fV _ y.f3 (ai _) W0 h.W h.v (.slice La lo.length lc) (xs++aD (l.take k) d lo++[Th.stmt y d lo]) lo A9 c9 h.gro.below K.out.2.2.2.1 K.out.2.2.1 HL2.out HO2.out (by have h1:=HS.out.1;have h2:=aZ y;have h3:=aK y.f3;have h4:=aK y.f2;simp only[ar,az,bB];omega);refine C.mono ?_;clear C;rintro _ w3 ⟨v3,rfl,hL,hG⟩;have HL2:=J hL;have HO2:=J (HO2.out.step hG);obtain⟨h,rfl,rfl⟩:∃h':H W0 (gw0 gg) l1,h'.W=w3/\h'.v=v3:=⟨mkH (h.gro.trans hG),rfl,rfl⟩;clear hL hG;go_wp2_with fail;have C:=IH1.out.1 W0 h.W h.v (.slice La lo.length lc) (xs++aD (l.take k) d lo++[Th.stmt y d lo]++bJ y.f3 lo) (lo) A12 c12 (d+1) (wrap64 ((d:Int)+1)) (fP (by have:=HN.out.2.1;omega)) h.gro.below K.out.2.2.2.2.2.1 K.out.2.2.2.2.1 HL2.out HO2.out (by have h1:=HS.out.1;have h2:=aZ y;have h3:=aK y.f3;have h4:=aK y.f2;have h5:=bV y.f6 (d+1) (lo);simp only[ar,az,bB];omega) (by have h1:=HS.out.2;have h2:=aZ y;omega) (by have h1:=HN.out.2.2;simp;omega);refine C.mono ?_;clear C;rintro _ w3 ⟨v3,rfl,hL,hG⟩;have HL2:=J hL;have HO2:=J (HO2.out.step hG);obtain⟨h,rfl,rfl⟩:∃h':H W0 (gw0 gg) l1,h'.W=w3/\h'.v=v3:=⟨mkH (h.gro.trans hG),rfl,rfl⟩;clear hL hG;go_wp2_with fail;have C:=IH1.out.2 W0 h.W h.v (.slice La lo.length lc) (xs++aD (l.take k) d lo++[Th.stmt y d lo]++bJ y.f3 lo++aD y.f6 (d+1) (lo)) (lo) A13 c13 (d+1) (wrap64 ((d:Int)+1)) (fP (by have:=HN.out.2.1;omega)) h.gro.below K.out.2.2.2.2.2.2.2 K.out.2.2.2.2.2.2.1 HL2.out HO2.out (by have h1:=HS.out.1;have h2:=aZ y;have h3:=aK y.f3;have h4:=aK y.f2;have h5:=bV y.f6 (d+1) (lo);simp only[ar,az,bB];omega) (by have h1:=HS.out.2;have h2:=aZ y;omega) (by have h1:=HN.out.2.2;simp;omega);refine C.mono ?_;clear C;rintro _ w3 ⟨v3,rfl,hL,hG⟩;have HL2:=J hL;have HO2:=J (HO2.out.step hG);obtain⟨h,rfl,rfl⟩:∃h':H W0 (gw0 gg) l1,h'.W=w3/\h'.v=v3:=⟨mkH (h.gro.trans hG),rfl,rfl⟩;clear hL hG;go_wp2_with fail
    have hx:xs++aD (l.take k) d lo++[Th.stmt y d lo]++bJ y.f3 lo++aD y.f6 (d+1) (lo)++aD y.f7 (d+1) (lo)=xs++aD (l.take (k+1)) d lo:=by
     have e1:=T.out;simp only[bW]at e1;rw[e1,cK];simp[H0.out,inLoop]
    refine⟨⟨k+1,h.v,h.W,by go_num,rfl,rfl,by omega,⟨hx ▸ HL2.out,HREL.out.2.1.trans ((Gro.of_below l1 HBB.out ((ak _ _).alloc (ai _) _)).trans h.gro),HO2.out⟩⟩,by simp[intOf];omega⟩
   ·rw[h0]at q0;have H0:=J h0;clear h0
    go_upto_region 5 with (fail)
    refine aG ?_;intro gg;have gout:∀{o:Obj} (g:G (W1.alloc o)),Below W1.heap.size W1 g.W:=fun g=>((ak _ _).alloc (ai _) _).trans (g.below.mono (by simp))
    go_wp2_with ((with_reducible refine bX (b:=.append) (xs:= #[.tmp 22,.tmp 27]) rfl ?_);at_builtin;refine Kd.eG (kTh W0) (w0:=W0) W0.heap.size rfl (.tmp 22) (.tmp 27) 112 125 zTh 304 rfl iU lK rfl (show 0<22 by decide) (by decide) l1 ((xs++aD (l.take k) d lo).map d9) (d9 (.stmt y d lo)) [.int .i64 1,.int .i64 0,.int .i64 3,.string y.f1,.int .i64 y.f2.f0,.int .u64 y.f2.f1,.string y.f2.f2,.slice A5 y.f2.f3.length c5,.int .i64 y.f3.f0,.int .u64 y.f3.f1,.string y.f3.f2,.slice A9 y.f3.f3.length c9,.int .u64 y.f4,.int .u64 y.f5,.slice A12 y.f6.length c12,.slice A13 y.f7.length c13,.int .i64 0,.int .u64 0,.string ⟨#[]⟩,.slice aj 0 0,.int .i64 (d:Int),.slice La lo.length lc] (fun _=>True) (fun k=>ae k≠l1.ownBlock) rfl rfl (by have hm:=(lM (x:=d9 (.stmt y d lo)) (fH W0 y K.out.1 K.out.2.1 K.out.2.2.1 K.out.2.2.2.1 K.out.2.2.2.2.1 K.out.2.2.2.2.2.1 K.out.2.2.2.2.2.2.1 K.out.2.2.2.2.2.2.2) (fL W0) (HREL.out.2.2.below (gout gg)));rw[H0.out]at hm;exact hm) (fun _ h=>⟨trivial,h⟩) (fun _ _=>trivial) (HREL.out.1.below (gout gg)) (HBB.out.trans ((gout gg).mono HBB.out.size)) (bg HBB.out.size (gout gg).size) (by have:=HS.out;have:=aZ y;simp;omega) ?_;intro v2 w2 ho hb2 hg2 hat2;obtain⟨h,rfl,rfl⟩:∃h:H W0 (gw0 gg) l1,h.W=w2/\h.v=v2:=⟨mkH ((Gro.of_below l1 (HBB.out.trans (((ak W1.heap.size W1).alloc (ai _) _).mono HBB.out.size)) gg.below).trans ⟨hb2,hg2,hat2⟩),rfl,rfl⟩;have HL2:=J (show Li 125 W0 h.W h.v (xs++aD (l.take k) d lo++[.stmt y d lo]) by unfold Li;rw[cw];exact ho);have HO2:=J ((HREL.out.2.2.below (gout gg)).step ⟨hb2,hg2,hat2⟩);clear ho hb2 hg2 hat2)
    have C:=fV _ y.f3 (ai _) W0 h.W h.v (.slice La lo.length lc) (xs++aD (l.take k) d lo++[Th.stmt y d lo]) lo A9 c9 h.gro.below K.out.2.2.2.1 K.out.2.2.1 HL2.out HO2.out (by have h1:=HS.out.1;have h2:=aZ y;have h3:=aK y.f3;have h4:=aK y.f2;simp only[ar,az,bB];omega);refine C.mono ?_;clear C;rintro _ w3 ⟨v3,rfl,hL,hG⟩;have HL2:=J hL;have HO2:=J (HO2.out.step hG);obtain⟨h,rfl,rfl⟩:∃h':H W0 (gw0 gg) l1,h'.W=w3/\h'.v=v3:=⟨mkH (h.gro.trans hG),rfl,rfl⟩;clear hL hG;go_wp2_with fail;have C:=IH1.out.1 W0 h.W h.v (.slice La lo.length lc) (xs++aD (l.take k) d lo++[Th.stmt y d lo]++bJ y.f3 lo) (lo) A12 c12 (d+1) (wrap64 ((d:Int)+1)) (fP (by have:=HN.out.2.1;omega)) h.gro.below K.out.2.2.2.2.2.1 K.out.2.2.2.2.1 HL2.out HO2.out (by have h1:=HS.out.1;have h2:=aZ y;have h3:=aK y.f3;have h4:=aK y.f2;have h5:=bV y.f6 (d+1) (lo);simp only[ar,az,bB];omega) (by have h1:=HS.out.2;have h2:=aZ y;omega) (by have h1:=HN.out.2.2;simp;omega);refine C.mono ?_;clear C;rintro _ w3 ⟨v3,rfl,hL,hG⟩;have HL2:=J hL;have HO2:=J (HO2.out.step hG);obtain⟨h,rfl,rfl⟩:∃h':H W0 (gw0 gg) l1,h'.W=w3/\h'.v=v3:=⟨mkH (h.gro.trans hG),rfl,rfl⟩;clear hL hG;go_wp2_with fail;have C:=IH1.out.2 W0 h.W h.v (.slice La lo.length lc) (xs++aD (l.take k) d lo++[Th.stmt y d lo]++bJ y.f3 lo++aD y.f6 (d+1) (lo)) (lo) A13 c13 (d+1) (wrap64 ((d:Int)+1)) (fP (by have:=HN.out.2.1;omega)) h.gro.below K.out.2.2.2.2.2.2.2 K.out.2.2.2.2.2.2.1 HL2.out HO2.out (by have h1:=HS.out.1;have h2:=aZ y;have h3:=aK y.f3;have h4:=aK y.f2;have h5:=bV y.f6 (d+1) (lo);simp only[ar,az,bB];omega) (by have h1:=HS.out.2;have h2:=aZ y;omega) (by have h1:=HN.out.2.2;simp;omega);refine C.mono ?_;clear C;rintro _ w3 ⟨v3,rfl,hL,hG⟩;have HL2:=J hL;have HO2:=J (HO2.out.step hG);obtain⟨h,rfl,rfl⟩:∃h':H W0 (gw0 gg) l1,h'.W=w3/\h'.v=v3:=⟨mkH (h.gro.trans hG),rfl,rfl⟩;clear hL hG;go_wp2_with fail
    have hx:xs++aD (l.take k) d lo++[Th.stmt y d lo]++bJ y.f3 lo++aD y.f6 (d+1) (lo)++aD y.f7 (d+1) (lo)=xs++aD (l.take (k+1)) d lo:=by
     have e1:=T.out;simp only[bW]at e1;rw[e1,cK];simp[H0.out,inLoop]
    refine⟨⟨k+1,h.v,h.W,by go_num,rfl,rfl,by omega,⟨hx ▸ HL2.out,HREL.out.2.1.trans ((Gro.of_below l1 HBB.out ((ak _ _).alloc (ai _) _)).trans h.gro),HO2.out⟩⟩,by simp[intOf];omega⟩
   ·rw[h0]at q0;have H0:=J h0;clear h0
    go_upto_region 5 with (fail)
    refine aG ?_;intro gg;have gout:∀{o:Obj} (g:G (W1.alloc o)),Below W1.heap.size W1 g.W:=fun g=>((ak _ _).alloc (ai _) _).trans (g.below.mono (by simp))
    go_wp2_with ((with_reducible refine bX (b:=.append) (xs:= #[.tmp 22,.tmp 27]) rfl ?_);at_builtin;refine Kd.eG (kTh W0) (w0:=W0) W0.heap.size rfl (.tmp 22) (.tmp 27) 112 125 zTh 304 rfl iU lK rfl (show 0<22 by decide) (by decide) l1 ((xs++aD (l.take k) d lo).map d9) (d9 (.stmt y d lo)) [.int .i64 1,.int .i64 0,.int .i64 2,.string y.f1,.int .i64 y.f2.f0,.int .u64 y.f2.f1,.string y.f2.f2,.slice A5 y.f2.f3.length c5,.int .i64 y.f3.f0,.int .u64 y.f3.f1,.string y.f3.f2,.slice A9 y.f3.f3.length c9,.int .u64 y.f4,.int .u64 y.f5,.slice A12 y.f6.length c12,.slice A13 y.f7.length c13,.int .i64 0,.int .u64 0,.string ⟨#[]⟩,.slice aj 0 0,.int .i64 (d:Int),.slice La lo.length lc] (fun _=>True) (fun k=>ae k≠l1.ownBlock) rfl rfl (by have hm:=(lM (x:=d9 (.stmt y d lo)) (fH W0 y K.out.1 K.out.2.1 K.out.2.2.1 K.out.2.2.2.1 K.out.2.2.2.2.1 K.out.2.2.2.2.2.1 K.out.2.2.2.2.2.2.1 K.out.2.2.2.2.2.2.2) (fL W0) (HREL.out.2.2.below (gout gg)));rw[H0.out]at hm;exact hm) (fun _ h=>⟨trivial,h⟩) (fun _ _=>trivial) (HREL.out.1.below (gout gg)) (HBB.out.trans ((gout gg).mono HBB.out.size)) (bg HBB.out.size (gout gg).size) (by have:=HS.out;have:=aZ y;simp;omega) ?_;intro v2 w2 ho hb2 hg2 hat2;obtain⟨h,rfl,rfl⟩:∃h:H W0 (gw0 gg) l1,h.W=w2/\h.v=v2:=⟨mkH ((Gro.of_below l1 (HBB.out.trans (((ak W1.heap.size W1).alloc (ai _) _).mono HBB.out.size)) gg.below).trans ⟨hb2,hg2,hat2⟩),rfl,rfl⟩;have HL2:=J (show Li 125 W0 h.W h.v (xs++aD (l.take k) d lo++[.stmt y d lo]) by unfold Li;rw[cw];exact ho);have HO2:=J ((HREL.out.2.2.below (gout gg)).step ⟨hb2,hg2,hat2⟩);clear ho hb2 hg2 hat2)
    have C:=fV _ y.f2 (ai _) W0 h.W h.v (.slice La lo.length lc) (xs++aD (l.take k) d lo++[Th.stmt y d lo]) lo A5 c5 h.gro.below K.out.2.1 K.out.1 HL2.out HO2.out (by have h1:=HS.out.1;have h2:=aZ y;have h3:=aK y.f3;have h4:=aK y.f2;simp only[ar,az,bB];omega);refine C.mono ?_;clear C;rintro _ w3 ⟨v3,rfl,hL,hG⟩;have HL2:=J hL;have HO2:=J (HO2.out.step hG);obtain⟨h,rfl,rfl⟩:∃h':H W0 (gw0 gg) l1,h'.W=w3/\h'.v=v3:=⟨mkH (h.gro.trans hG),rfl,rfl⟩;clear hL hG;go_wp2_with fail;have C:=fV _ y.f3 (ai _) W0 h.W h.v (.slice La lo.length lc) (xs++aD (l.take k) d lo++[Th.stmt y d lo]++bJ y.f2 lo) lo A9 c9 h.gro.below K.out.2.2.2.1 K.out.2.2.1 HL2.out HO2.out (by have h1:=HS.out.1;have h2:=aZ y;have h3:=aK y.f3;have h4:=aK y.f2;simp only[ar,az,bB];omega);refine C.mono ?_;clear C;rintro _ w3 ⟨v3,rfl,hL,hG⟩;have HL2:=J hL;have HO2:=J (HO2.out.step hG);obtain⟨h,rfl,rfl⟩:∃h':H W0 (gw0 gg) l1,h'.W=w3/\h'.v=v3:=⟨mkH (h.gro.trans hG),rfl,rfl⟩;clear hL hG;go_wp2_with fail;have C:=IH1.out.1 W0 h.W h.v (.slice La lo.length lc) (xs++aD (l.take k) d lo++[Th.stmt y d lo]++bJ y.f2 lo++bJ y.f3 lo) (lo) A12 c12 (d+1) (wrap64 ((d:Int)+1)) (fP (by have:=HN.out.2.1;omega)) h.gro.below K.out.2.2.2.2.2.1 K.out.2.2.2.2.1 HL2.out HO2.out (by have h1:=HS.out.1;have h2:=aZ y;have h3:=aK y.f3;have h4:=aK y.f2;have h5:=bV y.f6 (d+1) (lo);simp only[ar,az,bB];omega) (by have h1:=HS.out.2;have h2:=aZ y;omega) (by have h1:=HN.out.2.2;simp;omega);refine C.mono ?_;clear C;rintro _ w3 ⟨v3,rfl,hL,hG⟩;have HL2:=J hL;have HO2:=J (HO2.out.step hG);obtain⟨h,rfl,rfl⟩:∃h':H W0 (gw0 gg) l1,h'.W=w3/\h'.v=v3:=⟨mkH (h.gro.trans hG),rfl,rfl⟩;clear hL hG;go_wp2_with fail;have C:=IH1.out.2 W0 h.W h.v (.slice La lo.length lc) (xs++aD (l.take k) d lo++[Th.stmt y d lo]++bJ y.f2 lo++bJ y.f3 lo++aD y.f6 (d+1) (lo)) (lo) A13 c13 (d+1) (wrap64 ((d:Int)+1)) (fP (by have:=HN.out.2.1;omega)) h.gro.below K.out.2.2.2.2.2.2.2 K.out.2.2.2.2.2.2.1 HL2.out HO2.out (by have h1:=HS.out.1;have h2:=aZ y;have h3:=aK y.f3;have h4:=aK y.f2;have h5:=bV y.f6 (d+1) (lo);simp only[ar,az,bB];omega) (by have h1:=HS.out.2;have h2:=aZ y;omega) (by have h1:=HN.out.2.2;simp;omega);refine C.mono ?_;clear C;rintro _ w3 ⟨v3,rfl,hL,hG⟩;have HL2:=J hL;have HO2:=J (HO2.out.step hG);obtain⟨h,rfl,rfl⟩:∃h':H W0 (gw0 gg) l1,h'.W=w3/\h'.v=v3:=⟨mkH (h.gro.trans hG),rfl,rfl⟩;clear hL hG;go_wp2_with fail
    have hx:xs++aD (l.take k) d lo++[Th.stmt y d lo]++bJ y.f2 lo++bJ y.f3 lo++aD y.f6 (d+1) (lo)++aD y.f7 (d+1) (lo)=xs++aD (l.take (k+1)) d lo:=by
     have e1:=T.out;simp only[bW]at e1;rw[e1,cK];simp[H0.out,inLoop]
    refine⟨⟨k+1,h.v,h.W,by go_num,rfl,rfl,by omega,⟨hx ▸ HL2.out,HREL.out.2.1.trans ((Gro.of_below l1 HBB.out ((ak _ _).alloc (ai _) _)).trans h.gro),HO2.out⟩⟩,by simp[intOf];omega⟩
   ·rw[h0]at q0;have H0:=J h0;clear h0
    go_upto_region 5 with (fail)
    refine aG ?_;intro gg;have gout:∀{o:Obj} (g:G (W1.alloc o)),Below W1.heap.size W1 g.W:=fun g=>((ak _ _).alloc (ai _) _).trans (g.below.mono (by simp))
    go_wp2_with ((with_reducible refine bX (b:=.append) (xs:= #[.tmp 22,.tmp 27]) rfl ?_);at_builtin;refine Kd.eG (kTh W0) (w0:=W0) W0.heap.size rfl (.tmp 22) (.tmp 27) 112 125 zTh 304 rfl iU lK rfl (show 0<22 by decide) (by decide) l1 ((xs++aD (l.take k) d lo).map d9) (d9 (.stmt y d lo)) [.int .i64 1,.int .i64 0,.int .i64 4,.string y.f1,.int .i64 y.f2.f0,.int .u64 y.f2.f1,.string y.f2.f2,.slice A5 y.f2.f3.length c5,.int .i64 y.f3.f0,.int .u64 y.f3.f1,.string y.f3.f2,.slice A9 y.f3.f3.length c9,.int .u64 y.f4,.int .u64 y.f5,.slice A12 y.f6.length c12,.slice A13 y.f7.length c13,.int .i64 0,.int .u64 0,.string ⟨#[]⟩,.slice aj 0 0,.int .i64 (d:Int),.slice La lo.length lc] (fun _=>True) (fun k=>ae k≠l1.ownBlock) rfl rfl (by have hm:=(lM (x:=d9 (.stmt y d lo)) (fH W0 y K.out.1 K.out.2.1 K.out.2.2.1 K.out.2.2.2.1 K.out.2.2.2.2.1 K.out.2.2.2.2.2.1 K.out.2.2.2.2.2.2.1 K.out.2.2.2.2.2.2.2) (fL W0) (HREL.out.2.2.below (gout gg)));rw[H0.out]at hm;exact hm) (fun _ h=>⟨trivial,h⟩) (fun _ _=>trivial) (HREL.out.1.below (gout gg)) (HBB.out.trans ((gout gg).mono HBB.out.size)) (bg HBB.out.size (gout gg).size) (by have:=HS.out;have:=aZ y;simp;omega) ?_;intro v2 w2 ho hb2 hg2 hat2;obtain⟨h,rfl,rfl⟩:∃h:H W0 (gw0 gg) l1,h.W=w2/\h.v=v2:=⟨mkH ((Gro.of_below l1 (HBB.out.trans (((ak W1.heap.size W1).alloc (ai _) _).mono HBB.out.size)) gg.below).trans ⟨hb2,hg2,hat2⟩),rfl,rfl⟩;have HL2:=J (show Li 125 W0 h.W h.v (xs++aD (l.take k) d lo++[.stmt y d lo]) by unfold Li;rw[cw];exact ho);have HO2:=J ((HREL.out.2.2.below (gout gg)).step ⟨hb2,hg2,hat2⟩);clear ho hb2 hg2 hat2)
    go_upto_region 15 with (fail)
    have hsz:W1.heap.size<h.W.heap.size:=ee (by simp[gw0]) h.gro.grown.size;have hw:Below W1.heap.size W1 h.W->True:=fun _=>trivial;clear hw;refine gG (n:=8) (S:=fun w'=>∃g':G h.W,w'=g'.W) (ds:=[]) #[O,O,O,O,O,O,O,O] (by kernel_rfl) rfl rfl ⟨mkG (ak _ _).drew,rfl⟩ (fun hHeld=> ?_);obtain⟨gd,hgd⟩:=hHeld;rw[hgd];clear hgd;refine bN (i:=1) (N:=ae 56) (v:= ?_) (a':= ?_) #[O,ac,O,O,O,O,O,O] rfl rfl (by kernel_rfl) (fun _ _ _ h=>h) (bi ⟨by rfl,?_⟩) ?_ ?_;rotate_left
    ·intro w';go_simp;with_reducible rfl
    rotate_left
    ·simp only[ay,aa,af,ag,aQ,aP];rfl
    refine bN (i:=3) (N:=ae 58) (v:= ?_) (a':= ?_) #[O,ac,O,ac,O,O,O,O] rfl rfl (by kernel_rfl) (fun _ _ _ h=>h) (bi ⟨by rfl,?_⟩) ?_ ?_;rotate_left
    ·intro w';go_simp;with_reducible rfl
    rotate_left
    ·simp only[ay,aa,af,ag,aQ,aP];rfl
    refine eO (i:=4) (N:=ae 59) (v:= ?_) (a':= ?_) #[O,ac,O,ac,ac,O,O,O] rfl rfl (by kernel_rfl) (fun _ _ _ h=>h) (bi ⟨by rfl,?_⟩) ⟨gd,rfl⟩ ?_ ?_;rotate_left
    ·rintro w' ⟨g',rfl⟩;go_simp;with_reducible rfl
    rotate_left
    ·simp only[ay,aa,af,ag,aQ,aP];rfl
    refine join_ (σ:=Value × Value × Value) 2 #[ac,ac,ac,ac,ac,ac,O,O] (fun s=>[(55,s.1),(57,s.2.1),(60,s.2.2)]) (fun s w'=>∃g:G h.W,w'=g.W/\Kd.string.R 9 g.W h.W.heap.size (fun _=>True) s.2.1 lo/\Kd.string.R 9 g.W h.W.heap.size (fun _=>True) s.2.2 [y.f1]) ?_ (fun hJ=> ?_);rotate_left
    ·refine two_ (i:=0) (j:=5) (Ni:=ae 55) (Nj:=ae 60) #[ac,ac,O,ac,ac,O,O,O] #[O,ac,O,ac,ac,ac,O,O] rfl rfl rfl rfl (by kernel_rfl) (by simp) (by simp) ?_ ?_
     ·intro K hK;refine Kd.fS Kd.string (w0:=h.W) h.W.heap.size 9 (by rfl) (N:=55) rfl (xs:=[]) (inner:=[]) (ok:=fun _=>True) (okp:=fun _=>False) (by first | (go_simp;done) | (go_simp;rfl)) reps_nil (fun _ h=>h.elim) trivial gd.below gd.below.size (by simp) ?_;intro v55 w5 ho5 hb5 hg5 hat5;obtain⟨g5,rfl⟩:∃g:G h.W,w5=g.W:=⟨mkG hb5,rfl⟩;refine hK.out _ _ ⟨g5,rfl⟩ (fun _=> ?_);clear hK K;refine cG (a':= ?_) ?_ ?_;rotate_left
      ·show ay _ (ae 55) _ = _
       simp only[ay,aa,af,ag,aQ,aP];rfl
      refine two_ (i:=2) (j:=5) (Ni:=ae 57) (Nj:=ae 60) #[ac,ac,ac,ac,ac,O,O,O] #[ac,ac,O,ac,ac,ac,O,O] rfl rfl rfl rfl (by kernel_rfl) (by simp) (by simp) ?_ ?_
      ·intro K hK;refine Kd.cT Kd.string (Rr:=Kd.string.K g5.W) (w0:=h.W) h.W.heap.size (by rfl) (.tmp 55) (.tmp 56) 52 9 (.string ⟨#[]⟩) 16 rfl under78 info9 rfl (by decide) (by decide) v55 [] lo La lo.length lc (fun _=>True) (fun _=>False) rfl rfl ho5 (Lo.reads (HO2.out.below g5.below)) (fun _ _ h=>h) (fun _ h=>h.elim) (fun _ _=>trivial) g5.below g5.below.size (by have:=HN.out;simp;omega) ?_;intro v57 w7 ho7 hb7 hg7 hat7;obtain⟨g7,rfl⟩:∃g:G h.W,w7=g.W:=⟨mkG hb7,rfl⟩;refine hK.out _ _ ⟨g7,rfl⟩ (fun _=> ?_);clear hK K;refine cG (a':= ?_) ?_ ?_;rotate_left
       ·show ay _ (ae 57) _ = _
        simp only[ay,aa,af,ag,aQ,aP];rfl
       refine jO (i:=5) (N:=ae 60) #[ac,ac,ac,ac,ac,ac,O,O] rfl rfl (by kernel_rfl) (by simp) (fun K hK=> ?_);refine Kd.fS Kd.string (w0:=h.W) h.W.heap.size 9 (by rfl) (N:=60) rfl (xs:=[y.f1]) (inner:=[.string y.f1]) (ok:=fun _=>True) (okp:=fun _=>False) (by first | (go_simp;done) | (go_simp;rfl)) (Kd.fW (enc:=Value.string) [y.f1]) (fun _ h=>h.elim) trivial g7.below g7.below.size (by simp) ?_;intro v60 w6 ho6 hb6 hg6 hat6;obtain⟨g6,rfl⟩:∃g:G h.W,w6=g.W:=⟨mkG hb6,rfl⟩;refine hK.out _ _ ⟨g6,rfl⟩ (fun _=> ?_);clear hK K;refine cG (a':= ?_) ?_ ?_;rotate_left
       ·show ay _ (ae 60) _ = _
        simp only[ay,aa,af,ag,aQ,aP];rfl
       exact cG (by first | (simp only[iK,ay,aa,af,ag];done) | (simp only[iK,ay,aa,af,ag];rfl)) (hJ (v55,v57,v60) _ ⟨_,rfl,Kd.j5 ho7 hg6 (fun _ _=>by simp),ho6⟩)
      ·intro K hK;refine Kd.fS Kd.string (w0:=h.W) h.W.heap.size 9 (by rfl) (N:=60) rfl (xs:=[y.f1]) (inner:=[.string y.f1]) (ok:=fun k=>ae k≠v55.ownBlock) (okp:=fun _=>False) (by first | (go_simp;done) | (go_simp;rfl)) (Kd.fW (enc:=Value.string) [y.f1]) (fun _ h=>h.elim) (fun e=>by have:=R_lt ho5 _ e.symm;omega) g5.below g5.below.size (by simp) ?_;intro v60 w6 ho6 hb6 hg6 hat6;obtain⟨g6,rfl⟩:∃g:G h.W,w6=g.W:=⟨mkG hb6,rfl⟩;refine hK.out _ _ ⟨g6,rfl⟩ (fun _=> ?_);clear hK K;refine cG (a':= ?_) ?_ ?_;rotate_left
       ·show ay _ (ae 60) _ = _
        simp only[ay,aa,af,ag,aQ,aP];rfl
       refine jO (i:=2) (N:=ae 57) #[ac,ac,ac,ac,ac,ac,O,O] rfl rfl (by kernel_rfl) (by simp) (fun K hK=> ?_);refine Kd.cT Kd.string (Rr:=Kd.string.K g6.W) (w0:=h.W) h.W.heap.size (by rfl) (.tmp 55) (.tmp 56) 52 9 (.string ⟨#[]⟩) 16 rfl under78 info9 rfl (by decide) (by decide) v55 [] lo La lo.length lc (fun _=>True) (fun _=>False) rfl rfl (Kd.j5 ho5 hg6 (fun _ _=>by simp)) (Lo.reads (HO2.out.below g6.below)) (fun _ _ h=>h) (fun _ h=>h.elim) (fun _ _=>trivial) g6.below g6.below.size (by have:=HN.out;simp;omega) ?_;intro v57 w7 ho7 hb7 hg7 hat7;obtain⟨g7,rfl⟩:∃g:G h.W,w7=g.W:=⟨mkG hb7,rfl⟩;refine hK.out _ _ ⟨g7,rfl⟩ (fun _=> ?_);clear hK K;refine cG (a':= ?_) ?_ ?_;rotate_left
       ·show ay _ (ae 57) _ = _
        simp only[ay,aa,af,ag,aQ,aP];rfl
       exact cG (by first | (simp only[iK,ay,aa,af,ag];done) | (simp only[iK,ay,aa,af,ag];rfl)) (hJ (v55,v57,v60) _ ⟨_,rfl,ho7,Kd.jA (Kd.j5 ho6 hg7 (fun k hk=>hk)) (fun _ _=>trivial)⟩)
     ·intro K hK;refine Kd.fS Kd.string (w0:=h.W) h.W.heap.size 9 (by rfl) (N:=60) rfl (xs:=[y.f1]) (inner:=[.string y.f1]) (ok:=fun _=>True) (okp:=fun _=>False) (by first | (go_simp;done) | (go_simp;rfl)) (Kd.fW (enc:=Value.string) [y.f1]) (fun _ h=>h.elim) trivial gd.below gd.below.size (by simp) ?_;intro v60 w6 ho6 hb6 hg6 hat6;obtain⟨g6,rfl⟩:∃g:G h.W,w6=g.W:=⟨mkG hb6,rfl⟩;refine hK.out _ _ ⟨g6,rfl⟩ (fun _=> ?_);clear hK K;refine cG (a':= ?_) ?_ ?_;rotate_left
      ·show ay _ (ae 60) _ = _
       simp only[ay,aa,af,ag,aQ,aP];rfl
      refine jO (i:=0) (N:=ae 55) #[ac,ac,O,ac,ac,ac,O,O] rfl rfl (by kernel_rfl) (by simp) (fun K hK=> ?_);refine Kd.fS Kd.string (w0:=h.W) h.W.heap.size 9 (by rfl) (N:=55) rfl (xs:=[]) (inner:=[]) (ok:=fun _=>True) (okp:=fun _=>False) (by first | (go_simp;done) | (go_simp;rfl)) reps_nil (fun _ h=>h.elim) trivial g6.below g6.below.size (by simp) ?_;intro v55 w5 ho5 hb5 hg5 hat5;obtain⟨g5,rfl⟩:∃g:G h.W,w5=g.W:=⟨mkG hb5,rfl⟩;refine hK.out _ _ ⟨g5,rfl⟩ (fun _=> ?_);clear hK K;refine cG (a':= ?_) ?_ ?_;rotate_left
      ·show ay _ (ae 55) _ = _
       simp only[ay,aa,af,ag,aQ,aP];rfl
      obtain⟨b5,hb5',hle5⟩:=hat5;have ho6:=R_apart ho6 hg5 hb5' hle5;refine jO (i:=2) (N:=ae 57) #[ac,ac,ac,ac,ac,ac,O,O] rfl rfl (by kernel_rfl) (by simp) (fun K hK=> ?_);refine Kd.cT Kd.string (Rr:=Kd.string.K g5.W) (w0:=h.W) h.W.heap.size (by rfl) (.tmp 55) (.tmp 56) 52 9 (.string ⟨#[]⟩) 16 rfl under78 info9 rfl (by decide) (by decide) v55 [] lo La lo.length lc (fun _=>True) (fun _=>False) rfl rfl ho5 (Lo.reads (HO2.out.below g5.below)) (fun _ _ h=>h) (fun _ h=>h.elim) (fun _ _=>trivial) g5.below g5.below.size (by have:=HN.out;simp;omega) ?_;intro v57 w7 ho7 hb7 hg7 hat7;obtain⟨g7,rfl⟩:∃g:G h.W,w7=g.W:=⟨mkG hb7,rfl⟩;refine hK.out _ _ ⟨g7,rfl⟩ (fun _=> ?_);clear hK K;refine cG (a':= ?_) ?_ ?_;rotate_left
      ·show ay _ (ae 57) _ = _
       simp only[ay,aa,af,ag,aQ,aP];rfl
      exact cG (by first | (simp only[iK,ay,aa,af,ag];done) | (simp only[iK,ay,aa,af,ag];rfl)) (hJ (v55,v57,v60) _ ⟨_,rfl,ho7,Kd.jA (Kd.j5 ho6 hg7 (fun k hk=>hk)) (fun _ _=>trivial)⟩)
    rintro⟨v55,v57,v60⟩ _ ⟨gd,rfl,ho7,ho6⟩;refine cG (a':= ?_) ?_ ?_;rotate_left
    ·simp only[iK,ay,aa,af,ag];rfl
    obtain⟨A60,c60,e60,l60,g60⟩:=Kd.fF ho6;simp only at e60;subst e60;refine jO (i:=6) (N:=ae 61) #[ac,ac,ac,ac,ac,ac,ac,O] rfl rfl (by kernel_rfl) (by simp) (fun K hK=> ?_);refine Kd.cT Kd.string (Rr:=Kd.string.K gd.W) (w0:=h.W) h.W.heap.size (by rfl) (.tmp 57) (.tmp 60) 52 9 (.string ⟨#[]⟩) 16 rfl under78 info9 rfl (by decide) (by decide) v57 lo [y.f1] A60 1 c60 (fun _=>True) (fun _=>False) rfl rfl ho7 g60 (fun _ _ h=>h) (fun _ h=>h.elim) (fun _ _=>trivial) gd.below gd.below.size (by have:=HN.out;simp;omega) ?_;intro v61 w8 ho8 hb8 hg8 hat8;refine hK.out _ _ ⟨mkG hb8,rfl⟩ (fun _=> ?_);clear hK K;refine cG (a':= ?_) ?_ ?_;rotate_left
    ·show ay _ (ae 61) _ = _
     simp only[ay,aa,af,ag,aQ,aP];rfl
    refine bN (i:=7) (N:=ae 11) (v:= ?_) (a':= ?_) #[ac,ac,ac,ac,ac,ac,ac,ac] rfl rfl (by kernel_rfl) (fun _ _ _ h=>h) (bi ⟨by rfl,?_⟩) ?_ ?_;rotate_left
    ·intro w';go_simp;with_reducible rfl
    rotate_left
    ·simp only[ay,aa,af,ag,aQ,aP];rfl
    refine kG (by kernel_rfl) ?_;have HO4:=J (show Lo W0 w8 h.v v61 (lo++[y.f1]) from Lo.new (Li.lt HL2.out) h.gro.below.size ho8);have HO2:=J (HO2.out.below hb8);have HL2:=J (HL2.out.below hb8);obtain⟨h,rfl,hv⟩:∃h':H W0 (gw0 gg) l1,h'.W=w8/\h'.v=h.v:=⟨mkH (h.gro.trans (Gro.of_below h.v h.gro.below hb8)),rfl,rfl⟩;rw[←hv]at HL2 HO2 HO4 ⊢;obtain⟨L61,c61,rfl⟩:=Kd.dG HO4.out;clear hv;rw[show(lo++[y.f1]).length=lo.length+1 by simp]at HO4 ⊢;go_wp2_with fail;have C:=IH1.out.1 W0 h.W h.v (.slice L61 (lo.length+1) c61) (xs++aD (l.take k) d lo++[Th.stmt y d lo]) (lo++[y.f1]) A12 c12 (d+1) (wrap64 ((d:Int)+1)) (fP (by have:=HN.out.2.1;omega)) h.gro.below K.out.2.2.2.2.2.1 K.out.2.2.2.2.1 HL2.out HO4.out (by have h1:=HS.out.1;have h2:=aZ y;have h3:=aK y.f3;have h4:=aK y.f2;have h5:=bV y.f6 (d+1) (lo++[y.f1]);simp only[ar,az,bB];omega) (by have h1:=HS.out.2;have h2:=aZ y;omega) (by have h1:=HN.out.2.2;simp;omega);refine C.mono ?_;clear C;rintro _ w3 ⟨v3,rfl,hL,hG⟩;have HL2:=J hL;have HO2:=J (HO2.out.step hG);have HO4:=J (HO4.out.step hG);obtain⟨h,rfl,rfl⟩:∃h':H W0 (gw0 gg) l1,h'.W=w3/\h'.v=v3:=⟨mkH (h.gro.trans hG),rfl,rfl⟩;clear hL hG;go_wp2_with fail;have C:=IH1.out.2 W0 h.W h.v (.slice L61 (lo.length+1) c61) (xs++aD (l.take k) d lo++[Th.stmt y d lo]++aD y.f6 (d+1) (lo++[y.f1])) (lo++[y.f1]) A13 c13 (d+1) (wrap64 ((d:Int)+1)) (fP (by have:=HN.out.2.1;omega)) h.gro.below K.out.2.2.2.2.2.2.2 K.out.2.2.2.2.2.2.1 HL2.out HO4.out (by have h1:=HS.out.1;have h2:=aZ y;have h3:=aK y.f3;have h4:=aK y.f2;have h5:=bV y.f6 (d+1) (lo++[y.f1]);simp only[ar,az,bB];omega) (by have h1:=HS.out.2;have h2:=aZ y;omega) (by have h1:=HN.out.2.2;simp;omega);refine C.mono ?_;clear C;rintro _ w3 ⟨v3,rfl,hL,hG⟩;have HL2:=J hL;have HO2:=J (HO2.out.step hG);have HO4:=J (HO4.out.step hG);obtain⟨h,rfl,rfl⟩:∃h':H W0 (gw0 gg) l1,h'.W=w3/\h'.v=v3:=⟨mkH (h.gro.trans hG),rfl,rfl⟩;clear hL hG;go_wp2_with fail
    have hx:xs++aD (l.take k) d lo++[Th.stmt y d lo]++aD y.f6 (d+1) (lo++[y.f1])++aD y.f7 (d+1) (lo++[y.f1])=xs++aD (l.take (k+1)) d lo:=by
     have e1:=T.out;simp only[bW]at e1;rw[e1,cK];simp[H0.out,inLoop]
    refine⟨⟨k+1,h.v,h.W,by go_num,rfl,rfl,by omega,⟨hx ▸ HL2.out,HREL.out.2.1.trans ((Gro.of_below l1 HBB.out ((ak _ _).alloc (ai _) _)).trans h.gro),HO2.out⟩⟩,by simp[intOf];omega⟩
   ·go_upto_region 5 with (fail)
    refine aG ?_;intro gg;have gout:∀{o:Obj} (g:G (W1.alloc o)),Below W1.heap.size W1 g.W:=fun g=>((ak _ _).alloc (ai _) _).trans (g.below.mono (by simp))
    go_wp2_with ((with_reducible refine bX (b:=.append) (xs:= #[.tmp 22,.tmp 27]) rfl ?_);at_builtin;refine Kd.eG (kTh W0) (w0:=W0) W0.heap.size rfl (.tmp 22) (.tmp 27) 112 125 zTh 304 rfl iU lK rfl (show 0<22 by decide) (by decide) l1 ((xs++aD (l.take k) d lo).map d9) (d9 (.stmt y d lo)) [.int .i64 1,.int .i64 0,.int .i64 y.f0,.string y.f1,.int .i64 y.f2.f0,.int .u64 y.f2.f1,.string y.f2.f2,.slice A5 y.f2.f3.length c5,.int .i64 y.f3.f0,.int .u64 y.f3.f1,.string y.f3.f2,.slice A9 y.f3.f3.length c9,.int .u64 y.f4,.int .u64 y.f5,.slice A12 y.f6.length c12,.slice A13 y.f7.length c13,.int .i64 0,.int .u64 0,.string ⟨#[]⟩,.slice aj 0 0,.int .i64 (d:Int),.slice La lo.length lc] (fun _=>True) (fun k=>ae k≠l1.ownBlock) rfl rfl (lM (x:=d9 (.stmt y d lo)) (fH W0 y K.out.1 K.out.2.1 K.out.2.2.1 K.out.2.2.2.1 K.out.2.2.2.2.1 K.out.2.2.2.2.2.1 K.out.2.2.2.2.2.2.1 K.out.2.2.2.2.2.2.2) (fL W0) (HREL.out.2.2.below (gout gg))) (fun _ h=>⟨trivial,h⟩) (fun _ _=>trivial) (HREL.out.1.below (gout gg)) (HBB.out.trans ((gout gg).mono HBB.out.size)) (bg HBB.out.size (gout gg).size) (by have:=HS.out;have:=aZ y;simp;omega) ?_;intro v2 w2 ho hb2 hg2 hat2;obtain⟨h,rfl,rfl⟩:∃h:H W0 (gw0 gg) l1,h.W=w2/\h.v=v2:=⟨mkH ((Gro.of_below l1 (HBB.out.trans (((ak W1.heap.size W1).alloc (ai _) _).mono HBB.out.size)) gg.below).trans ⟨hb2,hg2,hat2⟩),rfl,rfl⟩;have HL2:=J (show Li 125 W0 h.W h.v (xs++aD (l.take k) d lo++[.stmt y d lo]) by unfold Li;rw[cw];exact ho);have HO2:=J ((HREL.out.2.2.below (gout gg)).step ⟨hb2,hg2,hat2⟩);clear ho hb2 hg2 hat2)
    have C:=IH1.out.1 W0 h.W h.v (.slice La lo.length lc) (xs++aD (l.take k) d lo++[Th.stmt y d lo]) (lo) A12 c12 (d+1) (wrap64 ((d:Int)+1)) (fP (by have:=HN.out.2.1;omega)) h.gro.below K.out.2.2.2.2.2.1 K.out.2.2.2.2.1 HL2.out HO2.out (by have h1:=HS.out.1;have h2:=aZ y;have h3:=aK y.f3;have h4:=aK y.f2;have h5:=bV y.f6 (d+1) (lo);simp only[ar,az,bB];omega) (by have h1:=HS.out.2;have h2:=aZ y;omega) (by have h1:=HN.out.2.2;simp;omega);refine C.mono ?_;clear C;rintro _ w3 ⟨v3,rfl,hL,hG⟩;have HL2:=J hL;have HO2:=J (HO2.out.step hG);obtain⟨h,rfl,rfl⟩:∃h':H W0 (gw0 gg) l1,h'.W=w3/\h'.v=v3:=⟨mkH (h.gro.trans hG),rfl,rfl⟩;clear hL hG;go_wp2_with fail;have C:=IH1.out.2 W0 h.W h.v (.slice La lo.length lc) (xs++aD (l.take k) d lo++[Th.stmt y d lo]++aD y.f6 (d+1) (lo)) (lo) A13 c13 (d+1) (wrap64 ((d:Int)+1)) (fP (by have:=HN.out.2.1;omega)) h.gro.below K.out.2.2.2.2.2.2.2 K.out.2.2.2.2.2.2.1 HL2.out HO2.out (by have h1:=HS.out.1;have h2:=aZ y;have h3:=aK y.f3;have h4:=aK y.f2;have h5:=bV y.f6 (d+1) (lo);simp only[ar,az,bB];omega) (by have h1:=HS.out.2;have h2:=aZ y;omega) (by have h1:=HN.out.2.2;simp;omega);refine C.mono ?_;clear C;rintro _ w3 ⟨v3,rfl,hL,hG⟩;have HL2:=J hL;have HO2:=J (HO2.out.step hG);obtain⟨h,rfl,rfl⟩:∃h':H W0 (gw0 gg) l1,h'.W=w3/\h'.v=v3:=⟨mkH (h.gro.trans hG),rfl,rfl⟩;clear hL hG;go_wp2_with fail
    have hx:xs++aD (l.take k) d lo++[Th.stmt y d lo]++aD y.f6 (d+1) (lo)++aD y.f7 (d+1) (lo)=xs++aD (l.take (k+1)) d lo:=by
     have e1:=T.out;simp only[bW]at e1;rw[e1,cK];simp[n1,n2,n3,n4,inLoop]
    refine⟨⟨k+1,h.v,h.W,by go_num,rfl,rfl,by omega,⟨hx ▸ HL2.out,HREL.out.2.1.trans ((Gro.of_below l1 HBB.out ((ak _ _).alloc (ai _) _)).trans h.gro),HO2.out⟩⟩,by simp[intOf];omega⟩
  ·go_wp2_with fail;go_ret;refine⟨l1,rfl,?_,HREL.out.2.1⟩;have h1:=HREL.out.1;rw[show k=l.length by omega,df]at h1;exact h1
theorem stmts_calls:∀(n:Nat) (l:List S119),cu l<=n->StmtsC l:=by
 intro n
 induction n with
 |zero=>intro l h;cases l <;> simp at h <;> omega
 |succ n ih=>
  intro l h;refine stmts_walk l fun x hx=> ?_;have h1:=fe hx;obtain⟨a,b,c,d,e,f,g,k⟩:=x;simp only[S119.mk.sizeOf_spec]at h1;exact⟨ih _ (by show cu g<=n;omega),ih _ (by show cu k<=n;omega)⟩
end
section
attribute [local go_sem] G.cell H.cell
theorem fG (k:Nat):(cr (k+1)).map Th.decl=(cr k).map Th.decl++[Th.decl k]:=by rw[List.range_succ,cw];rfl
theorem List_calls (nm:ByteArray)(wd ln:Int)(ds:List S70)(bd:List S119)(A3:Option Addr)(c3:Nat)(A4:Option Addr)(c4:Nat)(w:World)(hdl:ds.length<=1048576)(hb:cU.C w A4 bd.length bd)(hlb:bd.length<=c4)(hbb:Ot.bH bd<=1048576):
 Calls au 79 #[.agg #[.string nm,.int .i64 wd,.int .i64 ln,.slice A3 ds.length c3,.slice A4 bd.length c4]] w fun r w'=>∃v1,r=.returned v1/\Li 125 w w' v1 (things ds bd)/\Below w.heap.size w w':=by
 have HB:=J hb;have HD:=J (aq hdl (aq hlb hbb))
 have hlm:ds.length<=9223372036854775807:=by omega
 clear hb hdl hlb hbb;go_enter Tryz.func79,Tryz.ntmps79
 go_upto_region 2 with (fail)
 refine aG ?_;intro gg;go_wp2_with fail
 go_loopw [4,3] (fun i l2 W=>∃(k:Nat) (h:H w (gw0 gg) (.slice aj 0 0)),i=.int .i64 k/\h.v=l2/\h.W=W/\k<=ds.length/\Aside0 (Li 125 w h.W h.v ((cr k).map Th.decl))) (fun i _ _=>ds.length - (intOf i).toNat)
 case atStart=>
  refine⟨0,mkH (v1:=.slice aj 0 0) (w:=gg.W) (Gro.of_below _ ((ak _ _).alloc (ai _) _) gg.below),rfl,rfl,rfl,br _,⟨Kd.jQ _ _ _ _ _⟩⟩
 case round=>
  obtain⟨k,h,rfl,rfl,rfl,hk,HL⟩:=hrel
  have hne:ae w.heap.size≠(Value.slice aj 0 0).ownBlock:=by simp[dm]
  by_cases hlt:k<ds.length
  ·have hi1:(k:Int)<(ds.length:Int):=by omega
   go_wp2_with ((with_reducible refine bX (b:=.append) (xs:= #[.tmp 12,.tmp 15]) rfl ?_);at_builtin;refine Kd.eG (kTh w) (w0:=w) w.heap.size rfl (.tmp 12) (.tmp 15) 112 125 zTh 304 rfl iU lK rfl (show 0<22 by decide) (by decide) h.v ((cr k).map Th.decl |>.map d9) (d9 (.decl k)) [.int .i64 0,.int .i64 (k:Int),.int .i64 0,.string ⟨#[]⟩,.int .i64 0,.int .u64 0,.string ⟨#[]⟩,.slice aj 0 0,.int .i64 0,.int .u64 0,.string ⟨#[]⟩,.slice aj 0 0,.int .u64 0,.int .u64 0,.slice aj 0 0,.slice aj 0 0,.int .i64 0,.int .u64 0,.string ⟨#[]⟩,.slice aj 0 0,.int .i64 0,.slice aj 0 0] (fun _=>True) (fun k=>ae k≠h.v.ownBlock) rfl rfl (lM (x:=d9 (.decl k)) (k119_zero w) (fL w) (Kd.jQ _ _ _ _ _)) (fun _ h=>⟨trivial,h⟩) (fun _ _=>trivial) HL.out h.gro.below (h.gro.below.size) (by have:=HD.out.1;simp;omega) ?_;intro v2 w2 ho hb2 hg2 hat2;have HL2:=J (show Li 125 w w2 v2 ((cr (k+1)).map Th.decl) by unfold Li;rw[fG,cw];exact ho);obtain⟨h,rfl,rfl⟩:∃h':H w (gw0 gg) (.slice aj 0 0),h'.W=w2/\h'.v=v2:=⟨mkH (h.gro.trans ⟨hb2,hg2,hat2⟩),rfl,rfl⟩;clear ho hb2 hg2 hat2)
   exact⟨⟨k+1,h,by go_num,rfl,rfl,by omega,HL2⟩,by simp[intOf];omega⟩
  ·go_wp2_with fail;have C:=stmts_calls _ bd (ai _) w h.W h.v (.slice aj 0 0) ((cr k).map Th.decl) [] A4 c4 1 1 rfl h.gro.below HB.out HD.out.2.1 HL.out (Lo.nil _ _ _) (by have:=HD.out;simp;omega) (by have:=HD.out;omega) (by simp);refine C.mono ?_;clear C;rintro _ w3 ⟨v3,rfl,hL,hG⟩;have HR:=J (aq hL hG);clear hL hG;go_wp2_with fail;go_ret;refine⟨v3,rfl,?_,HR.out.2.below⟩;have h1:=HR.out.1;rw[show k=ds.length by omega]at h1;exact h1
end
section
attribute [local go_sem] G.cell
theorem plus_min:∀(d:Nat) (l:List Nat) (i k s:Nat),(∀x∈l,x<=1099511627776)->i+d=l.length->d<k->s<=1099511627776->l.length<100->
 wf_plus.l0 k (s:Int) (l.map fun(n:Nat)=>(n:Int)) (l.length:Int) (i:Int)=ae ((min (s+(l.drop i).sum) 1099511627776:Nat):Int):=by
 intro d
 induction d with
 |zero=>
  intro l i k s hp h hk hs _;obtain⟨k,rfl⟩:∃a,k=a+1:=⟨k - 1,by omega⟩;rw[wf_plus.l0,if_neg (by omega),gr (by omega)];simp;omega
 |succ d ih=>
  intro l i k s hp h hk hs hl;obtain⟨k,rfl⟩:∃a,k=a+1:=⟨k - 1,by omega⟩
  have hi:i<l.length:=by omega
  have e:wrap64 ((i:Int)+1)=((i+1:Nat):Int):=by unfold wrap64;omega
  have er:rd (l.map fun(n:Nat)=>(n:Int)) (i:Int)=((l[i]:Nat):Int):=by simp[rd,aw,hi]
  have hd:l.drop i=l[i]::l.drop (i+1):=dw hi;have hx:=hp _ (dz hi);rw[hd,List.sum_cons];generalize l[i]=x at*
  have hm:mn ((s+x:Nat):Int) 1099511627776=((min (s+x) 1099511627776:Nat):Int):=by unfold mn;split <;> omega
  rw[wf_plus.l0,if_pos (by omega),if_pos (by omega),if_pos (by simp;omega),e,er,wrap_add (by omega),hm,ih l (i+1) k _ hp (by omega) (by omega) (by omega) hl];refine congrArg ae ?_;omega
theorem cD (l:List Nat)(r:Nat)(hr:r=min l.sum 1099511627776)(hx:∀x∈l,x<=1099511627776)(hl:l.length<100)(A:Option Addr)(c:Nat)(w:World)(hk:Kd.C (Kd.int .i64) w A l.length (l.map fun(n:Nat)=>(n:Int)))(hc:l.length<=c):
 Calls au 155 #[.slice A l.length c] w fun e w'=>e=.returned (.int .i64 (r:Int))/\Below w.heap.size w w':=by
 have h:=wf_plus.calls 101 A c (l.map fun(n:Nat)=>(n:Int)) (r:Int) w (by simpa using hk) (by simpa using hc) (by
  have:=plus_min l.length l 0 101 0 hx (by omega) (by omega) (by omega) hl;unfold wf_plus.f;rw[hr]
  simpa using this)
 simpa using h
theorem eE (w:World)(l:List Nat)(e:TypeId)(hm:l.length<=100):Kd.C (Kd.int .i64) (w.alloc (.cells (l.map fun(n:Nat)=>Value.int .i64 n).toArray e)) (ae ⟨w.heap.size,0,aj⟩) l.length (l.map fun(n:Nat)=>(n:Int)):=by
 have h:=lit_ints w (l.map fun(n:Nat)=>(n:Int)) e (by simpa using hm)
 simpa[List.map_map,Function.comp_def]using h
theorem times_calls (n s r:Nat)(hn:n<18446744073709551616)(hs:s<=1099511627776)(hr:r=min (n*s) 1099511627776)(w:World):
 Calls au 157 #[.int .u64 n,.int .i64 s] w fun e w'=>e=.returned (.int .i64 (r:Int))/\Below w.heap.size w w':=by
 have HR:=J hr;clear hr
 rcases bu s with rfl | h0
 ·go_enter Tryz.func157,Tryz.ntmps157;go_wp2_with fail;go_ret;exact⟨by rw[HR.out];simp,(by first | exact ak _ _ | exact(ak _ _).drew)⟩
 rcases bu n with rfl | h1
 ·have b0:((s:Int)==0)=O:=by simp;omega
  have b1:¬(s:Int)=0:=by omega
  go_enter Tryz.func157,Tryz.ntmps157;go_wp2_with fail;go_ret;exact⟨by rw[HR.out];simp,(by first | exact ak _ _ | exact(ak _ _).drew)⟩
 have b0:((s:Int)==0)=O:=by simp;omega
 have b1:¬(s:Int)=0:=by omega
 have b2:((n:Int)==0)=O:=by simp;omega
 have b3:¬(n:Int)=0:=by omega
 have hq:Int.tdiv 1099511627776 (s:Int)=((1099511627776 / s:Nat):Int):=by
  rw[show(1099511627776:Int)=((1099511627776:Nat):Int) from rfl,←Int.ofNat_tdiv]
 have hq1:1099511627776 / s<=1099511627776:=Nat.div_le_self _ _;obtain⟨q,hq2⟩:∃q,q=1099511627776 / s:=⟨_,rfl⟩;rw[←hq2]at hq hq1;have hw1:wrap64 (q:Int)=(q:Int):=wrap_id (by omega) (by omega)
 have hw2:IntKind.u64.wrap (q:Int)=(q:Int):=by simp only[IntKind.wrap,IntKind.bits,IntKind.signed,Bool.false_and,Bool.false_eq_true,if_false];omega
 have Q2:=J hq2;have H0:=J h0;clear hq2 hn h0 h1
 rcases gh q n with h | h
 ·have h3:(q:Int)<(n:Int):=by omega
  have HH:=J h;clear h;go_enter Tryz.func157,Tryz.ntmps157;go_wp2_with fail;go_ret;refine⟨?_,(by first | exact ak _ _ | exact(ak _ _).drew)⟩
  have:1099511627776<=n*s:=by
   have h6:=HH.out;rw[Q2.out]at h6;have h5:=(Nat.div_lt_iff_lt_mul H0.out).1 h6;omega
  rw[HR.out,Nat.min_eq_right this];rfl
 ·have h3:¬(q:Int)<(n:Int):=by omega
  have HH:=J h;have hw3:wrap64 (n:Int)=(n:Int):=wrap_id (by omega) (by omega);clear h;go_enter Tryz.func157,Tryz.ntmps157;go_wp2_with fail;go_ret;refine⟨?_,(by first | exact ak _ _ | exact(ak _ _).drew)⟩
  have h5:n*s<=1099511627776:=by
   have:=Nat.div_mul_le_self 1099511627776 s;rw[←Q2.out]at this;exact bg (gn s HH.out) this
  rw[HR.out,Nat.min_eq_left h5]
  show Ending.returned (Value.int .i64 (wrap64 ((n:Int)*(s:Int))))= _
  rw[wrap_id (by rw[←Int.natCast_mul];omega) (by rw[←Int.natCast_mul];omega),Int.natCast_mul]
theorem weigh_v {x:S116}(hb:aO x<=1099511627776)(A:Option Addr)(c:Nat)(w:World)(hc:cH.C w A x.f3.length x.f3)(hl:x.f3.length<=c):
 Calls au 156 #[.agg #[.int .i64 x.f0,.int .u64 x.f1,.string x.f2,.slice A x.f3.length c]] w fun e w'=>e=.returned (.int .i64 ((aO x:Nat):Int))/\Below w.heap.size w w':=weigh_calls _ x (ai _) hb A c w hc hl
theorem size_v {f:FuncId}{cap:Nat}{l:List S119}(h:SizeC f cap l){r:Nat}(hr:r=min (dQ l) cap)(A:Option Addr)(c:Nat)(w:World)(hc:cU.C w A l.length l)(hl:l.length<=c):
 Calls au f #[.slice A l.length c] w fun e w'=>e=.returned (.int .i64 (r:Int))/\Below w.heap.size w w':=hr ▸ h A c w hc hl
end
section
attribute [local go_sem] G.cell
theorem Li.at {W0 w:World}{A:Option Addr}{n c:Nat}{xs:List Th}(h:Li 125 W0 w (.slice A n c) xs){i:Nat}(hi:i<xs.length):∃b A5 c5 A9 c9 A12 c12 A13 c13 A19 c19 A21 c21,A=ae ⟨b,0,aj⟩/\
 w.rangeAt b (i*22) [.int .i64 (d9 (eQ xs i)).is,.int .i64 (d9 (eQ xs i)).d,.int .i64 (d9 (eQ xs i)).s.f0,.string (d9 (eQ xs i)).s.f1,.int .i64 (d9 (eQ xs i)).s.f2.f0,.int .u64 (d9 (eQ xs i)).s.f2.f1,.string (d9 (eQ xs i)).s.f2.f2,.slice A5 (d9 (eQ xs i)).s.f2.f3.length c5,.int .i64 (d9 (eQ xs i)).s.f3.f0,.int .u64 (d9 (eQ xs i)).s.f3.f1,.string (d9 (eQ xs i)).s.f3.f2,.slice A9 (d9 (eQ xs i)).s.f3.f3.length c9,.int .u64 (d9 (eQ xs i)).s.f4,.int .u64 (d9 (eQ xs i)).s.f5,.slice A12 (d9 (eQ xs i)).s.f6.length c12,.slice A13 (d9 (eQ xs i)).s.f7.length c13,.int .i64 (d9 (eQ xs i)).e.f0,.int .u64 (d9 (eQ xs i)).e.f1,.string (d9 (eQ xs i)).e.f2,.slice A19 (d9 (eQ xs i)).e.f3.length c19,.int .i64 (d9 (eQ xs i)).deep,.slice A21 (d9 (eQ xs i)).loops.length c21]/\(d9 (eQ xs i)).loops.length<=c21/\Kd.string.C w A21 (d9 (eQ xs i)).loops.length (d9 (eQ xs i)).loops:=by
 obtain⟨A',c',e',l',hC⟩:=Kd.fF h;obtain⟨_,inner,ho,_⟩:=h
 rcases ho.2 with ⟨_,hn⟩ | ⟨g,cap,cur,e,_⟩
 ·simp at hn
  rw[hn]at hi;exact absurd hi (dn _)
 ·injection e with e1 e2 e3;injection e' with e4 e5 e6;subst e1 e4;obtain⟨ad,cs,eA,el,hK,hc⟩:=Kd.C_get hC (d9 (.decl 0)) (i:Int) (bc _) (by simp;omega);injection eA with eA;subst eA
  have ex:(xs.map d9).getD (i:Int).toNat (d9 (.decl 0))=d9 (eQ xs i):=by
   unfold eQ;rw[ax,aw,aw,List.getElem?_map,av hi];rfl
  rw[ex]at hK;obtain⟨A5,c5,A9,c9,A12,c12,A13,c13,A19,c19,A21,c21,ecs,_,_,_,_,_,_,_,_,_,_,l21,g21⟩:=kTh_open hK;subst ecs;refine⟨g,A5,c5,A9,c9,A12,c12,A13,c13,A19,c19,A21,c21,rfl,fun j u hj=> ?_,l21,g21⟩;have:=hc j u hj;rw[Addr.add_mid,ax,Nat.zero_add]at this;exact this
structure PGood (nm:ByteArray)(wd ln:Int)(ds:List S70)(bd:List S119):Prop where
 good:Ot.GoodP ⟨nm,wd,ln,ds,bd⟩
 bulk:Ot.bulkP ⟨nm,wd,ln,ds,bd⟩<=1048576
theorem ds_bulk (ds:List S70):ds.length<=(ds.map Ot.bulkD).sum:=by
 induction ds with
 |nil=>simp
 |cons d r ih=>simp[Ot.bulkD];omega
theorem PGood.sizes {nm:ByteArray}{wd ln:Int}{ds:List S70}{bd:List S119}(h:PGood nm wd ln ds bd):ds.length<=1048576/\Ot.bH bd<=1048576:=by
 have h1:=h.bulk;have h2:=ds_bulk ds;simp only[Ot.bulkP]at h1;omega
theorem fault_ret {a b c:Int}{r:Ans}(h:r=⟨a,b,c⟩):Ending.returned (.tuple #[.int .i64 a,.int .i64 b,.int .i64 c])=.returned (.tuple #[.int .i64 r.c,.int .i64 r.at',.int .i64 r.e]):=by rw[h]
end
section
attribute [local go_sem] G.cell
def sizeS (cap:Nat)(nm:ByteArray)(wd ln:Int)(ds:List S70)(bd:List S119):Int × Int:=
 if(cJ nm wd ln ds bd).e=0 then(((min (dQ bd) cap:Nat):Int),0)else(0,(cJ nm wd ln ds bd).e)
end
section
attribute [local go_sem] G.cell
def aW (W:World):Value->List ByteArray->Prop
 |v,[]=>v=.pointer aj
 |v,nm::r=>∃b nx,v=.pointer (ae ⟨b,0,aj⟩)/\W.heap[b]? =ae (.cells #[.string nm,nx] 121 (0,0))/\aW W nx r
structure Gw (Wb W W':World)(b:Nat):Prop where
 below:Below Wb.heap.size Wb W'
 grown:W.grownBy W' (ae b)
theorem Gw.trans {Wb W W1 W2:World}{b:Nat}(h:Gw Wb W W1 b)(k:Gw Wb W1 W2 b):Gw Wb W W2 b:=
 ⟨k.below,⟨k.grown.os.trans h.grown.os,k.grown.tape.trans h.grown.tape,k.grown.output.trans h.grown.output,bg h.grown.size k.grown.size,fun i hi hn=>(k.grown.block i (ee hi h.grown.size) hn).trans (h.grown.block i hi hn)⟩⟩
theorem Gw.of_below {Wb W W1:World}(b:Nat)(hb:Below Wb.heap.size Wb W)(h:Below W.heap.size W W1):Gw Wb W W1 b:=
 ⟨hb.trans (h.mono hb.size),⟨h.os,h.tape,h.output,h.size,fun k hk _=>h.block k hk⟩⟩
theorem aW.step {W W':World}{b n:Nat}{sv:Value}(hw:W.heap[b]? =ae (.cells #[.int .i64 n,sv] 183 (0,0)))(hg:W.grownBy W' (ae b)):∀{lo:List ByteArray} {v:Value},aW W v lo->aW W' v lo
 | [],v,h=>h
 |nm::r,v,⟨c,nx,hv,hc,hr⟩=>⟨c,nx,hv,(hg.block c (aR hc) (fun e=>by
   injection e with e;subst e;rw[hw]at hc;injection hc with hc;injection hc with _ hc
   exact absurd hc (by decide))).trans hc,aW.step hw hg hr⟩
theorem aW.below {W W':World}(hb:Below W.heap.size W W'):∀{lo:List ByteArray} {v:Value},aW W v lo->aW W' v lo
 | [],v,h=>h
 |nm::r,v,⟨c,nx,hv,hc,hr⟩=>⟨c,nx,hv,aE hc hb,aW.below hb hr⟩
def ExAt (Wb:World)(p:Value)(e:S116):Prop:=∃(a:Addr) (A:Option Addr) (c:Nat),p=.pointer (ae ⟨a.block,a.off,aj⟩)/\Wb.rangeAt a.block a.off [.int .i64 e.f0,.int .u64 e.f1,.string e.f2,.slice A e.f3.length c]/\e.f3.length<=c/\cH.C Wb A e.f3.length e.f3
def StAt (Wb:World)(p:Value)(x:S119):Prop:=∃(a:Addr) (A5:Option Addr) (c5:Nat) (A9:Option Addr) (c9:Nat) (A12:Option Addr) (c12:Nat) (A13:Option Addr) (c13:Nat),p=.pointer (ae ⟨a.block,a.off,aj⟩)/\
 Wb.rangeAt a.block a.off [.int .i64 x.f0,.string x.f1,.int .i64 x.f2.f0,.int .u64 x.f2.f1,.string x.f2.f2,.slice A5 x.f2.f3.length c5,.int .i64 x.f3.f0,.int .u64 x.f3.f1,.string x.f3.f2,.slice A9 x.f3.f3.length c9,.int .u64 x.f4,.int .u64 x.f5,.slice A12 x.f6.length c12,.slice A13 x.f7.length c13]/\
 x.f2.f3.length<=c5/\cH.C Wb A5 x.f2.f3.length x.f2.f3/\x.f3.f3.length<=c9/\cH.C Wb A9 x.f3.f3.length x.f3.f3/\x.f6.length<=c12/\cU.C Wb A12 x.f6.length x.f6/\x.f7.length<=c13/\cU.C Wb A13 x.f7.length x.f7
def ThP (Wb W:World)(dp sp ep:Value)(dI:Int)(lp:Value):Th->Prop
 | .decl i=>(∃a,dp=.pointer (ae a))/\sp=.pointer aj/\ep=.pointer aj/\dI=0/\lp=.pointer aj
 | .stmt s d lo=>dp=.pointer aj/\StAt Wb sp s/\ep=.pointer aj/\dI=(d:Int)/\aW W lp lo.reverse
 | .expr e lo=>dp=.pointer aj/\sp=.pointer aj/\ExAt Wb ep e/\dI=0/\aW W lp lo.reverse
theorem ThP.below {Wb W W':World}{dp sp ep:Value}{dI:Int}{lp:Value}{t:Th}(h:ThP Wb W dp sp ep dI lp t)(hb:Below W.heap.size W W'):ThP Wb W' dp sp ep dI lp t:=by
 cases t with
 |decl i=>exact h
 |stmt s d lo=>exact⟨h.1,h.2.1,h.2.2.1,h.2.2.2.1,h.2.2.2.2.below hb⟩
 |expr e lo=>exact⟨h.1,h.2.1,h.2.2.1,h.2.2.2.1,h.2.2.2.2.below hb⟩
theorem ThP.step {Wb W W':World}{b n:Nat}{sv:Value}(hw:W.heap[b]? =ae (.cells #[.int .i64 n,sv] 183 (0,0)))(hg:W.grownBy W' (ae b)){dp sp ep:Value}{dI:Int}{lp:Value}{t:Th}(h:ThP Wb W dp sp ep dI lp t):ThP Wb W' dp sp ep dI lp t:=by
 cases t with
 |decl i=>exact h
 |stmt s d lo=>exact⟨h.1,h.2.1,h.2.2.1,h.2.2.2.1,h.2.2.2.2.step hw hg⟩
 |expr e lo=>exact⟨h.1,h.2.1,h.2.2.1,h.2.2.2.1,h.2.2.2.2.step hw hg⟩
def jC (n:Nat):List PanicEntry:=[{ v:=.iface 289 (.agg #[.int .i64 n]),recovered:=O }]
def outE (bad:Bool)(n:Nat):Ending:=if bad=ac then .panicked (jC n)else .returned (.tuple #[])
def SeeOK (Wb:World)(bw:Nat)(R:Th->Prop)(f:Th->Bool):Prop:=∀(W:World) (n:Nat) (dp sp ep:Value) (dI:Int) (lp:Value) (t:Th),R t->Below Wb.heap.size Wb W->ThP Wb W dp sp ep dI lp t->
 Calls au 284 #[.agg #[.int .i64 n,dp,sp,ep,.int .i64 dI,lp],.pointer (ae ⟨bw,0,aj⟩)] W fun r W'=>r=outE (f t) n/\Below W.heap.size W W'
abbrev seeV (bw:Nat):Value:=.func (.func 284) #[] #[.pointer (ae ⟨bw,0,aj⟩)]
theorem callP_ {P:Program}{ops:Array Oper}{Q:Exit->Act->World->Prop}{oi:Oper}{N:Option Tmp}{a:Act}{w:World}{K:Act->World->Prop}(f:FuncId)(args:Array Value)(hw:ct oi (yielded ops a.tmps)=ac)(hN:oi.dst=N)(hrun:(execOp a.eval oi).run P w=.ok (.enter f args) w)
 (h:Calls P f args w fun e w'=>(∃v,e=.returned v/\K (a.put N v) w')\/(∃c,e=.panicked c/\Q (.panic c) a w')):if ct oi (yielded ops a.tmps)=ac then fq P oi a w K Q else K (a.put N undef) w:=by
 rw[if_pos hw];subst hN;unfold fq;rw[hrun,Oper.upon_enter];refine h.mono fun e w'' hh=> ?_
 rcases hh with ⟨v,rfl,hk⟩ | ⟨c,rfl,hk⟩
 ·exact hk
 ·exact hk
theorem jT {Wb:World}{bw b:Nat}{R:Th->Prop}{f:Th->Bool}(hs:SeeOK Wb bw R f)(hbb:Wb.heap.size<=b)(W:World)(n:Nat)(hn:n<4611686018427387904)(dp sp ep:Value)(n0 dI:Int)(lp:Value)(t:Th)(hR:R t)(hB:Below Wb.heap.size Wb W)
 (hw:W.heap[b]? =ae (.cells #[.int .i64 n,seeV bw] 183 (0,0))) (ht:ThP Wb W dp sp ep dI lp t):
 Calls au 122 #[.pointer (ae ⟨b,0,aj⟩),.agg #[.int .i64 n0,dp,sp,ep,.int .i64 dI,lp]] W fun r W'=>r=outE (f t) n/\W'.heap[b]? =ae (.cells #[.int .i64 ((n+1:Nat):Int),seeV bw] 183 (0,0))/\Gw Wb W W' b:=by
 have c0:W.cell? ⟨b,0,aj⟩=ae (.int .i64 n):=(aB hw 0).trans rfl;have c1:W.cell? ⟨b,1,aj⟩=ae (seeV bw):=(aB hw 1).trans rfl;have f0:=bS hw 0;have hlt:=aR hw;have hw1:wrap64 ((n:Int)+1)=((n+1:Nat):Int):=fP (by omega);have HS:=J hs;have HRT:=J hR;clear hR;have HT:=J ht;have HW:=J hw;have HB:=J hB;have HBB:=J hbb;clear hs ht hw hB hbb;go_enter Tryz.func122,Tryz.ntmps122
 go_upto_region 3 with (fail)
 refine aG ?_;intro gg
 have HX:=J (show Gw Wb W (gw0 gg) b from⟨(HB.out.setCell (p:=⟨b,0,aj⟩) HBB.out _).alloc (bg HB.out.size (by simp[fo])) _,⟨rfl,rfl,rfl,by simp[gw0,fo],fun i hi hne=>by
  rw[dr _ _ _ (by simpa[fo]using hi),cy _ _ _ _ (fun e=>hne (by rw[e]))]⟩⟩)
 have HLT:=J hlt
 have HXB:=J (show(gw0 gg).heap[b]? =ae (.cells #[.int .i64 ((n+1:Nat):Int),seeV bw] 183 (0,0)) by
  rw[dr _ _ _ (by simpa[fo]using hlt)]
  exact gL HW.out 0 _ rfl)
 have y1:∀g':G (gw0 gg),g'.W.cell? ⟨b,1,aj⟩=ae (seeV bw):=fun g'=>(g'.below.cell (p:=⟨b,1,aj⟩) (ee HLT.out HX.out.grown.size)).trans ((aB HXB.out 1).trans rfl);clear c0 c1 f0 hlt;refine gG (n:=6) (S:=fun w'=>∃g':G (gw0 gg),w'=g'.W) (ds:=[]) #[O,O,O,O,O,O] (by kernel_rfl) rfl rfl ⟨mkG (gg.2.drew),rfl⟩ (fun hHeld=> ?_);obtain⟨gd,hgd⟩:=hHeld;rw[hgd];clear hgd;refine bN (i:=0) (N:=ae 16) (v:= ?_) (a':= ?_) #[ac,O,O,O,O,O] rfl rfl (by kernel_rfl) (fun _ _ _ h=>h) (bi ⟨by rfl,?_⟩) ?_ ?_;rotate_left
 ·intro w';go_simp;with_reducible rfl
 rotate_left
 ·simp only[ay,aa,af,ag,aQ,aP];rfl
 refine bN (i:=1) (N:=ae 17) (v:= ?_) (a':= ?_) #[ac,ac,O,O,O,O] rfl rfl (by kernel_rfl) (fun _ _ _ h=>h) (bi ⟨by rfl,?_⟩) ?_ ?_;rotate_left
 ·intro w';go_simp;with_reducible rfl
 rotate_left
 ·simp only[ay,aa,af,ag,aQ,aP];rfl
 refine bN (i:=2) (N:=ae 18) (v:= ?_) (a':= ?_) #[ac,ac,ac,O,O,O] rfl rfl (by kernel_rfl) (fun _ _ _ h=>h) (bi ⟨by rfl,?_⟩) ?_ ?_;rotate_left
 ·intro w';go_simp;with_reducible rfl
 rotate_left
 ·simp only[ay,aa,af,ag,aQ,aP];rfl
 refine eO (i:=3) (N:=ae 19) (v:= ?_) (a':= ?_) #[ac,ac,ac,ac,O,O] rfl rfl (by kernel_rfl) (fun _ _ _ h=>h) (bi ⟨by rfl,?_⟩) ⟨gd,rfl⟩ ?_ ?_;rotate_left
 ·rintro w' ⟨g',rfl⟩;go_simp;with_reducible rfl
 rotate_left
 ·simp only[ay,aa,af,ag,aQ,aP];rfl
 refine eO (i:=4) (N:=ae 20) (v:= ?_) (a':= ?_) #[ac,ac,ac,ac,ac,O] rfl rfl (by kernel_rfl) (fun _ _ _ h=>h) (bi ⟨by rfl,?_⟩) ⟨gd,rfl⟩ ?_ ?_;rotate_left
 ·rintro w' ⟨g',rfl⟩;go_simp;with_reducible rfl
 rotate_left
 ·simp only[ay,aa,af,ag,aQ,aP];rfl
 refine jO (i:=5) (N:=ae 21) #[ac,ac,ac,ac,ac,ac] rfl rfl (by kernel_rfl) (by simp) (fun K hK=> ?_);refine callP_ 284 #[.agg #[.int .i64 n,dp,sp,ep,.int .i64 dI,lp],.pointer (ae ⟨bw,0,aj⟩)] (by rfl) rfl (by first | (go_simp;done) | (go_simp;rfl)) ?_;refine(HS.out gd.W n dp sp ep dI lp t HRT.out (HX.out.below.trans (gd.below.mono HX.out.below.size)) ((ThP.step HW.out HX.out.grown HT.out).below gd.below)).mono ?_;rintro _ w9 ⟨rfl,hb⟩;have HE:=J (aq ((gd.below.trans (hb.mono gd.below.size)).block b (ee HLT.out HX.out.grown.size)) (HX.out.trans (Gw.of_below b HX.out.below (gd.below.trans (hb.mono gd.below.size)))))
 cases hf:f t
 ·left;refine⟨.tuple #[],rfl,?_⟩;refine hK.out _ _ ⟨mkG (gd.below.trans (hb.mono gd.below.size)),rfl⟩ (fun _=> ?_);clear hK K;refine kG (by kernel_rfl) ?_;go_wp2_with fail
  first | go_end0 | skip
  exact⟨by rw[hf];rfl,HE.out.1.trans HXB.out,HE.out.2⟩
 ·right;exact⟨_,rfl,rfl,by rw[hf];rfl,HE.out.1.trans HXB.out,HE.out.2⟩
end
section
attribute [local go_sem] G.cell
def lC (f:Th->Bool):Nat->List Th->Ending
 |_,[]=>.returned (.tuple #[])
 |n,t::r=>if f t=ac then .panicked (jC n)else lC f (n+1) r
theorem dO {f:Th->Bool}:∀{n:Nat} {l:List Th},l.any f=O->lC f n l=.returned (.tuple #[])
 |_,[],_=>rfl
 |n,t::r,h=>by
  rw[gm,Bool.or_eq_false_iff]at h;rw[lC,if_neg (by simp[h.1]),dO h.2]
theorem eF {f:Th->Bool}:∀{n:Nat} {l:List Th},l.any f=ac->∃m,lC f n l=.panicked (jC m)
 |_,[],h=>by simp at h
 |n,t::r,h=>by
  rw[lC]
  by_cases ht:f t=ac
  ·rw[if_pos ht];exact⟨n,rfl⟩
  ·rw[if_neg ht];rw[gm]at h;exact eF (by simpa[ht]using h)
theorem dP {f:Th->Bool}:∀{n:Nat} {a r:List Th},a.any f=O->lC f n (a++r)=lC f (n+a.length) r
 |_,[],_,_=>rfl
 |n,t::s,r,h=>by
  rw[gm,Bool.or_eq_false_iff]at h;rw[fc,lC,if_neg (by simp[h.1]),dP h.2,List.length_cons]
  congr 1
  omega
theorem dU {f:Th->Bool}:∀{n:Nat} {m r:List Th},m.any f=ac->lC f n (m++r)=lC f n m
 |_,[],_,h=>by simp at h
 |n,t::s,r,h=>by
  rw[fc,lC,lC]
  by_cases ht:f t=ac
  ·rw[if_pos ht,if_pos ht]
  ·rw[if_neg ht,if_neg ht];rw[gm]at h;exact dU (by simpa[ht]using h)
theorem aW.ptr {W:World}{v:Value}{lo:List ByteArray}(h:aW W v lo):∃q,v=.pointer q:=by
 cases lo with
 |nil=>exact⟨aj,h⟩
 |cons nm r=>obtain⟨b,nx,hv,_⟩:=h;exact⟨_,hv⟩
theorem addr_eta {w:World}{a:Addr}{v:Value}(h:w.cell? a=ae v):a=⟨a.block,a.off,aj⟩:=by
 obtain⟨b,o,s⟩:=a
 cases s with
 |none=>rfl
 |some s=>
  unfold World.cell? at h
  simp at h
  split at h <;> simp at h
theorem ex_kid {Wb:World}{A:Option Addr}{n:Nat}{l:List S116}(h:cH.C Wb A n l){k:Nat}(hk:k<n):∃ad,A=ae ad/\ExAt Wb (.pointer (ae (ad.add (k*4)))) (bF l (k:Int)):=by
 obtain⟨ad,A3,c3,e,q0,q1,q2,q3,l3,g3⟩:=iR h (k:Int) (bc _) (by omega);rw[ax]at q0 q1 q2 q3;have he:=addr_eta q0;refine⟨ad,e,ad.add (k*4),A3,c3,by rw[←he],?_,l3,g3⟩;intro j v hj
 match j,hj with
 |0,hj=>simp at hj;subst hj;rw[fg,←he];exact q0
 |1,hj=>simp at hj;subst hj;exact q1
 |2,hj=>simp at hj;subst hj;rw[←q2]
 |3,hj=>simp at hj;subst hj;rw[←q3]
 |j+4,hj=>simp at hj
theorem exThs_app (a b:List S116)(lo:List ByteArray):bY (a++b) lo=bY a lo++bY b lo:=by
 induction a with
 |nil=>simp[bY]
 |cons x r ih=>rw[fc,bY,ih,bY,bh]
theorem lW (l:List S116)(k:Nat)(hk:k<l.length)(lo:List ByteArray):bY l lo=bY (l.take k) lo++(bJ (bF l (k:Int)) lo++bY (l.drop (k+1)) lo):=by
 have h:=exThs_app (l.take (k+1)) (l.drop (k+1)) lo;rw[List.take_append_drop,cP hk,i9,bh]at h;exact h
def WExpr (Wb:World)(bw b:Nat)(R:Th->Prop)(f:Th->Bool)(e:S116):Prop:=∀(W:World) (n:Nat) (p lp:Value) (lo:List ByteArray),(∀t∈bJ e lo,R t)->Below Wb.heap.size Wb W->W.heap[b]? =ae (.cells #[.int .i64 n,seeV bw] 183 (0,0))->ExAt Wb p e->aW W lp lo.reverse->n+aO e<4611686018427387904->
 Calls au 169 #[.pointer (ae ⟨b,0,aj⟩),p,lp] W fun r W'=>r=lC f n (bJ e lo)/\((bJ e lo).any f=O->W'.heap[b]? =ae (.cells #[.int .i64 ((n+aO e:Nat):Int),seeV bw] 183 (0,0)))/\Gw Wb W W' b
theorem wexpr_walk {Wb:World}{bw b:Nat}{R:Th->Prop}{f:Th->Bool}(hs:SeeOK Wb bw R f)(hbb:Wb.heap.size<=b)(e:S116)(ih:∀y∈e.f3,WExpr Wb bw b R f y):WExpr Wb bw b R f e:=by
 intro W n p lp lo hRR hB hw hx hsc hn;have HX:=J hx;obtain⟨lq,rfl⟩:=hsc.ptr;obtain⟨a,A,c,rfl,hr,hl,hC⟩:=hx;have HS:=J hs;have HRR:=J hRR;clear hRR;have HW:=J hw;have HB:=J hB;have HBB:=J hbb;have HSC:=J hsc;have HN:=J hn;have IH:=J ih;have HRG:=J hr;have HC:=J hC;have hlm:=hC.2.1;clear hs hw hB hbb hsc hn ih hr hC;go_enter Tryz.func169,Tryz.ntmps169;go_wp2_with fail;refine(jT HS.out HBB.out W n (by have:=HN.out;omega) (.pointer aj) (.pointer aj) (.pointer (ae ⟨a.block,a.off,aj⟩)) 0 0 (.pointer lq) (.expr e lo) (HRR.out _ (by rw[eW];exact fz)) HB.out HW.out ⟨rfl,rfl,HX.out,rfl,HSC.out⟩).mono ?_;rintro _ W1 ⟨rfl,hw1,hg1⟩
 rcases aH (f (.expr e lo))with hf | hf
 ·rw[hf];refine⟨rfl,?_,?_,hg1⟩
  ·rw[eW,lC,if_pos hf]
  ·intro h;rw[eW,gm,hf]at h;cases h
 rw[hf];have HF:=J hf;have HR1:=J (aq hw1 hg1);have z3:W1.cell? ⟨a.block,a.off+3,aj⟩=ae (.slice A e.f3.length c):=aM hg1.below (HRG.out 3 _ rfl);clear hw1 hg1 hf;rw[show outE O n=.returned (.tuple #[]) from rfl];go_wp2_with fail
 go_loopw [17] (fun i W=>∃(k:Nat) (W2:World),i=.int .i64 k/\W2=W/\k<=e.f3.length/\Aside0 (W2.heap[b]? =ae (.cells #[.int .i64 ((n+1+bD (e.f3.take k):Nat):Int),seeV bw] 183 (0,0))/\Gw Wb W1 W2 b/\(bY (e.f3.take k) lo).any f=O)) (fun i _=>e.f3.length - (intOf i).toNat)
 case atStart=>exact⟨0,_,rfl,rfl,br _,⟨by simpa[bD]using HR1.out.1,⟨HR1.out.2.below,⟨rfl,rfl,rfl,ai _,fun _ _ _=>rfl⟩⟩,by simp[bY]⟩⟩
 case round=>
  obtain⟨k,W2,rfl,rfl,hk,HK⟩:=hrel
  by_cases hlt:k<e.f3.length
  ·obtain⟨ad,e1,hkid⟩:=ex_kid HC.out hlt;cases e1;have HKID:=J hkid;clear hkid
   have hk1:(k:Int)<(e.f3.length:Int):=by omega
   have z3:W2.cell? ⟨a.block,a.off+3,aj⟩=ae (.slice (ae ad) e.f3.length c):=aM HK.out.2.1.below (HRG.out 3 _ rfl);have MEM:=J (gX hlt);have T:=J (aq (congrArg bD (cP hlt)) (congrArg (fun l=>bY l lo) (cP hlt)));have SP:=J (lW e.f3 k hlt lo);have WT:=J (fD e.f3 (k+1));obtain⟨y,hy⟩:∃y,y=bF e.f3 (k:Int):=⟨_,rfl⟩;rw[←hy]at HKID MEM T SP;clear hy
   have HNY:n+1+bD (e.f3.take k)+aO y<4611686018427387904:=by
    have h1:=HN.out;have h2:=T.out.1;have h3:=WT.out;rw[dR]at h2;rw[eC]at h1;omega
   have HNY:=J HNY;go_wp2_with fail;refine(IH.out _ MEM.out W2 (n+1+bD (e.f3.take k)) (.pointer (ae (ad.add (k*4)))) (.pointer lq) lo (fun t ht=>HRR.out t (by rw[eW,SP.out];simp[ht])) HK.out.2.1.below HK.out.1 HKID.out (((HSC.out.step HW.out HR1.out.2.grown)).step HR1.out.1 HK.out.2.1.grown) HNY.out).mono ?_;rintro _ W3 ⟨rfl,hw3,hg3⟩
   rcases aH ((bJ y lo).any f)with ha | ha
   ·obtain⟨m,hm⟩:=eF (n:=n+1+bD (e.f3.take k)) ha;rw[hm];refine⟨rfl,?_,?_,HR1.out.2.trans (HK.out.2.1.trans hg3)⟩
    ·rw[eW,lC,if_neg (by simp[HF.out]),SP.out,dP HK.out.2.2,dU ha,gM,←hm]
    ·intro h;rw[eW,SP.out]at h;simp[ha]at h
   ·rw[dO ha];have HA:=J ha;have HR3:=J (aq (hw3 ha) hg3);clear ha hw3 hg3;go_wp2_with fail;refine⟨⟨k+1,W3,by go_num,rfl,by omega,⟨?_,HK.out.2.1.trans HR3.out.2,?_⟩⟩,by simp[intOf];omega⟩
    ·have h1:=HR3.out.1;have h2:=T.out.1;rw[dR]at h2;rw[h2,←db];exact h1
    ·have h2:=T.out.2;simp only[i9]at h2;rw[h2,ed,HK.out.2.2,HA.out];rfl
  ·go_wp2_with fail
   first | go_end0 | skip
   have hke:k=e.f3.length:=by omega
   have h1:=HK.out;rw[hke,df]at h1
   have ha:(bJ e lo).any f=O:=by rw[eW,gm,HF.out,h1.2.2];rfl
   refine⟨(dO ha).symm,fun _=> ?_,HR1.out.2.trans h1.2.1⟩;rw[eC,←db];exact h1.1
theorem gE {Wb:World}{bw b:Nat}{R:Th->Prop}{f:Th->Bool}(hs:SeeOK Wb bw R f)(hbb:Wb.heap.size<=b):∀(n:Nat) (e:S116),cu e<=n->WExpr Wb bw b R f e:=by
 intro n
 induction n with
 |zero=>intro e h;obtain⟨a,b,s,l⟩:=e;simp at h
 |succ n ih=>exact fun e h=>wexpr_walk hs hbb e fun y hy=>ih y (fO rfl hy h)
end
section
attribute [local go_sem] G.cell
theorem st_kid {Wb:World}{A:Option Addr}{n:Nat}{l:List S119}(h:cU.C Wb A n l){k:Nat}(hk:k<n):∃ad bb oo A5 c5 A9 c9 A12 c12 A13 c13,A=ae ad/\ad.add (k*14)=⟨bb,oo,aj⟩/\
 Wb.rangeAt bb oo [.int .i64 (aI l (k:Int)).f0,.string (aI l (k:Int)).f1,.int .i64 (aI l (k:Int)).f2.f0,.int .u64 (aI l (k:Int)).f2.f1,.string (aI l (k:Int)).f2.f2,.slice A5 (aI l (k:Int)).f2.f3.length c5,.int .i64 (aI l (k:Int)).f3.f0,.int .u64 (aI l (k:Int)).f3.f1,.string (aI l (k:Int)).f3.f2,.slice A9 (aI l (k:Int)).f3.f3.length c9,.int .u64 (aI l (k:Int)).f4,.int .u64 (aI l (k:Int)).f5,.slice A12 (aI l (k:Int)).f6.length c12,.slice A13 (aI l (k:Int)).f7.length c13]/\
 (aI l (k:Int)).f2.f3.length<=c5/\cH.C Wb A5 (aI l (k:Int)).f2.f3.length (aI l (k:Int)).f2.f3/\(aI l (k:Int)).f3.f3.length<=c9/\cH.C Wb A9 (aI l (k:Int)).f3.f3.length (aI l (k:Int)).f3.f3/\
 (aI l (k:Int)).f6.length<=c12/\cU.C Wb A12 (aI l (k:Int)).f6.length (aI l (k:Int)).f6/\(aI l (k:Int)).f7.length<=c13/\cU.C Wb A13 (aI l (k:Int)).f7.length (aI l (k:Int)).f7:=by
 obtain⟨ad,A5,c5,A9,c9,A12,c12,A13,c13,e,q0,q1,q2,q3,q4,q5,q6,q7,q8,q9,q10,q11,q12,q13,l5,g5,l9,g9,l12,g12,l13,g13⟩:=lG h (k:Int) (bc _) (by omega);rw[ax]at q0 q1 q2 q3 q4 q5 q6 q7 q8 q9 q10 q11 q12 q13;have he:=addr_eta q0;refine⟨ad,(ad.add (k*14)).block,(ad.add (k*14)).off,A5,c5,A9,c9,A12,c12,A13,c13,e,he,?_,l5,g5,l9,g9,l12,g12,l13,g13⟩;intro j v hj
 match j,hj with
 |0,hj=>simp at hj;subst hj;rw[fg,←he];exact q0
 |1,hj=>simp at hj;subst hj;exact q1
 |2,hj=>simp at hj;subst hj;exact q2
 |3,hj=>simp at hj;subst hj;exact q3
 |4,hj=>simp at hj;subst hj;exact q4
 |5,hj=>simp at hj;subst hj;exact q5
 |6,hj=>simp at hj;subst hj;exact q6
 |7,hj=>simp at hj;subst hj;exact q7
 |8,hj=>simp at hj;subst hj;exact q8
 |9,hj=>simp at hj;subst hj;exact q9
 |10,hj=>simp at hj;subst hj;exact q10
 |11,hj=>simp at hj;subst hj;exact q11
 |12,hj=>simp at hj;subst hj;exact q12
 |13,hj=>simp at hj;subst hj;exact q13
 |j+14,hj=>simp at hj
theorem jK {w:World}{b o:Nat}{cs ds:List Value}(k:Nat)(h:w.rangeAt b o cs)(hd:∀(j:Nat) (v:Value),ds[j]? =ae v->cs[k+j]? =ae v):w.rangeAt b (o+k) ds:=fun j v hj=>by
 rw[db];exact h (k+j) v (hd j v hj)
theorem stThs_app (a b:List S119)(d:Nat)(lo:List ByteArray):aD (a++b) d lo=aD a d lo++aD b d lo:=by
 induction a with
 |nil=>simp[aD]
 |cons x r ih=>rw[fc,aD,ih,aD,bh]
theorem kU (l:List S119)(k:Nat)(hk:k<l.length)(d:Nat)(lo:List ByteArray):aD l d lo=aD (l.take k) d lo++(jN (aI l (k:Int)) d lo++aD (l.drop (k+1)) d lo):=by
 have h:=stThs_app (l.take (k+1)) (l.drop (k+1)) d lo;rw[List.take_append_drop,eT hk,bW,bh]at h;exact h
theorem st_form {x:S119}(h:stB x=ac):1<=x.f0/\x.f0<=5/\(x.f0=1\/x.f0=2\/x.f0=5->x.f6=[]/\x.f7=[])/\(x.f0=4->x.f7=[])/\bdB x.f6=ac/\bdB x.f7=ac:=by
 rw[stB_eq]at h;simp only[dg]at h;obtain⟨⟨h0,h6⟩,h7⟩:=h;unfold aS at h0;simp only[dg,decide_eq_true_eq]at h0;obtain⟨⟨⟨⟨⟨⟨⟨h1,h2⟩,_⟩,_⟩,_⟩,_⟩,h8⟩,h9⟩:=h0;refine⟨h1,h2,fun hk=>⟨?_,?_⟩,fun hk=> ?_,h6,h7⟩
 ·rw[if_neg (by omega)]at h8;exact dx.1 h8
 ·rw[if_neg (by omega)]at h9;exact dx.1 h9
 ·rw[if_neg (by omega)]at h9;exact dx.1 h9
theorem bd_mem {l:List S119}(h:bdB l=ac){x:S119}(hx:x∈l):stB x=ac:=by
 rw[iO,ew]at h;exact h x hx
def WStmts (Wb:World)(bw b:Nat)(R:Th->Prop)(f:Th->Bool)(l:List S119):Prop:=∀(W:World) (n:Nat) (lp:Value) (lo:List ByteArray) (A:Option Addr) (c d:Nat) (dI:Int),(∀t∈aD l d lo,R t)->dI=(d:Int)->bdB l=ac->Below Wb.heap.size Wb W->W.heap[b]? =ae (.cells #[.int .i64 n,seeV bw] 183 (0,0))->cU.C Wb A l.length l->l.length<=c->aW W lp lo.reverse->n+(aD l d lo).length<4611686018427387904->d+Ot.bH l<4611686018427387904->
 Calls au 123 #[.pointer (ae ⟨b,0,aj⟩),.slice A l.length c,.int .i64 dI,lp] W fun r W'=>r=lC f n (aD l d lo)/\((aD l d lo).any f=O->W'.heap[b]? =ae (.cells #[.int .i64 ((n+(aD l d lo).length:Nat):Int),seeV bw] 183 (0,0)))/\Gw Wb W W' b
theorem wstmts_walk {Wb:World}{bw b:Nat}{R:Th->Prop}{f:Th->Bool}(hs:SeeOK Wb bw R f)(hbb:Wb.heap.size<=b)(l:List S119)(ih:∀x∈l,WStmts Wb bw b R f x.f6/\WStmts Wb bw b R f x.f7):WStmts Wb bw b R f l:=by
 intro W n lp lo A c d dI hRR hdI hform hB hw hC hl hsc hn hd;obtain⟨lq,rfl⟩:=hsc.ptr;subst hdI;have HS:=J hs;have HRR:=J hRR;clear hRR;have HW:=J hw;have HB:=J hB;have HBB:=J hbb;have HSC:=J hsc;have HN:=J (aq hn hd);have IH:=J ih;have HF:=J hform;have HC:=J hC;have hlm:=hC.2.1;clear hs hw hB hbb hsc hn hd ih hform hC;go_enter Tryz.func123,Tryz.ntmps123;go_wp2_with fail
 go_loopw [12] (fun i W3=>∃(k:Nat) (W2:World),i=.int .i64 k/\W2=W3/\k<=l.length/\Aside0 (W2.heap[b]? =ae (.cells #[.int .i64 ((n+(aD (l.take k) d lo).length:Nat):Int),seeV bw] 183 (0,0))/\Gw Wb W W2 b/\(aD (l.take k) d lo).any f=O)) (fun i _=>l.length - (intOf i).toNat)
 case atStart=>exact⟨0,_,rfl,rfl,br _,⟨by simpa[aD]using HW.out,⟨HB.out,⟨rfl,rfl,rfl,ai _,fun _ _ _=>rfl⟩⟩,by simp[aD]⟩⟩
 case round=>
  obtain⟨k,W2,rfl,rfl,hk,HK⟩:=hrel
  by_cases hlt:k<l.length
  ·obtain⟨ad,bb,oo,A5,c5,A9,c9,A12,c12,A13,c13,e1,he,hrg,l5,g5,l9,g9,l12,g12,l13,g13⟩:=st_kid HC.out hlt;cases e1
   have hk1:(k:Int)<(l.length:Int):=by omega
   have MEM:=jH hlt;have IH1:=J (IH.out _ MEM);have FM:=J (st_form (bd_mem HF.out MEM));have BK:=J (aq (iA MEM) (aZ (aI l (k:Int))));have SP:=J (kU l k hlt d lo);have T:=J (congrArg (fun l=>aD l d lo) (eT hlt));clear MEM
   have kk:(aI l (k:Int)).f0=1\/(aI l (k:Int)).f0=2\/(aI l (k:Int)).f0=3\/(aI l (k:Int)).f0=4\/(aI l (k:Int)).f0=5:=by have:=FM.out.1;have:=FM.out.2.1;omega
   generalize aI l (k:Int)=y at*;have ST:=J (show StAt Wb (.pointer (ae ⟨bb,oo,aj⟩)) y from⟨⟨bb,oo,aj⟩,A5,c5,A9,c9,A12,c12,A13,c13,rfl,hrg,l5,g5,l9,g9,l12,g12,l13,g13⟩);have EA:=J (show ExAt Wb (.pointer (ae ⟨bb,oo+2,aj⟩)) y.f2 from⟨⟨bb,oo+2,aj⟩,A5,c5,rfl,jK 2 hrg (fun j v hj=>by match j,hj with | 0,hj=>exact hj | 1,hj=>exact hj | 2,hj=>exact hj | 3,hj=>exact hj | j+4,hj=>simp at hj),l5,g5⟩);have EE:=J (show ExAt Wb (.pointer (ae ⟨bb,oo+6,aj⟩)) y.f3 from⟨⟨bb,oo+6,aj⟩,A9,c9,rfl,jK 6 hrg (fun j v hj=>by match j,hj with | 0,hj=>exact hj | 1,hj=>exact hj | 2,hj=>exact hj | 3,hj=>exact hj | j+4,hj=>simp at hj),l9,g9⟩);have RG:=J hrg;have K:=J (aq l12 (aq g12 (aq l13 g13)));clear hrg l5 g5 l9 g9 l12 g12 l13 g13;have NB:=J (show n+(aD (l.take k) d lo).length+((jN y d lo).length+(aD (l.drop (k+1)) d lo).length)<4611686018427387904 by have h1:=HN.out.1;rw[SP.out,ar,ar]at h1;omega);go_wp2_with fail;refine(jT HS.out HBB.out W2 (n+(aD (l.take k) d lo).length) (by have:=NB.out;omega) (.pointer aj) (.pointer (ae ⟨bb,oo,aj⟩)) (.pointer aj) 0 (d:Int) (.pointer lq) (.stmt y d lo) (HRR.out _ (by rw[SP.out,cK];simp)) HK.out.2.1.below HK.out.1 ⟨rfl,ST.out,rfl,rfl,HSC.out.step HW.out HK.out.2.1.grown⟩).mono ?_;rintro _ W3 ⟨rfl,hw1,hg1⟩
   rcases aH (f (.stmt y d lo))with hf | hf
   ·rw[hf];refine⟨rfl,?_,?_,HK.out.2.1.trans hg1⟩
    ·rw[SP.out,dP HK.out.2.2,cK,fc,lC,if_pos hf]
    ·intro h;rw[SP.out,cK,ed,ed,gm,hf]at h
     simp at h
   rw[hf];have H1:=J (show W3.heap[b]? =ae (.cells #[.int .i64 ((n+(aD (l.take k) d lo++[Th.stmt y d lo]).length:Nat):Int),seeV bw] 183 (0,0))/\Gw Wb W W3 b/\(aD (l.take k) d lo++[Th.stmt y d lo]).any f=O from⟨by rw[ar,az,←db];exact hw1,HK.out.2.1.trans hg1,by rw[ed,HK.out.2.2];simp[hf]⟩);clear hw1 hg1 hf;rw[show outE O (n+(aD (l.take k) d lo).length)=.returned (.tuple #[]) from rfl];have q0:W3.cell? ⟨bb,oo,aj⟩=ae (.int .i64 y.f0):=aM H1.out.2.1.below (RG.out 0 _ rfl)
   rcases kk with h0 | h0 | h0 | h0 | h0
   ·rw[h0]at q0;have H0:=J h0;clear h0
    have SPK:=J (show jN y d lo=Th.stmt y d lo::((bJ y.f3 lo)) by
     have FE:=FM.out.2.2.1 (by have:=H0.out;omega);rw[cK]
     simp[H0.out,FE.1,FE.2,aD])
    go_wp2_with fail;have FULL:=J (show aD l d lo=(aD (l.take k) d lo++[Th.stmt y d lo])++(bJ y.f3 lo++(aD (l.drop (k+1)) d lo)) by rw[SP.out,SPK.out];simp);have BN:=J (show n+(aD (l.take k) d lo++[Th.stmt y d lo]).length+(bJ y.f3 lo).length<4611686018427387904 by have h1:=HN.out.1;rw[FULL.out]at h1;simp only[ar]at h1 ⊢;omega);have C:=gE HS.out HBB.out _ y.f3 (ai _) W3 (n+(aD (l.take k) d lo++[Th.stmt y d lo]).length) (.pointer (ae ⟨bb,oo+6,aj⟩)) (.pointer lq) lo (fun t ht=>HRR.out t (by rw[FULL.out];simp[ht])) H1.out.2.1.below H1.out.1 EE.out (HSC.out.step HW.out H1.out.2.1.grown) (by have:=BN.out;rw[bB]at this;exact this);refine C.mono ?_;clear C;rintro _ W4 ⟨rfl,hw3,hg3⟩
    rcases aH ((bJ y.f3 lo).any f)with ha | ha
    ·obtain⟨mm,hm⟩:=eF (n:=n+(aD (l.take k) d lo++[Th.stmt y d lo]).length) ha;rw[hm];refine⟨rfl,?_,?_,H1.out.2.1.trans hg3⟩
     ·rw[FULL.out,dP H1.out.2.2,dU ha,←hm]
     ·intro h;rw[FULL.out]at h;simp[ha]at h
    have H2:=J (show W4.heap[b]? =ae (.cells #[.int .i64 ((n+(aD (l.take k) d lo++[Th.stmt y d lo]++bJ y.f3 lo).length:Nat):Int),seeV bw] 183 (0,0))/\Gw Wb W W4 b/\(aD (l.take k) d lo++[Th.stmt y d lo]++bJ y.f3 lo).any f=O from⟨by rw[ar,bB,←db];exact hw3 ha,H1.out.2.1.trans hg3,by rw[ed,H1.out.2.2,ha];rfl⟩);rw[dO ha];clear ha hw3 hg3 FULL BN;go_wp2_with fail
    have HX:=J (show aD (l.take k) d lo++[Th.stmt y d lo]++bJ y.f3 lo=aD (l.take (k+1)) d lo by
     have h2:=T.out;simp only[bW]at h2
     rw[h2,SPK.out] <;> simp)
    refine⟨⟨k+1,W4,by go_num,rfl,by omega,⟨?_,H2.out.2.1,?_⟩⟩,by simp[intOf];omega⟩
    ·rw[←HX.out];exact H2.out.1
    ·rw[←HX.out];exact H2.out.2.2
   ·rw[h0]at q0;have H0:=J h0;clear h0
    have SPK:=J (show jN y d lo=Th.stmt y d lo::((bJ y.f2 lo)++(bJ y.f3 lo)) by
     have FE:=FM.out.2.2.1 (by have:=H0.out;omega);rw[cK]
     simp[H0.out,FE.1,FE.2,aD])
    go_wp2_with fail;have FULL:=J (show aD l d lo=(aD (l.take k) d lo++[Th.stmt y d lo])++(bJ y.f2 lo++(bJ y.f3 lo++(aD (l.drop (k+1)) d lo))) by rw[SP.out,SPK.out];simp);have BN:=J (show n+(aD (l.take k) d lo++[Th.stmt y d lo]).length+(bJ y.f2 lo).length<4611686018427387904 by have h1:=HN.out.1;rw[FULL.out]at h1;simp only[ar]at h1 ⊢;omega);have C:=gE HS.out HBB.out _ y.f2 (ai _) W3 (n+(aD (l.take k) d lo++[Th.stmt y d lo]).length) (.pointer (ae ⟨bb,oo+2,aj⟩)) (.pointer lq) lo (fun t ht=>HRR.out t (by rw[FULL.out];simp[ht])) H1.out.2.1.below H1.out.1 EA.out (HSC.out.step HW.out H1.out.2.1.grown) (by have:=BN.out;rw[bB]at this;exact this);refine C.mono ?_;clear C;rintro _ W4 ⟨rfl,hw3,hg3⟩
    rcases aH ((bJ y.f2 lo).any f)with ha | ha
    ·obtain⟨mm,hm⟩:=eF (n:=n+(aD (l.take k) d lo++[Th.stmt y d lo]).length) ha;rw[hm];refine⟨rfl,?_,?_,H1.out.2.1.trans hg3⟩
     ·rw[FULL.out,dP H1.out.2.2,dU ha,←hm]
     ·intro h;rw[FULL.out]at h;simp[ha]at h
    have H2:=J (show W4.heap[b]? =ae (.cells #[.int .i64 ((n+(aD (l.take k) d lo++[Th.stmt y d lo]++bJ y.f2 lo).length:Nat):Int),seeV bw] 183 (0,0))/\Gw Wb W W4 b/\(aD (l.take k) d lo++[Th.stmt y d lo]++bJ y.f2 lo).any f=O from⟨by rw[ar,bB,←db];exact hw3 ha,H1.out.2.1.trans hg3,by rw[ed,H1.out.2.2,ha];rfl⟩);rw[dO ha];clear ha hw3 hg3 FULL BN;go_wp2_with fail;have FULL:=J (show aD l d lo=(aD (l.take k) d lo++[Th.stmt y d lo]++bJ y.f2 lo)++(bJ y.f3 lo++(aD (l.drop (k+1)) d lo)) by rw[SP.out,SPK.out];simp);have BN:=J (show n+(aD (l.take k) d lo++[Th.stmt y d lo]++bJ y.f2 lo).length+(bJ y.f3 lo).length<4611686018427387904 by have h1:=HN.out.1;rw[FULL.out]at h1;simp only[ar]at h1 ⊢;omega);have C:=gE HS.out HBB.out _ y.f3 (ai _) W4 (n+(aD (l.take k) d lo++[Th.stmt y d lo]++bJ y.f2 lo).length) (.pointer (ae ⟨bb,oo+6,aj⟩)) (.pointer lq) lo (fun t ht=>HRR.out t (by rw[FULL.out];simp[ht])) H2.out.2.1.below H2.out.1 EE.out (HSC.out.step HW.out H2.out.2.1.grown) (by have:=BN.out;rw[bB]at this;exact this);refine C.mono ?_;clear C;rintro _ W5 ⟨rfl,hw3,hg3⟩
    rcases aH ((bJ y.f3 lo).any f)with ha | ha
    ·obtain⟨mm,hm⟩:=eF (n:=n+(aD (l.take k) d lo++[Th.stmt y d lo]++bJ y.f2 lo).length) ha;rw[hm];refine⟨rfl,?_,?_,H2.out.2.1.trans hg3⟩
     ·rw[FULL.out,dP H2.out.2.2,dU ha,←hm]
     ·intro h;rw[FULL.out]at h;simp[ha]at h
    have H3:=J (show W5.heap[b]? =ae (.cells #[.int .i64 ((n+(aD (l.take k) d lo++[Th.stmt y d lo]++bJ y.f2 lo++bJ y.f3 lo).length:Nat):Int),seeV bw] 183 (0,0))/\Gw Wb W W5 b/\(aD (l.take k) d lo++[Th.stmt y d lo]++bJ y.f2 lo++bJ y.f3 lo).any f=O from⟨by rw[ar,bB,←db];exact hw3 ha,H2.out.2.1.trans hg3,by rw[ed,H2.out.2.2,ha];rfl⟩);rw[dO ha];clear ha hw3 hg3 FULL BN;go_wp2_with fail
    have HX:=J (show aD (l.take k) d lo++[Th.stmt y d lo]++bJ y.f2 lo++bJ y.f3 lo=aD (l.take (k+1)) d lo by
     have h2:=T.out;simp only[bW]at h2
     rw[h2,SPK.out] <;> simp)
    refine⟨⟨k+1,W5,by go_num,rfl,by omega,⟨?_,H3.out.2.1,?_⟩⟩,by simp[intOf];omega⟩
    ·rw[←HX.out];exact H3.out.1
    ·rw[←HX.out];exact H3.out.2.2
   ·rw[h0]at q0;have H0:=J h0;clear h0
    have SPK:=J (show jN y d lo=Th.stmt y d lo::((bJ y.f3 lo)++(aD y.f6 (d+1) lo)++(aD y.f7 (d+1) lo)) by
     skip
     rw[cK]
     simp[H0.out,inLoop])
    have KQ:=J (aq (RG.out 12 _ rfl) (RG.out 13 _ rfl));go_wp2_with fail;have FULL:=J (show aD l d lo=(aD (l.take k) d lo++[Th.stmt y d lo])++(bJ y.f3 lo++(aD y.f6 (d+1) lo++(aD y.f7 (d+1) lo++(aD (l.drop (k+1)) d lo)))) by rw[SP.out,SPK.out];simp);have BN:=J (show n+(aD (l.take k) d lo++[Th.stmt y d lo]).length+(bJ y.f3 lo).length<4611686018427387904 by have h1:=HN.out.1;rw[FULL.out]at h1;simp only[ar]at h1 ⊢;omega);have C:=gE HS.out HBB.out _ y.f3 (ai _) W3 (n+(aD (l.take k) d lo++[Th.stmt y d lo]).length) (.pointer (ae ⟨bb,oo+6,aj⟩)) (.pointer lq) lo (fun t ht=>HRR.out t (by rw[FULL.out];simp[ht])) H1.out.2.1.below H1.out.1 EE.out (HSC.out.step HW.out H1.out.2.1.grown) (by have:=BN.out;rw[bB]at this;exact this);refine C.mono ?_;clear C;rintro _ W4 ⟨rfl,hw3,hg3⟩
    rcases aH ((bJ y.f3 lo).any f)with ha | ha
    ·obtain⟨mm,hm⟩:=eF (n:=n+(aD (l.take k) d lo++[Th.stmt y d lo]).length) ha;rw[hm];refine⟨rfl,?_,?_,H1.out.2.1.trans hg3⟩
     ·rw[FULL.out,dP H1.out.2.2,dU ha,←hm]
     ·intro h;rw[FULL.out]at h;simp[ha]at h
    have H2:=J (show W4.heap[b]? =ae (.cells #[.int .i64 ((n+(aD (l.take k) d lo++[Th.stmt y d lo]++bJ y.f3 lo).length:Nat):Int),seeV bw] 183 (0,0))/\Gw Wb W W4 b/\(aD (l.take k) d lo++[Th.stmt y d lo]++bJ y.f3 lo).any f=O from⟨by rw[ar,bB,←db];exact hw3 ha,H1.out.2.1.trans hg3,by rw[ed,H1.out.2.2,ha];rfl⟩);rw[dO ha];clear ha hw3 hg3 FULL BN;have q20:W4.cell? ⟨bb,oo+12,aj⟩=ae (.slice A12 y.f6.length c12):=aM H2.out.2.1.below KQ.out.1;go_wp2_with fail;have FULL:=J (show aD l d lo=(aD (l.take k) d lo++[Th.stmt y d lo]++bJ y.f3 lo)++(aD y.f6 (d+1) lo++(aD y.f7 (d+1) lo++(aD (l.drop (k+1)) d lo))) by rw[SP.out,SPK.out];simp);have BN:=J (show n+(aD (l.take k) d lo++[Th.stmt y d lo]++bJ y.f3 lo).length+(aD y.f6 (d+1) lo).length<4611686018427387904 by have h1:=HN.out.1;rw[FULL.out]at h1;simp only[ar]at h1 ⊢;omega);have C:=IH1.out.1 W4 (n+(aD (l.take k) d lo++[Th.stmt y d lo]++bJ y.f3 lo).length) (.pointer lq) lo A12 c12 (d+1) (wrap64 ((d:Int)+1)) (fun t ht=>HRR.out t (by rw[FULL.out];simp[ht])) (fP (by have:=HN.out.2;omega)) FM.out.2.2.2.2.1 H2.out.2.1.below H2.out.1 K.out.2.1 K.out.1 (HSC.out.step HW.out H2.out.2.1.grown) BN.out (by have h1:=HN.out.2;have h2:=BK.out;omega);refine C.mono ?_;clear C;rintro _ W5 ⟨rfl,hw3,hg3⟩
    rcases aH ((aD y.f6 (d+1) lo).any f)with ha | ha
    ·obtain⟨mm,hm⟩:=eF (n:=n+(aD (l.take k) d lo++[Th.stmt y d lo]++bJ y.f3 lo).length) ha;rw[hm];refine⟨rfl,?_,?_,H2.out.2.1.trans hg3⟩
     ·rw[FULL.out,dP H2.out.2.2,dU ha,←hm]
     ·intro h;rw[FULL.out]at h;simp[ha]at h
    have H3:=J (show W5.heap[b]? =ae (.cells #[.int .i64 ((n+(aD (l.take k) d lo++[Th.stmt y d lo]++bJ y.f3 lo++aD y.f6 (d+1) lo).length:Nat):Int),seeV bw] 183 (0,0))/\Gw Wb W W5 b/\(aD (l.take k) d lo++[Th.stmt y d lo]++bJ y.f3 lo++aD y.f6 (d+1) lo).any f=O from⟨by rw[ar,←db];exact hw3 ha,H2.out.2.1.trans hg3,by rw[ed,H2.out.2.2,ha];rfl⟩);rw[dO ha];clear ha hw3 hg3 FULL BN;have q21:W5.cell? ⟨bb,oo+13,aj⟩=ae (.slice A13 y.f7.length c13):=aM H3.out.2.1.below KQ.out.2;go_wp2_with fail;have FULL:=J (show aD l d lo=(aD (l.take k) d lo++[Th.stmt y d lo]++bJ y.f3 lo++aD y.f6 (d+1) lo)++(aD y.f7 (d+1) lo++(aD (l.drop (k+1)) d lo)) by rw[SP.out,SPK.out];simp);have BN:=J (show n+(aD (l.take k) d lo++[Th.stmt y d lo]++bJ y.f3 lo++aD y.f6 (d+1) lo).length+(aD y.f7 (d+1) lo).length<4611686018427387904 by have h1:=HN.out.1;rw[FULL.out]at h1;simp only[ar]at h1 ⊢;omega);have C:=IH1.out.2 W5 (n+(aD (l.take k) d lo++[Th.stmt y d lo]++bJ y.f3 lo++aD y.f6 (d+1) lo).length) (.pointer lq) lo A13 c13 (d+1) (wrap64 ((d:Int)+1)) (fun t ht=>HRR.out t (by rw[FULL.out];simp[ht])) (fP (by have:=HN.out.2;omega)) FM.out.2.2.2.2.2 H3.out.2.1.below H3.out.1 K.out.2.2.2 K.out.2.2.1 (HSC.out.step HW.out H3.out.2.1.grown) BN.out (by have h1:=HN.out.2;have h2:=BK.out;omega);refine C.mono ?_;clear C;rintro _ W6 ⟨rfl,hw3,hg3⟩
    rcases aH ((aD y.f7 (d+1) lo).any f)with ha | ha
    ·obtain⟨mm,hm⟩:=eF (n:=n+(aD (l.take k) d lo++[Th.stmt y d lo]++bJ y.f3 lo++aD y.f6 (d+1) lo).length) ha;rw[hm];refine⟨rfl,?_,?_,H3.out.2.1.trans hg3⟩
     ·rw[FULL.out,dP H3.out.2.2,dU ha,←hm]
     ·intro h;rw[FULL.out]at h;simp[ha]at h
    have H4:=J (show W6.heap[b]? =ae (.cells #[.int .i64 ((n+(aD (l.take k) d lo++[Th.stmt y d lo]++bJ y.f3 lo++aD y.f6 (d+1) lo++aD y.f7 (d+1) lo).length:Nat):Int),seeV bw] 183 (0,0))/\Gw Wb W W6 b/\(aD (l.take k) d lo++[Th.stmt y d lo]++bJ y.f3 lo++aD y.f6 (d+1) lo++aD y.f7 (d+1) lo).any f=O from⟨by rw[ar,←db];exact hw3 ha,H3.out.2.1.trans hg3,by rw[ed,H3.out.2.2,ha];rfl⟩);rw[dO ha];clear ha hw3 hg3 FULL BN;go_wp2_with fail
    have HX:=J (show aD (l.take k) d lo++[Th.stmt y d lo]++bJ y.f3 lo++aD y.f6 (d+1) lo++aD y.f7 (d+1) lo=aD (l.take (k+1)) d lo by
     have h2:=T.out;simp only[bW]at h2
     rw[h2,SPK.out] <;> simp)
    refine⟨⟨k+1,W6,by go_num,rfl,by omega,⟨?_,H4.out.2.1,?_⟩⟩,by simp[intOf];omega⟩
    ·rw[←HX.out];exact H4.out.1
    ·rw[←HX.out];exact H4.out.2.2
   ·rw[h0]at q0;have H0:=J h0;clear h0
    have SPK:=J (show jN y d lo=Th.stmt y d lo::((aD y.f6 (d+1) (lo++[y.f1]))) by
     have FE:=FM.out.2.2.2.1 H0.out;rw[cK]
     simp[H0.out,FE,aD,inLoop])
    have FULL:=J (show aD l d lo=(aD (l.take k) d lo++[Th.stmt y d lo])++(aD y.f6 (d+1) (lo++[y.f1])++(aD (l.drop (k+1)) d lo)) by rw[SP.out,SPK.out];simp);have BN:=J (show n+(aD (l.take k) d lo++[Th.stmt y d lo]).length+(aD y.f6 (d+1) (lo++[y.f1])).length<4611686018427387904 by have h1:=HN.out.1;rw[FULL.out]at h1;simp only[ar]at h1 ⊢;omega)
    go_upto_region 15 with (fail)
    have t12:∀g':G W3,g'.W.cell? ⟨bb,oo+12,aj⟩=ae (.slice A12 y.f6.length c12):=fun g'=>aM g'.below (aM H1.out.2.1.below (RG.out 12 _ rfl));have t1:∀g':G W3,g'.W.cell? ⟨bb,oo+1,aj⟩=ae (.string y.f1):=fun g'=>aM g'.below (aM H1.out.2.1.below (RG.out 1 _ rfl));refine gG (n:=15) (S:=fun w'=>∃g':G W3,w'=g'.W) (ds:=[14]) #[O,O,O,O,O,O,O,O,O,O,O,O,O,O,O] (by kernel_rfl) rfl rfl ⟨mkG (ak _ _).drew,rfl⟩ (fun hHeld=> ?_);obtain⟨gd,hgd⟩:=hHeld;rw[hgd];clear hgd;refine bN (i:=0) (N:=ae 72) (v:= ?_) (a':= ?_) #[ac,O,O,O,O,O,O,O,O,O,O,O,O,O,O] rfl rfl (by kernel_rfl) (fun _ _ _ h=>h) (bi ⟨by rfl,?_⟩) ?_ ?_;rotate_left
    ·intro w';go_simp;with_reducible rfl
    rotate_left
    ·simp only[ay,aa,af,ag,aQ,aP];rfl
    refine bN (i:=1) (N:=ae 73) (v:= ?_) (a':= ?_) #[ac,ac,O,O,O,O,O,O,O,O,O,O,O,O,O] rfl rfl (by kernel_rfl) (fun _ _ _ h=>h) (bi ⟨by rfl,?_⟩) ?_ ?_;rotate_left
    ·intro w';go_simp;with_reducible rfl
    rotate_left
    ·simp only[ay,aa,af,ag,aQ,aP];rfl
    refine bN (i:=2) (N:=ae 74) (v:= ?_) (a':= ?_) #[ac,ac,ac,O,O,O,O,O,O,O,O,O,O,O,O] rfl rfl (by kernel_rfl) (fun _ _ _ h=>h) (bi ⟨by rfl,?_⟩) ?_ ?_;rotate_left
    ·intro w';go_simp;with_reducible rfl
    rotate_left
    ·simp only[ay,aa,af,ag,aQ,aP];rfl
    refine bN (i:=3) (N:=ae 75) (v:= ?_) (a':= ?_) #[ac,ac,ac,ac,O,O,O,O,O,O,O,O,O,O,O] rfl rfl (by kernel_rfl) (fun _ _ _ h=>h) (bi ⟨by rfl,?_⟩) ?_ ?_;rotate_left
    ·intro w';go_simp;with_reducible rfl
    rotate_left
    ·simp only[ay,aa,af,ag,aQ,aP];rfl
    refine bN (i:=5) (N:=ae 77) (v:= ?_) (a':= ?_) #[ac,ac,ac,ac,O,ac,O,O,O,O,O,O,O,O,O] rfl rfl (by kernel_rfl) (fun _ _ _ h=>h) (bi ⟨by rfl,?_⟩) ?_ ?_;rotate_left
    ·intro w';go_simp;with_reducible rfl
    rotate_left
    ·simp only[ay,aa,af,ag,aQ,aP];rfl
    refine bN (i:=6) (N:=ae 78) (v:= ?_) (a':= ?_) #[ac,ac,ac,ac,O,ac,ac,O,O,O,O,O,O,O,O] rfl rfl (by kernel_rfl) (fun _ _ _ h=>h) (bi ⟨by rfl,?_⟩) ?_ ?_;rotate_left
    ·intro w';go_simp;with_reducible rfl
    rotate_left
    ·simp only[ay,aa,af,ag,aQ,aP];rfl
    refine bN (i:=7) (N:=ae 79) (v:= ?_) (a':= ?_) #[ac,ac,ac,ac,O,ac,ac,ac,O,O,O,O,O,O,O] rfl rfl (by kernel_rfl) (fun _ _ _ h=>h) (bi ⟨by rfl,?_⟩) ?_ ?_;rotate_left
    ·intro w';go_simp;with_reducible rfl
    rotate_left
    ·simp only[ay,aa,af,ag,aQ,aP];rfl
    refine bN (i:=8) (N:=ae 80) (v:= ?_) (a':= ?_) #[ac,ac,ac,ac,O,ac,ac,ac,ac,O,O,O,O,O,O] rfl rfl (by kernel_rfl) (fun _ _ _ h=>h) (bi ⟨by rfl,?_⟩) ?_ ?_;rotate_left
    ·intro w';go_simp;with_reducible rfl
    rotate_left
    ·simp only[ay,aa,af,ag,aQ,aP];rfl
    refine bN (i:=9) (N:=ae 81) (v:= ?_) (a':= ?_) #[ac,ac,ac,ac,O,ac,ac,ac,ac,ac,O,O,O,O,O] rfl rfl (by kernel_rfl) (fun _ _ _ h=>h) (bi ⟨by rfl,?_⟩) ?_ ?_;rotate_left
    ·intro w';go_simp;with_reducible rfl
    rotate_left
    ·simp only[ay,aa,af,ag,aQ,aP];rfl
    refine bN (i:=11) (N:=ae 83) (v:= ?_) (a':= ?_) #[ac,ac,ac,ac,O,ac,ac,ac,ac,ac,O,ac,O,O,O] rfl rfl (by kernel_rfl) (fun _ _ _ h=>h) (bi ⟨by rfl,?_⟩) ?_ ?_;rotate_left
    ·intro w';go_simp;with_reducible rfl
    rotate_left
    ·simp only[ay,aa,af,ag,aQ,aP];rfl
    refine eO (i:=4) (N:=ae 76) (v:= ?_) (a':= ?_) #[ac,ac,ac,ac,ac,ac,ac,ac,ac,ac,O,ac,O,O,O] rfl rfl (by kernel_rfl) (fun _ _ _ h=>h) (bi ⟨by rfl,?_⟩) ⟨gd,rfl⟩ ?_ ?_;rotate_left
    ·rintro w' ⟨g',rfl⟩;go_simp;with_reducible rfl
    rotate_left
    ·simp only[ay,aa,af,ag,aQ,aP];rfl
    refine eO (i:=10) (N:=ae 82) (v:= ?_) (a':= ?_) #[ac,ac,ac,ac,ac,ac,ac,ac,ac,ac,ac,ac,O,O,O] rfl rfl (by kernel_rfl) (fun _ _ _ h=>h) (bi ⟨by rfl,?_⟩) ⟨gd,rfl⟩ ?_ ?_;rotate_left
    ·rintro w' ⟨g',rfl⟩;go_simp;with_reducible rfl
    rotate_left
    ·simp only[ay,aa,af,ag,aQ,aP];rfl
    refine bN (i:=12) (N:=ae 84) (v:= ?_) (a':= ?_) #[ac,ac,ac,ac,ac,ac,ac,ac,ac,ac,ac,ac,ac,O,O] rfl rfl (by kernel_rfl) (fun _ _ _ h=>h) (bi ⟨by rfl,?_⟩) ?_ ?_;rotate_left
    ·intro w';go_simp;with_reducible rfl
    rotate_left
    ·simp only[ay,aa,af,ag,aQ,aP];rfl
    refine jO (i:=13) (N:=ae 85) #[ac,ac,ac,ac,ac,ac,ac,ac,ac,ac,ac,ac,ac,ac,O] rfl rfl (by kernel_rfl) (by simp) (fun K9 hK=> ?_);refine box_step ?hg (N:=85) ?hd (cs:= #[.string y.f1,.pointer lq]) (t:=121) ?hr ?_;(case hd=>rfl);(case hg=>rfl);(case hr=>first | (go_simp;done) | (go_simp;rfl));intro b9 hb9 w9 hbx hbl;obtain⟨ge,rfl⟩:∃g':G W3,w9=g'.W:=⟨mkG (gd.below.trans (hbl.mono gd.below.size)),rfl⟩;refine hK.out _ _ ⟨ge,rfl⟩ (fun _=> ?_);clear hK K9;refine cG (a':= ?_) ?_ ?_;rotate_left
    ·show ay _ (ae 85) _ = _
     simp only[ay,aa,af,ag,aQ,aP];rfl
    have HE:=J (show Gw Wb W ge.W b from H1.out.2.1.trans (Gw.of_below b H1.out.2.1.below ge.below));have HEB:=J (aE H1.out.1 ge.below);have HES:=J (show aW ge.W (.pointer (ae ⟨b9,0,aj⟩)) (lo++[y.f1]).reverse by rw[List.reverse_append];exact⟨b9,.pointer lq,rfl,hbx,(HSC.out.step HW.out H1.out.2.1.grown).below ge.below⟩);refine last_ (i:=14) (N:=ae 86) #[ac,ac,ac,ac,ac,ac,ac,ac,ac,ac,ac,ac,ac,ac,ac] rfl rfl (by kernel_rfl) (by simp) (fun K9 hK=> ?_);refine callP_ 123 #[.pointer (ae ⟨b,0,aj⟩),.slice A12 y.f6.length c12,.int .i64 (wrap64 ((d:Int)+1)),.pointer (ae ⟨b9,0,aj⟩)] (by rfl) rfl (by first | (go_simp;done) | (go_simp;rfl)) ?_;have C:=IH1.out.1 ge.W (n+(aD (l.take k) d lo++[Th.stmt y d lo]).length) (.pointer (ae ⟨b9,0,aj⟩)) (lo++[y.f1]) A12 c12 (d+1) (wrap64 ((d:Int)+1)) (fun t ht=>HRR.out t (by rw[FULL.out];simp[ht])) (fP (by have:=HN.out.2;omega)) FM.out.2.2.2.2.1 HE.out.below HEB.out K.out.2.1 K.out.1 HES.out BN.out (by have h1:=HN.out.2;have h2:=BK.out;omega);refine C.mono ?_;clear C;rintro _ W4 ⟨rfl,hw3,hg3⟩
    rcases aH ((aD y.f6 (d+1) (lo++[y.f1])).any f)with ha | ha
    ·right;obtain⟨mm,hm⟩:=eF (n:=n+(aD (l.take k) d lo++[Th.stmt y d lo]).length) ha;rw[hm];refine⟨_,rfl,rfl,?_,?_,HE.out.trans hg3⟩
     ·rw[FULL.out,dP H1.out.2.2,dU ha,←hm]
     ·intro h;rw[FULL.out]at h;simp[ha]at h
    have H2:=J (show W4.heap[b]? =ae (.cells #[.int .i64 ((n+(aD (l.take k) d lo++[Th.stmt y d lo]++aD y.f6 (d+1) (lo++[y.f1])).length:Nat):Int),seeV bw] 183 (0,0))/\Gw Wb W W4 b/\(aD (l.take k) d lo++[Th.stmt y d lo]++aD y.f6 (d+1) (lo++[y.f1])).any f=O from⟨by rw[ar,←db];exact hw3 ha,HE.out.trans hg3,by rw[ed,H1.out.2.2,ha];rfl⟩);left;refine⟨.tuple #[],by rw[dO ha],?_⟩;clear ha hw3 hg3;refine hK.out _ _ ?_;clear hK K9;refine cG (a':= ?_) ?_ ?_;rotate_left
    ·show ay _ (ae 86) _ = _
     simp only[ay,aa,af,ag,aQ,aP];rfl
    refine kG (by kernel_rfl) ?_;clear t12 t1;go_wp2_with fail
    have HX:=J (show aD (l.take k) d lo++[Th.stmt y d lo]++aD y.f6 (d+1) (lo++[y.f1])=aD (l.take (k+1)) d lo by
     have h2:=T.out;simp only[bW]at h2
     rw[h2,SPK.out] <;> simp)
    refine⟨⟨k+1,W4,by go_num,rfl,by omega,⟨?_,H2.out.2.1,?_⟩⟩,by simp[intOf];omega⟩
    ·rw[←HX.out];exact H2.out.1
    ·rw[←HX.out];exact H2.out.2.2
   ·rw[h0]at q0;have H0:=J h0;clear h0
    have SPK:=J (show jN y d lo=Th.stmt y d lo::([]) by
     have FE:=FM.out.2.2.1 (by have:=H0.out;omega);rw[cK]
     simp[H0.out,FE.1,FE.2,aD])
    go_wp2_with fail
    have HX:=J (show aD (l.take k) d lo++[Th.stmt y d lo]=aD (l.take (k+1)) d lo by
     have h2:=T.out;simp only[bW]at h2
     rw[h2,SPK.out] <;> simp)
    refine⟨⟨k+1,W3,by go_num,rfl,by omega,⟨?_,H1.out.2.1,?_⟩⟩,by simp[intOf];omega⟩
    ·rw[←HX.out];exact H1.out.1
    ·rw[←HX.out];exact H1.out.2.2
  ·go_wp2_with fail
   first | go_end0 | skip
   have hke:k=l.length:=by omega
   have h1:=HK.out;rw[hke,df]at h1;exact⟨(dO h1.2.2).symm,fun _=>h1.1,h1.2.1⟩
theorem wstmts_calls {Wb:World}{bw b:Nat}{R:Th->Prop}{f:Th->Bool}(hs:SeeOK Wb bw R f)(hbb:Wb.heap.size<=b):∀(n:Nat) (l:List S119),cu l<=n->WStmts Wb bw b R f l:=by
 intro n
 induction n with
 |zero=>intro l h;cases l <;> simp at h <;> omega
 |succ n ih=>
  intro l h;refine wstmts_walk hs hbb l fun x hx=> ?_;have h1:=fe hx;obtain⟨a,b,c,d,e,f,g,k⟩:=x;simp only[S119.mk.sizeOf_spec]at h1;exact⟨ih _ (by show cu g<=n;omega),ih _ (by show cu k<=n;omega)⟩
end
section
attribute [local go_sem] G.cell
theorem wp_name {P:Program}{c:Code}{Q:Exit->Act->World->Prop}{a:Act}{w:World}(h:∀X,X=w->c.wp P Q a X):c.wp P Q a w:=h w rfl
theorem Gw.out {Wb W X W':World}{b:Nat}(h:Gw Wb X W' b)(hX:Below W.heap.size W X)(hb:W.heap.size<=b):Below W.heap.size W W':=
 ⟨h.grown.os.trans hX.os,h.grown.tape.trans hX.tape,h.grown.output.trans hX.output,bg hX.size h.grown.size,fun i hi=>(h.grown.block i (ee hi hX.size) (fun e=>by injection e with e;omega)).trans (hX.block i hi)⟩
def outA (f:Th->Bool)(l:List Th):Ending:=if l.any f=ac then lC f 0 l else .returned (.int .i64 (l.length:Int))
theorem l7 (ds:List S70)(k:Nat)(hk:k<ds.length):(cr ds.length).map Th.decl=(cr k).map Th.decl++([Th.decl k]++((cr ds.length).drop (k+1)).map Th.decl):=by
 have h:(cr ds.length)=cr k++([k]++(cr ds.length).drop (k+1)):=by
  have h1:=(List.take_append_drop (k+1) (cr ds.length)).symm;rw[List.take_range,Nat.min_eq_left (by omega),List.range_succ,bh]at h1;exact h1
 conv=>lhs;rw[h]
 rw[cw,cw];rfl
theorem all_calls {Wb:World}{bw:Nat}{R:Th->Prop}{f:Th->Bool}(hs:SeeOK Wb bw R f)(nm:ByteArray)(wd ln:Int)(ds:List S70)(bd:List S119)(A3:Option Addr)(c3:Nat)(A4:Option Addr)(c4:Nat)(hp:ProgAt Wb ds bd A3 c3 A4 c4)(hform:bdB bd=ac)(hdl:ds.length<=1048576)(hbb:Ot.bH bd<=1048576)
 (hR:∀t∈things ds bd,R t) (W:World) (hB:Below Wb.heap.size Wb W):
 Calls au 76 #[.agg #[.string nm,.int .i64 wd,.int .i64 ln,.slice A3 ds.length c3,.slice A4 bd.length c4],seeV bw] W fun r W'=>r=outA f (things ds bd)/\Below W.heap.size W W':=by
 have HS:=J hs;have HRR:=J hR;clear hR;have HP:=J hp;have HF:=J hform;have HZ:=J (aq hdl hbb);have HB:=J hB;have hlm:=hp.hd.2.1;have hl4:=hp.hlb;clear hs hp hform hdl hbb hB;go_enter Tryz.func76,Tryz.ntmps76
 go_upto_region 2 with (fail)
 refine wp_name ?_;intro X hX;have HWX:=J (show Below W.heap.size W X by rw[hX];exact((ak _ _).alloc (ai _) _).alloc (by simp) _);have HBX:=J (HB.out.trans (HWX.out.mono HB.out.size));have HXb:=J (show X.heap[W.heap.size+1]? =ae (.cells #[.int .i64 ((0:Nat):Int),seeV bw] 183 (0,0)) by rw[hX];exact heap_alloc2_new _ _ _);have HXp:=J (show X.heap[W.heap.size]? =ae (.cells #[.string nm,.int .i64 wd,.int .i64 ln,.slice A3 ds.length c3,.slice A4 bd.length c4] 25 (0,0)) by rw[hX,dr _ _ _ (by simp)];exact bR _ _);clear hX;have pc:∀{W':World},Gw Wb X W' (W.heap.size+1)->W'.heap[W.heap.size]? =ae (.cells #[.string nm,.int .i64 wd,.int .i64 ln,.slice A3 ds.length c3,.slice A4 bd.length c4] 25 (0,0)):=fun h=>(h.grown.block _ (aR HXp.out) (fun e=>by injection e with e;omega)).trans HXp.out;have x3:X.cell? ⟨W.heap.size,3,aj⟩=ae (.slice A3 ds.length c3):=(aB HXp.out 3).trans rfl;have x4:X.cell? ⟨W.heap.size,4,aj⟩=ae (.slice A4 bd.length c4):=(aB HXp.out 4).trans rfl;go_wp2_with fail
 go_loopw [13] (fun i W3=>∃(k:Nat) (W2:World),i=.int .i64 k/\W2=W3/\k<=ds.length/\Aside0 (W2.heap[W.heap.size+1]? =ae (.cells #[.int .i64 (k:Int),seeV bw] 183 (0,0))/\Gw Wb X W2 (W.heap.size+1)/\((cr k).map Th.decl).any f=O)) (fun i _=>ds.length - (intOf i).toNat)
 case atStart=>exact⟨0,_,rfl,rfl,br _,⟨HXb.out,⟨HBX.out,⟨rfl,rfl,rfl,ai _,fun _ _ _=>rfl⟩⟩,by simp⟩⟩
 case round=>
  obtain⟨k,W2,rfl,rfl,hk,HK⟩:=hrel;have z3:W2.cell? ⟨W.heap.size,3,aj⟩=ae (.slice A3 ds.length c3):=(aB (pc HK.out.2.1) 3).trans rfl;have z4:W2.cell? ⟨W.heap.size,4,aj⟩=ae (.slice A4 bd.length c4):=(aB (pc HK.out.2.1) 4).trans rfl
  by_cases hlt:k<ds.length
  ·obtain⟨ad,A9,c9,e1,_⟩:=d6 HP.out.hd (k:Int) (bc _) (by omega);cases e1
   have hk1:(k:Int)<(ds.length:Int):=by omega
   have SP:=J (l7 ds k hlt);go_wp2_with fail;refine(jT HS.out (bg HB.out.size (Nat.le_succ _)) W2 k (by have:=HZ.out.1;omega) (.pointer (ae (ad.add (k*4)))) (.pointer aj) (.pointer aj) 0 0 (.pointer aj) (.decl k) (HRR.out _ (by unfold things;rw[SP.out];simp)) HK.out.2.1.below HK.out.1 ⟨⟨_,rfl⟩,rfl,rfl,rfl,rfl⟩).mono ?_;rintro _ W3 ⟨rfl,hw1,hg1⟩
   rcases aH (f (.decl k))with hf | hf
   ·rw[hf];refine⟨rfl,?_,(HK.out.2.1.trans hg1).out HWX.out (Nat.le_succ _)⟩
    have e:lC f 0 (things ds bd)=.panicked (jC k):=by
     unfold things;rw[SP.out,bh,dP HK.out.2.2,bh,List.singleton_append,lC,if_pos hf]
     simp
    unfold outA;rw[if_pos (by unfold things;rw[SP.out];simp[hf]),e]
   ·rw[hf];have HN:=J (aq hw1 (aq hg1 hf));clear hw1 hg1 hf;rw[show outE O k=.returned (.tuple #[]) from rfl];go_wp2_with fail;refine⟨⟨k+1,W3,by go_num,rfl,by omega,⟨HN.out.1,HK.out.2.1.trans HN.out.2.1,by rw[fG,ed,HK.out.2.2];simp[HN.out.2.2]⟩⟩,by simp[intOf];omega⟩
  ·have hke:k=ds.length:=by omega
   have hk1:¬(k:Int)<(ds.length:Int):=by omega
   have H0:=J (show((cr ds.length).map Th.decl).any f=O by have:=HK.out.2.2;rw[hke]at this;exact this);have HL:=J (show k+(aD bd 1 []).length=(things ds bd).length by unfold things;rw[hke];simp);clear hke;go_wp2_with fail;have hle:=bV bd 1 [];refine(wstmts_calls HS.out (bg HB.out.size (Nat.le_succ _)) _ bd (ai _) W2 k (.pointer aj) [] A4 c4 1 1 (fun t ht=>HRR.out t (by unfold things;simp[ht])) rfl HF.out HK.out.2.1.below HK.out.1 HP.out.hb HP.out.hlb rfl (by have:=HZ.out;omega) (by have:=HZ.out;omega)).mono ?_;rintro _ W3 ⟨rfl,hw3,hg3⟩
   rcases aH ((aD bd 1 []).any f)with ha | ha
   ·obtain⟨mm,hm⟩:=eF (n:=k) ha;rw[hm];refine⟨rfl,?_,(HK.out.2.1.trans hg3).out HWX.out (Nat.le_succ _)⟩;unfold outA;rw[if_pos (by unfold things;rw[ed,ha];simp),show things ds bd=(cr ds.length).map Th.decl++aD bd 1 [] from rfl,dP H0.out]
    have hk2:0+((cr ds.length).map Th.decl).length=k:=by simp;omega
    rw[hk2];exact hm.symm
   ·rw[dO ha];have hw4:=hw3 ha;rw[HL.out]at hw4;have HA:=J (aq ha hg3);have u0:W3.cell? ⟨W.heap.size+1,0,aj⟩=ae (.int .i64 ((things ds bd).length:Int)):=(aB hw4 0).trans rfl;clear ha hw3 hg3 hw4;go_wp2_with fail;go_ret;refine⟨?_,(HK.out.2.1.trans HA.out.2).out HWX.out (Nat.le_succ _)⟩;unfold outA;rw[if_neg (by unfold things;rw[ed,H0.out,HA.out.1];simp)];rfl
end
section
attribute [local go_sem] G.cell
theorem wpS_norm {P:Program}{c:Code}{Q:Exit->Act->List Frame->World->Prop}{a a':Act}{cs:List Frame}{w:World}(h:a=a')(k:c.wpS P Q a' cs w):c.wpS P Q a cs w:=h ▸ k
def fX (W0:World)(p1 p2:Value)(R:Th->Prop)(f:Th->Bool):Prop:=∀(Wb W:World) (n:Nat) (dp sp ep:Value) (dI:Int) (lp:Value) (t:Th),R t->Below W0.heap.size W0 Wb->Below Wb.heap.size Wb W->ThP Wb W dp sp ep dI lp t->
 Calls au 251 #[.agg #[.int .i64 n,dp,sp,ep,.int .i64 dI,lp],p1,p2] W fun r W'=>r=.returned (.bool (f t))/\Below W.heap.size W W'
theorem see_ok {W0 Wb:World}{bw:Nat}{p1 p2:Value}{R:Th->Prop}{f:Th->Bool}(hb0:Below W0.heap.size W0 Wb)(hbw:Wb.heap[bw]? =ae (.cells #[.func (.func 251) #[] #[p1,p2]] 272 (0,0)))(hw:fX W0 p1 p2 R f):SeeOK Wb bw R f:=by
 intro W n dp sp ep dI lp t hR hB ht;have gout:=@gA W;have HRT:=J hR;clear hR;have HB:=J hB;have HT:=J ht;have HW:=J (hw Wb);have H0:=J hb0;have HBW:=J ((hB.block bw (aR hbw)).trans hbw);have hlt:=aR HBW.out;have z0:W.cell? ⟨bw,0,aj⟩=ae (.func (.func 251) #[] #[p1,p2]):=(aB HBW.out 0).trans rfl;clear hB ht hw hb0 hbw;go_enter Tryz.func284,Tryz.ntmps284
 go_upto_region 1 with (fail)
 refine aG ?_;intro gg;go_wp2_with fail;refine(aC (g:=gg) (HW.out gg.W n dp sp ep dI lp t HRT.out H0.out (HB.out.trans ((gout gg).mono HB.out.size)) (HT.out.below (gout gg)))).mono ?_;rintro _ _ ⟨rfl,gg,rfl⟩
 cases hf:f t
 ·have HF:=J hf;clear hf;go_wp2_with fail
  first | go_end0 | skip
  exact⟨by rw[HF.out];rfl,gout _⟩
 ·have HF:=J hf;clear hf;go_wp2_with fail;exact⟨rfl,by rw[HF.out];rfl,gout _⟩
theorem catch_idle (a4 a5:Value)(w:World):CallsD au 283 #[a4,a5] .returning w fun e u' w'=>e=.returned (.tuple #[])/\u'=.returning/\w'=w:=by
 refine callsD_of_wpS Tryz.func283 rfl fun c₀ cs hu=> ?_;apply wpS_seq;apply wpS_region;simp[wpOpsS,go_sem,recoverD,hu,Tryz.ntmps283,Exit.thenS];refine wpS_of_wp ?_;go_wp2_with fail;cases c₀
 simp_all[bodyPostS,results,Tryz.results104]
theorem assert_found (m:Nat)(w:World):(Instr.typeAssert (.iface 289 (.agg #[.int .i64 m])) 20 289 ac).run au w=.ok (.tuple #[.agg #[.int .i64 m],.bool ac]) w:=by
 unfold Instr.typeAssert;simp[go_sem]
theorem lY (b4 b5:Nat)(x:Int)(y:Bool)(m:Nat)(w:World)(h4:w.heap[b4]? =ae (.cells #[.int .i64 x] 3 (0,0)))(h5:w.heap[b5]? =ae (.cells #[.bool y] 4 (0,0)))(hne:b4≠b5):
 CallsD au 283 #[.pointer (ae ⟨b4,0,aj⟩),.pointer (ae ⟨b5,0,aj⟩)] (.panicking (jC m)) w fun e u' w'=>
  e=.returned (.tuple #[])/\u'=.panicking [{ v:=.iface 289 (.agg #[.int .i64 m]),recovered:=ac }]/\w'.heap[b4]? =ae (.cells #[.int .i64 m] 3 (0,0))/\w'.heap[b5]? =ae (.cells #[.bool ac] 4 (0,0))/\(∀B,B<=b4->B<=b5->B<=w.heap.size->Below B w w'):=by
 have c4:w.cell? ⟨b4,0,aj⟩=ae (.int .i64 x):=(aB h4 0).trans rfl;have c5:w.cell? ⟨b5,0,aj⟩=ae (.bool y):=(aB h5 0).trans rfl;have f4:=bS h4 0;have f5:=bS h5 0;refine callsD_of_wpS Tryz.func283 rfl fun c₀ cs hu=> ?_;unfold jC at hu;apply wpS_seq;apply wpS_region;simp[wpOpsS,go_sem,recoverD,hu,Tryz.ntmps283,Exit.thenS];refine wpS_norm (a':={ tmps:= #[.pointer (ae ⟨b4,0,aj⟩),.pointer (ae ⟨b5,0,aj⟩),.iface 289 (.agg #[.int .i64 m]),undef,undef,.iface 289 (.agg #[.int .i64 m]),undef,undef,undef,undef,undef,undef,undef,undef,undef,undef,undef,undef],defers:=[] }) (by rfl) ?_;refine wpS_of_wp ?_;have hta:=assert_found m;have l4:=aR h4;have l5:=aR h5;have n4:¬b4=b5:=hne;have n5:¬b5=b4:=fun e=>hne e.symm
 have m4:¬b4=w.heap.size:=by omega
 have m5:¬b5=w.heap.size:=by omega
 have H4:=J h4;have H5:=J h5;clear hne h4 h5;go_wp2_with fail;refine⟨rfl,_,rfl,.tuple #[],results_none rfl _ _ _,rfl,rfl,?_,?_,fun B hB4 hB5 hBw=>(((ak B w).setCell (p:=⟨b4,0,aj⟩) hB4 _).setCell (p:=⟨b5,0,aj⟩) hB5 _).alloc (by simpa[fo]using hBw) _⟩
 ·rw[dr _ _ _ (by simpa[fo]using l4),cy _ _ _ _ n4];exact gL H4.out 0 _ rfl
 ·rw[dr _ _ _ (by simpa[fo]using l5)];exact gL ((cy _ _ _ _ n5).trans H5.out) 0 _ rfl
end
end Go.Proofs.YtfigjpehecibeaaGreat.L
