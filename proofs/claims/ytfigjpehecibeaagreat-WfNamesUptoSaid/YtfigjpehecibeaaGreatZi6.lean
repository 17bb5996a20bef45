/- Texts joined by a program of mine: Fh Fi Fj Fk Fl Fm Fo Fp Fq. -/
import Derived.Shelf.Sort.Plain
import Derived.Shelf.Slices.CompactS
import Derived.Shelf.Slices.In.SortNone
import Derived.Test.YtfigjpehecibeaaGreatProg
import Derived.Lib.OwnBridge
import Derived.Sort.OwnSorted
import Derived.Sort.Walk0
import Derived.Outline
import Derived.Test.YtfigjpehecibeaaGreatZi1
import Derived.Test.YtfigjpehecibeaaGreatZi2
import Derived.Test.YtfigjpehecibeaaGreatZi4
import Derived.Test.YtfigjpehecibeaaGreatZi5
set_option maxRecDepth 100000
open And renaming intro -> aq
open Bool renaming true -> ac, false -> O
open ByteArray renaming empty -> ba
open Go.Act renaming put -> ay
open Go.Proofs.Tryz renaming prog -> au, underlying3 -> gb
open Go.Proofs.YtfigjpehecibeaaGreatW.PrintWords.Aside0 renaming mk -> J
open Go.RowKit.Below renaming heap_setCell -> cy, refl -> ak
open Go.World renaming setCell -> fo
open Int renaming natCast_nonneg -> bc, toNat_natCast -> ax
open List renaming map_append -> cw, length_take -> bq, length_append -> ar, length_singleton -> az, append_nil -> ek, setIfInBounds_toArray -> aa, set_cons_zero -> af, set_cons_succ -> ag, append_assoc -> bh, getElem_mem -> dz, drop_eq_getElem_cons -> dw, getElem?_eq_getElem -> av, getD_eq_getElem?_getD -> aw, take_length -> df, mem_cons_self -> fz, mem_cons -> cg, mem_append -> bo, map_cons -> cq, map_nil -> dc, getElem_of_mem -> ef, getElem?_eq_some_iff -> cz, getElem?_append_left -> fu
open Nat renaming le_trans -> bg, le_refl -> ai, zero_le -> br, lt_or_ge -> gh, eq_zero_or_pos -> bu
open Option renaming some -> ae, none -> aj
open Or renaming inl -> bi
set_option linter.unusedVariables false
set_option linter.unusedSimpArgs false
set_option maxHeartbeats 8000000
namespace Go.Proofs.YtfigjpehecibeaaGreat.L
open Go.RowKit Go.Proofs.YtfigjpehecibeaaGreatW.PrintWords Go.Proofs.YtfigjpehecibeaaGreatW.PrintLast Go.Proofs.YtfigjpehecibeaaGreatW.PrintMore Go.Proofs.YtfigjpehecibeaaGreat.Gr
section
set_option maxRecDepth 100000
structure Nk (A C:World):Prop where
 size:A.heap.size<=C.heap.size
 blk:∀(k:Nat) (cs:Array Value) (t:TypeId),A.heap[k]? =ae (.cells cs t (0,0))->t≠52->t≠4->t≠9->C.heap[k]? =ae (.cells cs t (0,0))
theorem Nk.trans {A C D:World}(h:Nk A C)(k:Nk C D):Nk A D:=⟨bg h.size k.size,fun i cs t q a b c=>k.blk i cs t (h.blk i cs t q a b c) a b c⟩
theorem Nk.of_below {A C:World}(h:Below A.heap.size A C):Nk A C:=⟨h.size,fun k cs t q _ _ _=>aE q h⟩
theorem Nk.set {A:World}{b t0:Nat}{cs0:Array Value}(j:Nat)(u:Value)(h:A.heap[b]? =ae (.cells cs0 t0 (0,0)))(ht:t0=52\/t0=4):Nk A (A.setCell ⟨b,j,aj⟩ u):=⟨by simp[fo],fun k cs t q h1 h2 h3=>(cy _ _ _ k (gS q h (by rcases ht with rfl | rfl;exact h1;exact h2))).trans q⟩
theorem Nk.grown {A C:World}{v:Value}{B n:Nat}{l:List ByteArray}(hR:RS A B v l)(h:A.grownBy C v.ownBlock):Nk A C:=⟨h.size,fun k cs t q h1 h2 h3=>(h.block k (aR q) (fun e=>by
 obtain⟨inner,ho⟩:=Kd.R_own hR;obtain⟨cells,hc⟩:=jD ho k e.symm
 exact gS q hc h3 rfl)).trans q⟩
theorem RS.other {A:World}{B:Nat}{v:Value}{l:List ByteArray}(h:RS A B v l){b t0:Nat}{cs0:Array Value}(j:Nat)(u:Value)(hb:A.heap[b]? =ae (.cells cs0 t0 (0,0)))(ht:t0≠9):RS (A.setCell ⟨b,j,aj⟩ u) B v l:=
 Kd.jA (Kd.R_step (Kd.iV h) (fun i hi _=>by
  obtain⟨_,_,_,q,hq,cells,hc⟩:=hi
  have hq9:q=9:=by
   simp[Kd.string,Kd.scalar]at hq;exact hq
  subst hq9
  exact cy _ _ _ i (gS hc hb (fun e=>ht e.symm)))) (fun _ _=>trivial)
theorem dK {A:World}{B b t0:Nat}{v:Value}{l:List ByteArray}{cs0:Array Value}(h:RS A B v l)(hb:A.heap[b]? =ae (.cells cs0 t0 (0,0)))(ht:t0≠9):ae b≠v.ownBlock:=fun e=>by
 obtain⟨inner,ho⟩:=Kd.R_own h;obtain⟨cells,hc⟩:=jD ho b e.symm;exact gS hb hc ht rfl
structure NmS (Wb X:World)(bis bl:Nat)(names:List ByteArray)(W':World):Prop where
 below:Below Wb.heap.size Wb W'
 nk:Nk X W'
 is:W'.heap[bis]? =ae (.cells #[.bool ac] 4 (0,0))
 l:∃lv,W'.heap[bl]? =ae (.cells #[lv] 52 (0,0))/\RS W' Wb.heap.size lv names
theorem aW.nk {A C:World}(h:Nk A C):∀{lo:List ByteArray} {v:Value},aW A v lo->aW C v lo
 | [],v,h=>h
 |nm::r,v,⟨c,nx,hv,hc,hr⟩=>⟨c,nx,hv,h.blk c _ 121 hc (by decide) (by decide) (by decide),aW.nk h hr⟩
theorem aW.same {W:World}:∀{l l':List ByteArray} {v:Value},aW W v l->aW W v l'->l=l'
 | [],[],_,_,_=>rfl
 | [],nm::r,v,h,⟨c,nx,hv,_,_⟩=>by
   unfold aW at h;rw[h]at hv;injection hv with hv;cases hv
 |nm::r,[],v,⟨c,nx,hv,_,_⟩,h=>by
  unfold aW at h;rw[h]at hv;injection hv with hv;cases hv
 |nm::r,nm2::r2,v,⟨c,nx,hv,hc,hr⟩,⟨c2,nx2,hv2,hc2,hr2⟩=>by
  rw[hv]at hv2;injection hv2 with hv2;injection hv2 with hv2;injection hv2 with hv2;subst hv2;rw[hc]at hc2;injection hc2 with hc2;injection hc2 with hc2;injection hc2 with hc2;injection hc2 with h1 h2;injection h1 with h1;injection h2 with h2;subst h1 h2;rw[aW.same hr hr2]
open Classical in
noncomputable def leftS (W:World)(v:Value):Nat:=if h:∃l,aW W v l then(Classical.choose h).length else 0
theorem iD {W:World}{v:Value}{l:List ByteArray}(h:aW W v l):leftS W v=l.length:=by
 have hex:∃l,aW W v l:=⟨l,h⟩;unfold leftS;rw[dif_pos hex,aW.same (Classical.choose_spec hex) h]
theorem NmS.down {Wb X A C:World}{bis bl:Nat}{names:List ByteArray}(h:NmS Wb X bis bl names A)(k:Below A.heap.size A C):NmS Wb X bis bl names C:=⟨h.below.trans (k.mono h.below.size),h.nk.trans (Nk.of_below k),aE h.is k,by
 obtain⟨lv,h1,h2⟩:=h.l
 exact⟨lv,aE h1 k,Kd.dA h2 k⟩⟩
theorem NmS.more {Wb X A C:World}{bis bl:Nat}{names:List ByteArray}{x:ByteArray}{lv v1:Value}(h:NmS Wb X bis bl names A)(hbl:Wb.heap.size<=bl)(h1:A.heap[bl]? =ae (.cells #[lv] 52 (0,0)))(h2:RS A Wb.heap.size lv names)(hR:RS C Wb.heap.size v1 (names++[x]))(hb:Below Wb.heap.size Wb C)(hg:A.grownBy C lv.ownBlock):
 NmS Wb X bis bl (names++[x]) (C.setCell ⟨bl,0,aj⟩ v1):=by
 have hc:C.heap[bl]? =ae (.cells #[lv] 52 (0,0)):=(hg.block bl (aR h1) (dK h2 h1 (by decide))).trans h1;have hi:C.heap[bis]? =ae (.cells #[.bool ac] 4 (0,0)):=(hg.block bis (aR h.is) (dK h2 h.is (by decide))).trans h.is;refine⟨hb.setCell (p:=⟨bl,0,aj⟩) hbl _,(h.nk.trans (Nk.grown (B:=Wb.heap.size) (n:=0) h2 hg)).trans (Nk.set 0 v1 hc (.inl rfl)),?_,v1,gL hc 0 v1 rfl,hR.other 0 v1 hc (by decide)⟩;exact(cy _ _ _ bis (gS hi hc (by decide))).trans hi
theorem seeNames (nm:ByteArray)(wd ln:Int)(ds:List S70)(bd:List S119)(A3:Option Addr)(c3:Nat)(A4:Option Addr)(c4:Nat)(Wb:World)(hp:ProgAt Wb ds bd A3 c3 A4 c4)(hbb:Ot.bH bd<=1048576)(hdl:ds.length<=1048576)(place:Int)(bpl bis bp bl:Nat)(hpl:Wb.heap.size<=bis)(hbl:Wb.heap.size<=bl):
 SeeS Wb 83 #[.pointer (ae ⟨bpl,0,aj⟩),.pointer (ae ⟨bis,0,aj⟩),.pointer (ae ⟨bp,0,aj⟩),.pointer (ae ⟨bl,0,aj⟩)] (NmI Wb.heap.size #[.string nm,.int .i64 wd,.int .i64 ln,.slice A3 ds.length c3,.slice A4 bd.length c4] bpl bis bp bl ds place) (things ds bd) where
 enter:=enter_func Tryz.func83 (by kernel_rfl) rfl
 stay:=fun _ _ _ h k=>h.stay k
 see:=by
  intro W n pre dp sp ep dI lp t rest hn hL hB ht hI;obtain⟨lv,hl1,hl2⟩:=hI.l;obtain⟨tb,htb⟩:∃b,b=W.heap.size:=⟨_,rfl⟩;obtain⟨X,hX⟩:∃X,X=W.alloc (.cells #[.int .i64 n,dp,sp,ep,.int .i64 dI,lp] 110):=⟨_,rfl⟩
  have hXB:Below W.heap.size W X:=by rw[hX];exact(ak _ _).alloc (ai _) _
  have hbt:X.heap[tb]? =ae (.cells #[.int .i64 n,dp,sp,ep,.int .i64 dI,lp] 110 (0,0)):=by rw[hX,htb];exact bR _ _
  have HX:=J (aq hXB (aq hbt (hB.trans (hXB.mono hB.size))));have HI:=J (hI.stay (Gi.of_below hXB));have HLV:=J (aq (aE hl1 hXB) (Kd.dA hl2 hXB));have HT:=J (aq (ht.below hXB) (aq hn hL));have HP:=J hp;have HBB:=J (aq hbb (aq hdl (aq hpl hbl)));have HXE:=J (aq hX htb);have HB:=J hB;have x0:X.cell? ⟨tb,0,aj⟩=ae (.int .i64 n):=(aB hbt 0).trans rfl;have x1:X.cell? ⟨bpl,0,aj⟩=ae (.int .i64 place):=(aB (aE hI.pl hXB) 0).trans rfl;clear hp hbb hdl hpl hbl hn hL hB ht hI hl1 hl2 hX htb hXB hbt;go_enter Tryz.func83,Tryz.ntmps83
  go_upto_region 1 with (fail)
  rw[←HXE.out.1,←HXE.out.2]
  by_cases hnp:(n:Int)=place
  ·subst hnp;have xb:X.cell? ⟨bis,0,aj⟩=ae (.bool (isK (n:Int) pre)):=(aB HI.out.is 0).trans rfl;have xf:X.frozen? ⟨bis,0,aj⟩=O:=bS HI.out.is 0
   go_upto_region 3 with (fail)
   obtain⟨Y,hY⟩:∃Y,Y=X.setCell ⟨bis,0,aj⟩ (.bool ac):=⟨_,rfl⟩
   have hYB:Below Wb.heap.size Wb Y:=by rw[hY];exact HX.out.2.2.setCell (p:=⟨bis,0,aj⟩) HBB.out.2.2.1 _
   have hYN:Nk X Y:=by rw[hY];exact Nk.set 0 _ HI.out.is (.inr rfl)
   have hyl:Y.heap[bl]? =ae (.cells #[lv] 52 (0,0)):=by rw[hY];exact(cy _ _ _ bl (gS HLV.out.1 HI.out.is (by decide))).trans HLV.out.1
   have HS:=J (show NmS Wb X bis bl [] Y from⟨hYB,hYN,by rw[hY];exact gL HI.out.is 0 _ rfl,lv,hyl,by
    have h:=HLV.out.2;rw[nmsK_before (by rw[←HT.out.2.1])]at h;rw[hY]
    exact RS.other h 0 _ HI.out.is (by decide)⟩)
   have hyp:=hYN.blk _ _ _ HI.out.p (by decide) (by decide) (by decide);have hyt:=hYN.blk _ _ _ HX.out.2.1 (by decide) (by decide) (by decide);have hyl:=hYN.blk _ _ _ HI.out.pl (by decide) (by decide) (by decide);rw[←hY];have HYY:=J (aq hyp (aq hyt hyl));have y3:Y.cell? ⟨bp,3,aj⟩=ae (.slice A3 ds.length c3):=(aB hyp 3).trans rfl;have y5:Y.cell? ⟨tb,5,aj⟩=ae lp:=(aB hyt 5).trans rfl;have y1:Y.cell? ⟨tb,1,aj⟩=ae dp:=(aB hyt 1).trans rfl;have y0:Y.cell? ⟨bpl,0,aj⟩=ae (.int .i64 n):=(aB hyl 0).trans rfl;clear hY hYB hYN hyl hyp hyt x0 x1 xb xf
   have HK:=J (show ∃kn,kn=knownT ds t/\kn<=ds.length/\kn<=c3 from⟨_,rfl,by
    cases t with
    |decl i=>exact Nat.le_of_lt (gW HT.out.2.2 (eD bd 1 [])).2
    |stmt s d lo=>exact ai _
    |expr e lo=>exact ai _,by
    have:=HP.out.hld
    cases t with
    |decl i=>exact bg (Nat.le_of_lt (gW HT.out.2.2 (eD bd 1 [])).2) this
    |stmt s d lo=>exact this
    |expr e lo=>exact this⟩)
   have HSC:=J (show aW X lp (fE t).reverse from by
    have h:=HT.out.1
    cases t with
    |decl i=>exact h.2.2.2.2
    |stmt s d lo=>exact h.2.2.2.2
    |expr e lo=>exact h.2.2.2.2)
   cases t with
   |decl i=>
    obtain⟨⟨da,rfl⟩,rfl,rfl,rfl,rfl⟩:=HT.out.1;obtain⟨hi1,hi2⟩:=gW HT.out.2.2 (eD bd 1 []);have hni:i=n:=hi1.trans HT.out.2.1.symm;subst hni;have HI1:=J (aq hi1 hi2)
    have hic:i<=c3:=by have:=HP.out.hld;omega
    clear hi1 hi2 hyl;go_wp2_with fail;have Hi:=J (show i<=ds.length/\i<=c3 from⟨Nat.le_of_lt HI1.out.2,hic⟩);have hknb:i<=1048576:=bg Hi.out.1 HBB.out.2.1
    go_loopw [25] (fun iv W'=>∃k:Nat,iv=.int .i64 k/\k<=i/\Aside0 (NmS Wb X bis bl ((ds.take k).map (·.f1)) W')) (fun iv _=>i - (intOf iv).toNat)
    case atStart=>exact⟨0,rfl,br _,⟨HS.out⟩⟩
    case round=>
     as_aux_lemma=>
      obtain⟨k,rfl,hk,HR⟩:=hrel
      by_cases hlt:k<i
      ·have hi1:(k:Int)<(i:Int):=by omega
       obtain⟨ad,A9,c9,e1,q0,q1,q2,q3,l3,g3⟩:=d6 (HP.out.below HR.out.below).hd (k:Int) (bc _) (by have:=Hi.out.1;omega);cases e1;rw[ax]at q0 q1 q2 q3;obtain⟨lv2,hl1,hl2⟩:=HR.out.l;have z1:wr.cell? ⟨bl,0,aj⟩=ae lv2:=(aB hl1 0).trans rfl;have HTK:=J (show(ds.take (k+1)).map (·.f1)=(ds.take k).map (·.f1)++[(aJ ds (k:Int)).f1] from by rw[eX (by have:=Hi.out.1;omega),cw];rfl)
       have HLN:=J (show(((ds.take k).map (·.f1)).length+1)*16<=140737488355328 from by
        rw[List.length_map,bq];have:=HBB.out.2.1
        omega)
       obtain⟨y,hy⟩:∃y,y=aJ ds (k:Int):=⟨_,rfl⟩;rw[←hy]at q0 q1 q2 q3 HTK;obtain⟨nn,hnn⟩:∃l,l=(ds.take k).map (·.f1):=⟨_,rfl⟩;rw[←hnn]at HTK HLN HR hl2;clear hnn hy;have HLV:=J (aq hl1 hl2);have HLT:=J (aq hlt hk);have hblt:bl<wr.heap.size:=aR hl1;obtain⟨W2,hW2⟩:∃W2,W2=wr.alloc (.cells #[.int .i64 y.f0,.string y.f1,.int .i64 y.f2,.slice A9 y.f3.length c9] 70):=⟨_,rfl⟩
       have hb2:Below wr.heap.size wr W2:=by rw[hW2];exact(ak _ _).alloc (ai _) _
       have H2:=J (show Below wr.heap.size wr W2/\NmS Wb X bis bl nn W2/\W2.heap[bl]? =ae (.cells #[lv2] 52 (0,0))/\RS W2 Wb.heap.size lv2 nn from⟨hb2,HR.out.down hb2,aE HLV.out.1 hb2,Kd.dA HLV.out.2 hb2⟩);have HW2:=J hW2
       have y1':W2.cell? ⟨wr.heap.size,1,aj⟩=ae (.string y.f1):=by rw[hW2];exact(aB (bR wr _) 1).trans rfl
       have y2':W2.cell? ⟨bl,0,aj⟩=ae lv2:=(aB H2.out.2.2.1 0).trans rfl;clear hl1 hl2 l3 g3 hb2 hW2
       go_upto_region 9 with (fail)
       rw[←HW2.out]
       go_wp2_with ((with_reducible refine bX (b:=.append) (xs:= #[.tmp 29,.tmp 32]) rfl ?_);at_builtin;refine Kd.eG Kd.string (w0:=Wb) Wb.heap.size rfl (.tmp 29) (.tmp 32) 52 9 (.string ba) 16 rfl Tryz.underlying52 mA rfl (by decide) (by decide) lv2 nn y.f1 [.string y.f1] (fun _=>True) (fun _=>False) rfl rfl rfl (fun _ h=>h.elim) (fun _ _=>trivial) H2.out.2.2.2 H2.out.2.1.below H2.out.2.1.below.size HLN.out ?_)
       intro v1 w3 hR3 hb3 hg3 hat3;have z5:w3.cell? ⟨bl,0,aj⟩=ae lv2:=(aB ((hg3.block bl (aR H2.out.2.2.1) (dK H2.out.2.2.2 H2.out.2.2.1 (by decide))).trans H2.out.2.2.1) 0).trans rfl;have z6:w3.frozen? ⟨bl,0,aj⟩=O:=bS ((hg3.block bl (aR H2.out.2.2.1) (dK H2.out.2.2.2 H2.out.2.2.1 (by decide))).trans H2.out.2.2.1) 0;have H3:=J (H2.out.2.1.more HBB.out.2.2.2 H2.out.2.2.1 H2.out.2.2.2 hR3 hb3 hg3);obtain⟨Av,cv,hv⟩:=Kd.dG hR3;subst hv;rw[ar,az]at H3;clear hR3 hb3 hg3 hat3 y1' y2' z1 q0 q1 q2 q3;go_wp2_with fail;refine⟨⟨k+1,by go_num,by omega,⟨?_⟩⟩,by simp[intOf];omega⟩;rw[HTK.out];exact H3.out
      ·have hkl:i=k:=by omega
       have hi1:¬(k:Int)<(i:Int):=by omega
       have HRE:=J (show NmS Wb X bis bl ((ds.take i).map (·.f1)) wr from by rw[hkl];exact HR.out);clear hk hkl;have w5:wr.cell? ⟨tb,5,aj⟩=ae (.pointer aj):=(aB (HRE.out.nk.blk _ _ _ HX.out.2.1 (by decide) (by decide) (by decide)) 5).trans rfl;go_wp2_with fail
       go_loopw [9] (fun sv W'=>∃(q:Option Addr) (don rst:List ByteArray),sv=.pointer q/\Aside0 ((fE (.decl i)).reverse=don++rst/\aW W' (.pointer q) rst/\NmS Wb X bis bl ((ds.take i).map (·.f1)++don) W')) (fun sv W'=>leftS W' sv)
       case atStart=>exact⟨_,[],_,rfl,⟨rfl,HSC.out.nk HRE.out.nk,by rw[ek];exact HRE.out⟩⟩
       case round=>
        as_aux_lemma=>
         obtain⟨q,don,rst,rfl,HS2⟩:=hrel
         cases rst with
         |nil=>
          have hq:q=aj:=by have h:=HS2.out.2.1;unfold aW at h;injection h
          subst hq;go_wp2_with fail
          first | go_end0 | skip
          have hn:=HS2.out.2.2;have hd:=HS2.out.1;rw[ek]at hd;rw[←hd]at hn;obtain⟨lv3,e1,e2⟩:=hn.l;refine⟨rfl,⟨hn.nk.blk _ _ _ HI.out.pl (by decide) (by decide) (by decide),by rw[kO (by rw[←HT.out.2.1])];exact hn.is,hn.nk.blk _ _ _ HI.out.p (by decide) (by decide) (by decide),lv3,e1,by rw[lX (by rw[←HT.out.2.1])];exact e2⟩,⟨hn.below,bg HX.out.1.size hn.nk.size,fun k cs t hk ht=>hn.nk.blk k cs t (aE hk HX.out.1) (by rcases ht with rfl | rfl <;> decide) (by rcases ht with rfl | rfl <;> decide) (by rcases ht with rfl | rfl <;> decide)⟩,fun k cs hk=>hn.nk.blk k cs _ (aE hk HX.out.1) (by decide) (by decide) (by decide)⟩
         |cons nm1 rst=>
          obtain⟨cb,nx,hq,hc,hr⟩:=HS2.out.2.1;injection hq with hq;subst hq;obtain⟨nq,rfl⟩:=aW.ptr hr;obtain⟨lv2,hl1,hl2⟩:=HS2.out.2.2.l;obtain⟨nn,hnn⟩:∃l,l=(ds.take i).map (·.f1)++don:=⟨_,rfl⟩
          have HLN:=J (show(nn.length+1)*16<=140737488355328 from by
           have h1:=eN HBB.out.1 (.decl i) (by rw[HT.out.2.2];simp);have h2:=congrArg List.length HS2.out.1;rw[List.length_reverse,ar]at h2;rw[hnn,ar,List.length_map,bq];have:=HBB.out.2.1
           omega)
          have HNN:=J hnn;rw[←hnn]at hl2;have HD:=J (show ∀g:G wr,Below wr.heap.size wr g.W/\NmS Wb X bis bl nn g.W/\g.W.heap[bl]? =ae (.cells #[lv2] 52 (0,0))/\RS g.W Wb.heap.size lv2 nn from fun g=>⟨g.below,by rw[hnn];exact HS2.out.2.2.down g.below,aE hl1 g.below,Kd.dA hl2 g.below⟩);have p1:∀g:G wr,g.W.cell? ⟨bl,0,aj⟩=ae lv2:=fun g=>(aB (aE hl1 g.below) 0).trans rfl;have p2:∀g:G wr,g.W.cell? ⟨cb,0,aj⟩=ae (.string nm1):=fun g=>(aB (aE hc g.below) 0).trans rfl;have HC:=J (aq hc hr);clear hl1 hl2 hc hr hnn;go_wp2_with fail;refine aG ?_;intro gg;refine gG (n:=8) (S:=fun w'=>∃g':G _,w'=g'.W) (ds:=[6,7]) #[O,O,O,O,O,O,O,O] (by kernel_rfl) rfl rfl ⟨mkG (gg.2.drew),rfl⟩ (fun hHeld=> ?_);obtain⟨gd,hgd⟩:=hHeld;rw[hgd];clear hgd;refine eO (i:=0) (N:=ae 43) (v:= ?_) (a':= ?_) #[ac,O,O,O,O,O,O,O] rfl rfl (by kernel_rfl) (fun _ _ _ h=>h) (bi ⟨by rfl,?_⟩) ⟨gd,rfl⟩ ?_ ?_;rotate_left
          ·rintro w' ⟨g',rfl⟩;go_simp;with_reducible rfl
          rotate_left
          ·simp only[ay,aa,af,ag,aQ,aP];rfl
          refine bN (i:=1) (N:=ae 44) (v:= ?_) (a':= ?_) #[ac,ac,O,O,O,O,O,O] rfl rfl (by kernel_rfl) (fun _ _ _ h=>h) (bi ⟨by rfl,?_⟩) ?_ ?_;rotate_left
          ·intro w';go_simp;with_reducible rfl
          rotate_left
          ·simp only[ay,aa,af,ag,aQ,aP];rfl
          refine bN (i:=2) (N:=ae 45) (v:= ?_) (a':= ?_) #[ac,ac,ac,O,O,O,O,O] rfl rfl (by kernel_rfl) (fun _ _ _ h=>h) (bi ⟨by rfl,?_⟩) ?_ ?_;rotate_left
          ·intro w';go_simp;with_reducible rfl
          rotate_left
          ·simp only[ay,aa,af,ag,aQ,aP];rfl
          refine bN (i:=3) (N:=ae 46) (v:= ?_) (a':= ?_) #[ac,ac,ac,ac,O,O,O,O] rfl rfl (by kernel_rfl) (fun _ _ _ h=>h) (bi ⟨by rfl,?_⟩) ?_ ?_;rotate_left
          ·intro w';go_simp;with_reducible rfl
          rotate_left
          ·simp only[ay,aa,af,ag,aQ,aP];rfl
          refine eO (i:=4) (N:=ae 47) (v:= ?_) (a':= ?_) #[ac,ac,ac,ac,ac,O,O,O] rfl rfl (by kernel_rfl) (fun _ _ _ h=>h) (bi ⟨by rfl,?_⟩) ⟨gd,rfl⟩ ?_ ?_;rotate_left
          ·rintro w' ⟨g',rfl⟩;go_simp;with_reducible rfl
          rotate_left
          ·simp only[ay,aa,af,ag,aQ,aP];rfl
          refine jO (i:=5) (N:=ae 48) #[ac,ac,ac,ac,ac,ac,O,O] rfl rfl (by kernel_rfl) (by simp) (fun Kr hKr=> ?_);refine cO (v:=.slice (ae ⟨gd.W.heap.size,0,aj⟩) 1 1) (w1:=gd.W.alloc (.cells #[.string nm1] 9)) (by rfl) (by first | (go_simp;done) | (go_simp;rfl)) ?_;refine hKr.out _ _ ⟨mkG (G.ball gd _),rfl⟩ (fun _=> ?_);clear hKr Kr;refine cG (a':= ?_) ?_ ?_;rotate_left
          ·show ay _ (ae 48) _ = _
           simp only[ay,aa,af,ag,aQ,aP];rfl
          refine last_ (i:=6) (N:=ae 49) #[ac,ac,ac,ac,ac,ac,ac,O] rfl rfl (by kernel_rfl) (by simp) (fun Kr hKr=> ?_);refine Kd.eP Kd.string (w0:=Wb) Wb.heap.size (by rfl) (.tmp 43) (.tmp 48) 52 9 (.string ba) 16 rfl Tryz.underlying52 mA rfl (by decide) (by decide) lv2 nn nm1 [.string nm1] (fun _=>True) (fun _=>False) (by rfl) (by rfl) rfl (fun _ h=>h.elim) (fun _ _=>trivial) (HD.out gd).2.2.2 (HD.out gd).2.1.below (HD.out gd).2.1.below.size HLN.out ?_;intro v1 w3 hR3 hb3 hg3 hat3;have z5:w3.cell? ⟨bl,0,aj⟩=ae lv2:=(aB ((hg3.block bl (aR (HD.out gd).2.2.1) (dK (HD.out gd).2.2.2 (HD.out gd).2.2.1 (by decide))).trans (HD.out gd).2.2.1) 0).trans rfl;have z6:w3.frozen? ⟨bl,0,aj⟩=O:=bS ((hg3.block bl (aR (HD.out gd).2.2.1) (dK (HD.out gd).2.2.2 (HD.out gd).2.2.1 (by decide))).trans (HD.out gd).2.2.1) 0;have hl3:w3.heap[bl]? =ae (.cells #[lv2] 52 (0,0)):=(hg3.block bl (aR (HD.out gd).2.2.1) (dK (HD.out gd).2.2.2 (HD.out gd).2.2.1 (by decide))).trans (HD.out gd).2.2.1;have hcg:=aE HC.out.1 gd.below;have hc3:w3.heap[cb]? =ae (.cells #[.string nm1,.pointer nq] 121 (0,0)):=(hg3.block cb (aR hcg) (dK (HD.out gd).2.2.2 hcg (by decide))).trans hcg;have HN3:=J (show Nk wr w3/\w3.heap[bl]? =ae (.cells #[lv2] 52 (0,0))/\w3.heap[cb]? =ae (.cells #[.string nm1,.pointer nq] 121 (0,0)) from⟨(Nk.of_below gd.below).trans (Nk.grown (B:=Wb.heap.size) (n:=0) (HD.out gd).2.2.2 hg3),hl3,hc3⟩);clear hl3 hcg hc3;have H3:=J ((HD.out gd).2.1.more HBB.out.2.2.2 (HD.out gd).2.2.1 (HD.out gd).2.2.2 hR3 hb3 hg3);obtain⟨Av,cv,hv⟩:=Kd.dG hR3;subst hv;rw[ar,az]at H3;clear hR3 hb3 hg3 hat3;refine hKr.out _ _ ?_;clear hKr Kr;refine cG (a':= ?_) ?_ ?_;rotate_left
          ·show ay _ (ae 49) _ = _
           simp only[ay,aa,af,ag,aQ,aP];rfl
          refine last_ (i:=7) (N:=aj) #[ac,ac,ac,ac,ac,ac,ac,ac] rfl rfl (by kernel_rfl) (by simp) (fun Kr hKr=> ?_);refine skip_ (w1:=w3.setCell ⟨bl,0,aj⟩ (.slice Av (nn.length+1) cv)) (by rfl) rfl (by first | (go_simp;done) | (go_simp;rfl)) ?_;refine hKr.out _ _ ?_;clear hKr Kr;refine kG (by kernel_rfl) ?_;have HN4:=J (show Nk wr (w3.setCell ⟨bl,0,aj⟩ (.slice Av (nn.length+1) cv))/\(w3.setCell ⟨bl,0,aj⟩ (.slice Av (nn.length+1) cv)).heap[cb]? =ae (.cells #[.string nm1,.pointer nq] 121 (0,0)) from⟨HN3.out.1.trans (Nk.set 0 _ HN3.out.2.1 (.inl rfl)),(cy _ _ _ cb (gS HN3.out.2.2 HN3.out.2.1 (by decide))).trans HN3.out.2.2⟩);obtain⟨w4,hw4⟩:∃w4,w4=w3.setCell ⟨bl,0,aj⟩ (.slice Av (nn.length+1) cv):=⟨_,rfl⟩;rw[←hw4]at H3 HN4 ⊢;have z8:w4.cell? ⟨cb,1,aj⟩=ae (.pointer nq):=(aB HN4.out.2 1).trans rfl;clear p1 p2 z5 z6 hw4;go_wp2_with fail;have hsc:=HC.out.2.nk HN4.out.1;refine⟨⟨nq,don++[nm1],rst,rfl,⟨by rw[HS2.out.1];simp,hsc,by have h:=H3.out;rw[HNN.out]at h;rw[←bh];exact h⟩⟩,?_⟩;rw[iD hsc,iD HS2.out.2.1]
          simp
   |stmt s d lo=>
    obtain⟨rfl,hst,rfl,rfl,hsc⟩:=HT.out.1;obtain⟨lq,rfl⟩:=hsc.ptr;clear hst hsc;go_wp2_with fail;have Hds.length:=J (show ds.length<=ds.length/\ds.length<=c3 from⟨ai _,HP.out.hld⟩);have hknb:ds.length<=1048576:=bg Hds.length.out.1 HBB.out.2.1
    go_loopw [25] (fun iv W'=>∃k:Nat,iv=.int .i64 k/\k<=ds.length/\Aside0 (NmS Wb X bis bl ((ds.take k).map (·.f1)) W')) (fun iv _=>ds.length - (intOf iv).toNat)
    case atStart=>exact⟨0,rfl,br _,⟨HS.out⟩⟩
    case round=>
     as_aux_lemma=>
      obtain⟨k,rfl,hk,HR⟩:=hrel
      by_cases hlt:k<ds.length
      ·have hi1:(k:Int)<(ds.length:Int):=by omega
       obtain⟨ad,A9,c9,e1,q0,q1,q2,q3,l3,g3⟩:=d6 (HP.out.below HR.out.below).hd (k:Int) (bc _) (by have:=Hds.length.out.1;omega);cases e1;rw[ax]at q0 q1 q2 q3;obtain⟨lv2,hl1,hl2⟩:=HR.out.l;have z1:wr.cell? ⟨bl,0,aj⟩=ae lv2:=(aB hl1 0).trans rfl;have HTK:=J (show(ds.take (k+1)).map (·.f1)=(ds.take k).map (·.f1)++[(aJ ds (k:Int)).f1] from by rw[eX (by have:=Hds.length.out.1;omega),cw];rfl)
       have HLN:=J (show(((ds.take k).map (·.f1)).length+1)*16<=140737488355328 from by
        rw[List.length_map,bq];have:=HBB.out.2.1
        omega)
       obtain⟨y,hy⟩:∃y,y=aJ ds (k:Int):=⟨_,rfl⟩;rw[←hy]at q0 q1 q2 q3 HTK;obtain⟨nn,hnn⟩:∃l,l=(ds.take k).map (·.f1):=⟨_,rfl⟩;rw[←hnn]at HTK HLN HR hl2;clear hnn hy;have HLV:=J (aq hl1 hl2);have HLT:=J (aq hlt hk);have hblt:bl<wr.heap.size:=aR hl1;obtain⟨W2,hW2⟩:∃W2,W2=wr.alloc (.cells #[.int .i64 y.f0,.string y.f1,.int .i64 y.f2,.slice A9 y.f3.length c9] 70):=⟨_,rfl⟩
       have hb2:Below wr.heap.size wr W2:=by rw[hW2];exact(ak _ _).alloc (ai _) _
       have H2:=J (show Below wr.heap.size wr W2/\NmS Wb X bis bl nn W2/\W2.heap[bl]? =ae (.cells #[lv2] 52 (0,0))/\RS W2 Wb.heap.size lv2 nn from⟨hb2,HR.out.down hb2,aE HLV.out.1 hb2,Kd.dA HLV.out.2 hb2⟩);have HW2:=J hW2
       have y1':W2.cell? ⟨wr.heap.size,1,aj⟩=ae (.string y.f1):=by rw[hW2];exact(aB (bR wr _) 1).trans rfl
       have y2':W2.cell? ⟨bl,0,aj⟩=ae lv2:=(aB H2.out.2.2.1 0).trans rfl;clear hl1 hl2 l3 g3 hb2 hW2
       go_upto_region 9 with (fail)
       rw[←HW2.out]
       go_wp2_with ((with_reducible refine bX (b:=.append) (xs:= #[.tmp 29,.tmp 32]) rfl ?_);at_builtin;refine Kd.eG Kd.string (w0:=Wb) Wb.heap.size rfl (.tmp 29) (.tmp 32) 52 9 (.string ba) 16 rfl Tryz.underlying52 mA rfl (by decide) (by decide) lv2 nn y.f1 [.string y.f1] (fun _=>True) (fun _=>False) rfl rfl rfl (fun _ h=>h.elim) (fun _ _=>trivial) H2.out.2.2.2 H2.out.2.1.below H2.out.2.1.below.size HLN.out ?_)
       intro v1 w3 hR3 hb3 hg3 hat3;have z5:w3.cell? ⟨bl,0,aj⟩=ae lv2:=(aB ((hg3.block bl (aR H2.out.2.2.1) (dK H2.out.2.2.2 H2.out.2.2.1 (by decide))).trans H2.out.2.2.1) 0).trans rfl;have z6:w3.frozen? ⟨bl,0,aj⟩=O:=bS ((hg3.block bl (aR H2.out.2.2.1) (dK H2.out.2.2.2 H2.out.2.2.1 (by decide))).trans H2.out.2.2.1) 0;have H3:=J (H2.out.2.1.more HBB.out.2.2.2 H2.out.2.2.1 H2.out.2.2.2 hR3 hb3 hg3);obtain⟨Av,cv,hv⟩:=Kd.dG hR3;subst hv;rw[ar,az]at H3;clear hR3 hb3 hg3 hat3 y1' y2' z1 q0 q1 q2 q3;go_wp2_with fail;refine⟨⟨k+1,by go_num,by omega,⟨?_⟩⟩,by simp[intOf];omega⟩;rw[HTK.out];exact H3.out
      ·have hkl:ds.length=k:=by omega
       have hi1:¬(k:Int)<(ds.length:Int):=by omega
       have HRE:=J (show NmS Wb X bis bl ((ds.take ds.length).map (·.f1)) wr from by rw[hkl];exact HR.out);clear hk hkl;have w5:wr.cell? ⟨tb,5,aj⟩=ae (.pointer lq):=(aB (HRE.out.nk.blk _ _ _ HX.out.2.1 (by decide) (by decide) (by decide)) 5).trans rfl;go_wp2_with fail
       go_loopw [9] (fun sv W'=>∃(q:Option Addr) (don rst:List ByteArray),sv=.pointer q/\Aside0 ((fE (.stmt s d lo)).reverse=don++rst/\aW W' (.pointer q) rst/\NmS Wb X bis bl ((ds.take ds.length).map (·.f1)++don) W')) (fun sv W'=>leftS W' sv)
       case atStart=>exact⟨_,[],_,rfl,⟨rfl,HSC.out.nk HRE.out.nk,by rw[ek];exact HRE.out⟩⟩
       case round=>
        as_aux_lemma=>
         obtain⟨q,don,rst,rfl,HS2⟩:=hrel
         cases rst with
         |nil=>
          have hq:q=aj:=by have h:=HS2.out.2.1;unfold aW at h;injection h
          subst hq;go_wp2_with fail
          first | go_end0 | skip
          have hn:=HS2.out.2.2;have hd:=HS2.out.1;rw[ek]at hd;rw[←hd]at hn;obtain⟨lv3,e1,e2⟩:=hn.l;refine⟨rfl,⟨hn.nk.blk _ _ _ HI.out.pl (by decide) (by decide) (by decide),by rw[kO (by rw[←HT.out.2.1])];exact hn.is,hn.nk.blk _ _ _ HI.out.p (by decide) (by decide) (by decide),lv3,e1,by rw[lX (by rw[←HT.out.2.1])];exact e2⟩,⟨hn.below,bg HX.out.1.size hn.nk.size,fun k cs t hk ht=>hn.nk.blk k cs t (aE hk HX.out.1) (by rcases ht with rfl | rfl <;> decide) (by rcases ht with rfl | rfl <;> decide) (by rcases ht with rfl | rfl <;> decide)⟩,fun k cs hk=>hn.nk.blk k cs _ (aE hk HX.out.1) (by decide) (by decide) (by decide)⟩
         |cons nm1 rst=>
          obtain⟨cb,nx,hq,hc,hr⟩:=HS2.out.2.1;injection hq with hq;subst hq;obtain⟨nq,rfl⟩:=aW.ptr hr;obtain⟨lv2,hl1,hl2⟩:=HS2.out.2.2.l;obtain⟨nn,hnn⟩:∃l,l=(ds.take ds.length).map (·.f1)++don:=⟨_,rfl⟩
          have HLN:=J (show(nn.length+1)*16<=140737488355328 from by
           have h1:=eN HBB.out.1 (.stmt s d lo) (by rw[HT.out.2.2];simp);have h2:=congrArg List.length HS2.out.1;rw[List.length_reverse,ar]at h2;rw[hnn,ar,List.length_map,bq];have:=HBB.out.2.1
           omega)
          have HNN:=J hnn;rw[←hnn]at hl2;have HD:=J (show ∀g:G wr,Below wr.heap.size wr g.W/\NmS Wb X bis bl nn g.W/\g.W.heap[bl]? =ae (.cells #[lv2] 52 (0,0))/\RS g.W Wb.heap.size lv2 nn from fun g=>⟨g.below,by rw[hnn];exact HS2.out.2.2.down g.below,aE hl1 g.below,Kd.dA hl2 g.below⟩);have p1:∀g:G wr,g.W.cell? ⟨bl,0,aj⟩=ae lv2:=fun g=>(aB (aE hl1 g.below) 0).trans rfl;have p2:∀g:G wr,g.W.cell? ⟨cb,0,aj⟩=ae (.string nm1):=fun g=>(aB (aE hc g.below) 0).trans rfl;have HC:=J (aq hc hr);clear hl1 hl2 hc hr hnn;go_wp2_with fail;refine aG ?_;intro gg;refine gG (n:=8) (S:=fun w'=>∃g':G _,w'=g'.W) (ds:=[6,7]) #[O,O,O,O,O,O,O,O] (by kernel_rfl) rfl rfl ⟨mkG (gg.2.drew),rfl⟩ (fun hHeld=> ?_);obtain⟨gd,hgd⟩:=hHeld;rw[hgd];clear hgd;refine eO (i:=0) (N:=ae 43) (v:= ?_) (a':= ?_) #[ac,O,O,O,O,O,O,O] rfl rfl (by kernel_rfl) (fun _ _ _ h=>h) (bi ⟨by rfl,?_⟩) ⟨gd,rfl⟩ ?_ ?_;rotate_left
          ·rintro w' ⟨g',rfl⟩;go_simp;with_reducible rfl
          rotate_left
          ·simp only[ay,aa,af,ag,aQ,aP];rfl
          refine bN (i:=1) (N:=ae 44) (v:= ?_) (a':= ?_) #[ac,ac,O,O,O,O,O,O] rfl rfl (by kernel_rfl) (fun _ _ _ h=>h) (bi ⟨by rfl,?_⟩) ?_ ?_;rotate_left
          ·intro w';go_simp;with_reducible rfl
          rotate_left
          ·simp only[ay,aa,af,ag,aQ,aP];rfl
          refine bN (i:=2) (N:=ae 45) (v:= ?_) (a':= ?_) #[ac,ac,ac,O,O,O,O,O] rfl rfl (by kernel_rfl) (fun _ _ _ h=>h) (bi ⟨by rfl,?_⟩) ?_ ?_;rotate_left
          ·intro w';go_simp;with_reducible rfl
          rotate_left
          ·simp only[ay,aa,af,ag,aQ,aP];rfl
          refine bN (i:=3) (N:=ae 46) (v:= ?_) (a':= ?_) #[ac,ac,ac,ac,O,O,O,O] rfl rfl (by kernel_rfl) (fun _ _ _ h=>h) (bi ⟨by rfl,?_⟩) ?_ ?_;rotate_left
          ·intro w';go_simp;with_reducible rfl
          rotate_left
          ·simp only[ay,aa,af,ag,aQ,aP];rfl
          refine eO (i:=4) (N:=ae 47) (v:= ?_) (a':= ?_) #[ac,ac,ac,ac,ac,O,O,O] rfl rfl (by kernel_rfl) (fun _ _ _ h=>h) (bi ⟨by rfl,?_⟩) ⟨gd,rfl⟩ ?_ ?_;rotate_left
          ·rintro w' ⟨g',rfl⟩;go_simp;with_reducible rfl
          rotate_left
          ·simp only[ay,aa,af,ag,aQ,aP];rfl
          refine jO (i:=5) (N:=ae 48) #[ac,ac,ac,ac,ac,ac,O,O] rfl rfl (by kernel_rfl) (by simp) (fun Kr hKr=> ?_);refine cO (v:=.slice (ae ⟨gd.W.heap.size,0,aj⟩) 1 1) (w1:=gd.W.alloc (.cells #[.string nm1] 9)) (by rfl) (by first | (go_simp;done) | (go_simp;rfl)) ?_;refine hKr.out _ _ ⟨mkG (G.ball gd _),rfl⟩ (fun _=> ?_);clear hKr Kr;refine cG (a':= ?_) ?_ ?_;rotate_left
          ·show ay _ (ae 48) _ = _
           simp only[ay,aa,af,ag,aQ,aP];rfl
          refine last_ (i:=6) (N:=ae 49) #[ac,ac,ac,ac,ac,ac,ac,O] rfl rfl (by kernel_rfl) (by simp) (fun Kr hKr=> ?_);refine Kd.eP Kd.string (w0:=Wb) Wb.heap.size (by rfl) (.tmp 43) (.tmp 48) 52 9 (.string ba) 16 rfl Tryz.underlying52 mA rfl (by decide) (by decide) lv2 nn nm1 [.string nm1] (fun _=>True) (fun _=>False) (by rfl) (by rfl) rfl (fun _ h=>h.elim) (fun _ _=>trivial) (HD.out gd).2.2.2 (HD.out gd).2.1.below (HD.out gd).2.1.below.size HLN.out ?_;intro v1 w3 hR3 hb3 hg3 hat3;have z5:w3.cell? ⟨bl,0,aj⟩=ae lv2:=(aB ((hg3.block bl (aR (HD.out gd).2.2.1) (dK (HD.out gd).2.2.2 (HD.out gd).2.2.1 (by decide))).trans (HD.out gd).2.2.1) 0).trans rfl;have z6:w3.frozen? ⟨bl,0,aj⟩=O:=bS ((hg3.block bl (aR (HD.out gd).2.2.1) (dK (HD.out gd).2.2.2 (HD.out gd).2.2.1 (by decide))).trans (HD.out gd).2.2.1) 0;have hl3:w3.heap[bl]? =ae (.cells #[lv2] 52 (0,0)):=(hg3.block bl (aR (HD.out gd).2.2.1) (dK (HD.out gd).2.2.2 (HD.out gd).2.2.1 (by decide))).trans (HD.out gd).2.2.1;have hcg:=aE HC.out.1 gd.below;have hc3:w3.heap[cb]? =ae (.cells #[.string nm1,.pointer nq] 121 (0,0)):=(hg3.block cb (aR hcg) (dK (HD.out gd).2.2.2 hcg (by decide))).trans hcg;have HN3:=J (show Nk wr w3/\w3.heap[bl]? =ae (.cells #[lv2] 52 (0,0))/\w3.heap[cb]? =ae (.cells #[.string nm1,.pointer nq] 121 (0,0)) from⟨(Nk.of_below gd.below).trans (Nk.grown (B:=Wb.heap.size) (n:=0) (HD.out gd).2.2.2 hg3),hl3,hc3⟩);clear hl3 hcg hc3;have H3:=J ((HD.out gd).2.1.more HBB.out.2.2.2 (HD.out gd).2.2.1 (HD.out gd).2.2.2 hR3 hb3 hg3);obtain⟨Av,cv,hv⟩:=Kd.dG hR3;subst hv;rw[ar,az]at H3;clear hR3 hb3 hg3 hat3;refine hKr.out _ _ ?_;clear hKr Kr;refine cG (a':= ?_) ?_ ?_;rotate_left
          ·show ay _ (ae 49) _ = _
           simp only[ay,aa,af,ag,aQ,aP];rfl
          refine last_ (i:=7) (N:=aj) #[ac,ac,ac,ac,ac,ac,ac,ac] rfl rfl (by kernel_rfl) (by simp) (fun Kr hKr=> ?_);refine skip_ (w1:=w3.setCell ⟨bl,0,aj⟩ (.slice Av (nn.length+1) cv)) (by rfl) rfl (by first | (go_simp;done) | (go_simp;rfl)) ?_;refine hKr.out _ _ ?_;clear hKr Kr;refine kG (by kernel_rfl) ?_;have HN4:=J (show Nk wr (w3.setCell ⟨bl,0,aj⟩ (.slice Av (nn.length+1) cv))/\(w3.setCell ⟨bl,0,aj⟩ (.slice Av (nn.length+1) cv)).heap[cb]? =ae (.cells #[.string nm1,.pointer nq] 121 (0,0)) from⟨HN3.out.1.trans (Nk.set 0 _ HN3.out.2.1 (.inl rfl)),(cy _ _ _ cb (gS HN3.out.2.2 HN3.out.2.1 (by decide))).trans HN3.out.2.2⟩);obtain⟨w4,hw4⟩:∃w4,w4=w3.setCell ⟨bl,0,aj⟩ (.slice Av (nn.length+1) cv):=⟨_,rfl⟩;rw[←hw4]at H3 HN4 ⊢;have z8:w4.cell? ⟨cb,1,aj⟩=ae (.pointer nq):=(aB HN4.out.2 1).trans rfl;clear p1 p2 z5 z6 hw4;go_wp2_with fail;have hsc:=HC.out.2.nk HN4.out.1;refine⟨⟨nq,don++[nm1],rst,rfl,⟨by rw[HS2.out.1];simp,hsc,by have h:=H3.out;rw[HNN.out]at h;rw[←bh];exact h⟩⟩,?_⟩;rw[iD hsc,iD HS2.out.2.1]
          simp
   |expr e lo=>
    obtain⟨rfl,rfl,hst,rfl,hsc⟩:=HT.out.1;obtain⟨lq,rfl⟩:=hsc.ptr;clear hst hsc;go_wp2_with fail;have Hds.length:=J (show ds.length<=ds.length/\ds.length<=c3 from⟨ai _,HP.out.hld⟩);have hknb:ds.length<=1048576:=bg Hds.length.out.1 HBB.out.2.1
    go_loopw [25] (fun iv W'=>∃k:Nat,iv=.int .i64 k/\k<=ds.length/\Aside0 (NmS Wb X bis bl ((ds.take k).map (·.f1)) W')) (fun iv _=>ds.length - (intOf iv).toNat)
    case atStart=>exact⟨0,rfl,br _,⟨HS.out⟩⟩
    case round=>
     as_aux_lemma=>
      obtain⟨k,rfl,hk,HR⟩:=hrel
      by_cases hlt:k<ds.length
      ·have hi1:(k:Int)<(ds.length:Int):=by omega
       obtain⟨ad,A9,c9,e1,q0,q1,q2,q3,l3,g3⟩:=d6 (HP.out.below HR.out.below).hd (k:Int) (bc _) (by have:=Hds.length.out.1;omega);cases e1;rw[ax]at q0 q1 q2 q3;obtain⟨lv2,hl1,hl2⟩:=HR.out.l;have z1:wr.cell? ⟨bl,0,aj⟩=ae lv2:=(aB hl1 0).trans rfl;have HTK:=J (show(ds.take (k+1)).map (·.f1)=(ds.take k).map (·.f1)++[(aJ ds (k:Int)).f1] from by rw[eX (by have:=Hds.length.out.1;omega),cw];rfl)
       have HLN:=J (show(((ds.take k).map (·.f1)).length+1)*16<=140737488355328 from by
        rw[List.length_map,bq];have:=HBB.out.2.1
        omega)
       obtain⟨y,hy⟩:∃y,y=aJ ds (k:Int):=⟨_,rfl⟩;rw[←hy]at q0 q1 q2 q3 HTK;obtain⟨nn,hnn⟩:∃l,l=(ds.take k).map (·.f1):=⟨_,rfl⟩;rw[←hnn]at HTK HLN HR hl2;clear hnn hy;have HLV:=J (aq hl1 hl2);have HLT:=J (aq hlt hk);have hblt:bl<wr.heap.size:=aR hl1;obtain⟨W2,hW2⟩:∃W2,W2=wr.alloc (.cells #[.int .i64 y.f0,.string y.f1,.int .i64 y.f2,.slice A9 y.f3.length c9] 70):=⟨_,rfl⟩
       have hb2:Below wr.heap.size wr W2:=by rw[hW2];exact(ak _ _).alloc (ai _) _
       have H2:=J (show Below wr.heap.size wr W2/\NmS Wb X bis bl nn W2/\W2.heap[bl]? =ae (.cells #[lv2] 52 (0,0))/\RS W2 Wb.heap.size lv2 nn from⟨hb2,HR.out.down hb2,aE HLV.out.1 hb2,Kd.dA HLV.out.2 hb2⟩);have HW2:=J hW2
       have y1':W2.cell? ⟨wr.heap.size,1,aj⟩=ae (.string y.f1):=by rw[hW2];exact(aB (bR wr _) 1).trans rfl
       have y2':W2.cell? ⟨bl,0,aj⟩=ae lv2:=(aB H2.out.2.2.1 0).trans rfl;clear hl1 hl2 l3 g3 hb2 hW2
       go_upto_region 9 with (fail)
       rw[←HW2.out]
       go_wp2_with ((with_reducible refine bX (b:=.append) (xs:= #[.tmp 29,.tmp 32]) rfl ?_);at_builtin;refine Kd.eG Kd.string (w0:=Wb) Wb.heap.size rfl (.tmp 29) (.tmp 32) 52 9 (.string ba) 16 rfl Tryz.underlying52 mA rfl (by decide) (by decide) lv2 nn y.f1 [.string y.f1] (fun _=>True) (fun _=>False) rfl rfl rfl (fun _ h=>h.elim) (fun _ _=>trivial) H2.out.2.2.2 H2.out.2.1.below H2.out.2.1.below.size HLN.out ?_)
       intro v1 w3 hR3 hb3 hg3 hat3;have z5:w3.cell? ⟨bl,0,aj⟩=ae lv2:=(aB ((hg3.block bl (aR H2.out.2.2.1) (dK H2.out.2.2.2 H2.out.2.2.1 (by decide))).trans H2.out.2.2.1) 0).trans rfl;have z6:w3.frozen? ⟨bl,0,aj⟩=O:=bS ((hg3.block bl (aR H2.out.2.2.1) (dK H2.out.2.2.2 H2.out.2.2.1 (by decide))).trans H2.out.2.2.1) 0;have H3:=J (H2.out.2.1.more HBB.out.2.2.2 H2.out.2.2.1 H2.out.2.2.2 hR3 hb3 hg3);obtain⟨Av,cv,hv⟩:=Kd.dG hR3;subst hv;rw[ar,az]at H3;clear hR3 hb3 hg3 hat3 y1' y2' z1 q0 q1 q2 q3;go_wp2_with fail;refine⟨⟨k+1,by go_num,by omega,⟨?_⟩⟩,by simp[intOf];omega⟩;rw[HTK.out];exact H3.out
      ·have hkl:ds.length=k:=by omega
       have hi1:¬(k:Int)<(ds.length:Int):=by omega
       have HRE:=J (show NmS Wb X bis bl ((ds.take ds.length).map (·.f1)) wr from by rw[hkl];exact HR.out);clear hk hkl;have w5:wr.cell? ⟨tb,5,aj⟩=ae (.pointer lq):=(aB (HRE.out.nk.blk _ _ _ HX.out.2.1 (by decide) (by decide) (by decide)) 5).trans rfl;go_wp2_with fail
       go_loopw [9] (fun sv W'=>∃(q:Option Addr) (don rst:List ByteArray),sv=.pointer q/\Aside0 ((fE (.expr e lo)).reverse=don++rst/\aW W' (.pointer q) rst/\NmS Wb X bis bl ((ds.take ds.length).map (·.f1)++don) W')) (fun sv W'=>leftS W' sv)
       case atStart=>exact⟨_,[],_,rfl,⟨rfl,HSC.out.nk HRE.out.nk,by rw[ek];exact HRE.out⟩⟩
       case round=>
        as_aux_lemma=>
         obtain⟨q,don,rst,rfl,HS2⟩:=hrel
         cases rst with
         |nil=>
          have hq:q=aj:=by have h:=HS2.out.2.1;unfold aW at h;injection h
          subst hq;go_wp2_with fail
          first | go_end0 | skip
          have hn:=HS2.out.2.2;have hd:=HS2.out.1;rw[ek]at hd;rw[←hd]at hn;obtain⟨lv3,e1,e2⟩:=hn.l;refine⟨rfl,⟨hn.nk.blk _ _ _ HI.out.pl (by decide) (by decide) (by decide),by rw[kO (by rw[←HT.out.2.1])];exact hn.is,hn.nk.blk _ _ _ HI.out.p (by decide) (by decide) (by decide),lv3,e1,by rw[lX (by rw[←HT.out.2.1])];exact e2⟩,⟨hn.below,bg HX.out.1.size hn.nk.size,fun k cs t hk ht=>hn.nk.blk k cs t (aE hk HX.out.1) (by rcases ht with rfl | rfl <;> decide) (by rcases ht with rfl | rfl <;> decide) (by rcases ht with rfl | rfl <;> decide)⟩,fun k cs hk=>hn.nk.blk k cs _ (aE hk HX.out.1) (by decide) (by decide) (by decide)⟩
         |cons nm1 rst=>
          obtain⟨cb,nx,hq,hc,hr⟩:=HS2.out.2.1;injection hq with hq;subst hq;obtain⟨nq,rfl⟩:=aW.ptr hr;obtain⟨lv2,hl1,hl2⟩:=HS2.out.2.2.l;obtain⟨nn,hnn⟩:∃l,l=(ds.take ds.length).map (·.f1)++don:=⟨_,rfl⟩
          have HLN:=J (show(nn.length+1)*16<=140737488355328 from by
           have h1:=eN HBB.out.1 (.expr e lo) (by rw[HT.out.2.2];simp);have h2:=congrArg List.length HS2.out.1;rw[List.length_reverse,ar]at h2;rw[hnn,ar,List.length_map,bq];have:=HBB.out.2.1
           omega)
          have HNN:=J hnn;rw[←hnn]at hl2;have HD:=J (show ∀g:G wr,Below wr.heap.size wr g.W/\NmS Wb X bis bl nn g.W/\g.W.heap[bl]? =ae (.cells #[lv2] 52 (0,0))/\RS g.W Wb.heap.size lv2 nn from fun g=>⟨g.below,by rw[hnn];exact HS2.out.2.2.down g.below,aE hl1 g.below,Kd.dA hl2 g.below⟩);have p1:∀g:G wr,g.W.cell? ⟨bl,0,aj⟩=ae lv2:=fun g=>(aB (aE hl1 g.below) 0).trans rfl;have p2:∀g:G wr,g.W.cell? ⟨cb,0,aj⟩=ae (.string nm1):=fun g=>(aB (aE hc g.below) 0).trans rfl;have HC:=J (aq hc hr);clear hl1 hl2 hc hr hnn;go_wp2_with fail;refine aG ?_;intro gg;refine gG (n:=8) (S:=fun w'=>∃g':G _,w'=g'.W) (ds:=[6,7]) #[O,O,O,O,O,O,O,O] (by kernel_rfl) rfl rfl ⟨mkG (gg.2.drew),rfl⟩ (fun hHeld=> ?_);obtain⟨gd,hgd⟩:=hHeld;rw[hgd];clear hgd;refine eO (i:=0) (N:=ae 43) (v:= ?_) (a':= ?_) #[ac,O,O,O,O,O,O,O] rfl rfl (by kernel_rfl) (fun _ _ _ h=>h) (bi ⟨by rfl,?_⟩) ⟨gd,rfl⟩ ?_ ?_;rotate_left
          ·rintro w' ⟨g',rfl⟩;go_simp;with_reducible rfl
          rotate_left
          ·simp only[ay,aa,af,ag,aQ,aP];rfl
          refine bN (i:=1) (N:=ae 44) (v:= ?_) (a':= ?_) #[ac,ac,O,O,O,O,O,O] rfl rfl (by kernel_rfl) (fun _ _ _ h=>h) (bi ⟨by rfl,?_⟩) ?_ ?_;rotate_left
          ·intro w';go_simp;with_reducible rfl
          rotate_left
          ·simp only[ay,aa,af,ag,aQ,aP];rfl
          refine bN (i:=2) (N:=ae 45) (v:= ?_) (a':= ?_) #[ac,ac,ac,O,O,O,O,O] rfl rfl (by kernel_rfl) (fun _ _ _ h=>h) (bi ⟨by rfl,?_⟩) ?_ ?_;rotate_left
          ·intro w';go_simp;with_reducible rfl
          rotate_left
          ·simp only[ay,aa,af,ag,aQ,aP];rfl
          refine bN (i:=3) (N:=ae 46) (v:= ?_) (a':= ?_) #[ac,ac,ac,ac,O,O,O,O] rfl rfl (by kernel_rfl) (fun _ _ _ h=>h) (bi ⟨by rfl,?_⟩) ?_ ?_;rotate_left
          ·intro w';go_simp;with_reducible rfl
          rotate_left
          ·simp only[ay,aa,af,ag,aQ,aP];rfl
          refine eO (i:=4) (N:=ae 47) (v:= ?_) (a':= ?_) #[ac,ac,ac,ac,ac,O,O,O] rfl rfl (by kernel_rfl) (fun _ _ _ h=>h) (bi ⟨by rfl,?_⟩) ⟨gd,rfl⟩ ?_ ?_;rotate_left
          ·rintro w' ⟨g',rfl⟩;go_simp;with_reducible rfl
          rotate_left
          ·simp only[ay,aa,af,ag,aQ,aP];rfl
          refine jO (i:=5) (N:=ae 48) #[ac,ac,ac,ac,ac,ac,O,O] rfl rfl (by kernel_rfl) (by simp) (fun Kr hKr=> ?_);refine cO (v:=.slice (ae ⟨gd.W.heap.size,0,aj⟩) 1 1) (w1:=gd.W.alloc (.cells #[.string nm1] 9)) (by rfl) (by first | (go_simp;done) | (go_simp;rfl)) ?_;refine hKr.out _ _ ⟨mkG (G.ball gd _),rfl⟩ (fun _=> ?_);clear hKr Kr;refine cG (a':= ?_) ?_ ?_;rotate_left
          ·show ay _ (ae 48) _ = _
           simp only[ay,aa,af,ag,aQ,aP];rfl
          refine last_ (i:=6) (N:=ae 49) #[ac,ac,ac,ac,ac,ac,ac,O] rfl rfl (by kernel_rfl) (by simp) (fun Kr hKr=> ?_);refine Kd.eP Kd.string (w0:=Wb) Wb.heap.size (by rfl) (.tmp 43) (.tmp 48) 52 9 (.string ba) 16 rfl Tryz.underlying52 mA rfl (by decide) (by decide) lv2 nn nm1 [.string nm1] (fun _=>True) (fun _=>False) (by rfl) (by rfl) rfl (fun _ h=>h.elim) (fun _ _=>trivial) (HD.out gd).2.2.2 (HD.out gd).2.1.below (HD.out gd).2.1.below.size HLN.out ?_;intro v1 w3 hR3 hb3 hg3 hat3;have z5:w3.cell? ⟨bl,0,aj⟩=ae lv2:=(aB ((hg3.block bl (aR (HD.out gd).2.2.1) (dK (HD.out gd).2.2.2 (HD.out gd).2.2.1 (by decide))).trans (HD.out gd).2.2.1) 0).trans rfl;have z6:w3.frozen? ⟨bl,0,aj⟩=O:=bS ((hg3.block bl (aR (HD.out gd).2.2.1) (dK (HD.out gd).2.2.2 (HD.out gd).2.2.1 (by decide))).trans (HD.out gd).2.2.1) 0;have hl3:w3.heap[bl]? =ae (.cells #[lv2] 52 (0,0)):=(hg3.block bl (aR (HD.out gd).2.2.1) (dK (HD.out gd).2.2.2 (HD.out gd).2.2.1 (by decide))).trans (HD.out gd).2.2.1;have hcg:=aE HC.out.1 gd.below;have hc3:w3.heap[cb]? =ae (.cells #[.string nm1,.pointer nq] 121 (0,0)):=(hg3.block cb (aR hcg) (dK (HD.out gd).2.2.2 hcg (by decide))).trans hcg;have HN3:=J (show Nk wr w3/\w3.heap[bl]? =ae (.cells #[lv2] 52 (0,0))/\w3.heap[cb]? =ae (.cells #[.string nm1,.pointer nq] 121 (0,0)) from⟨(Nk.of_below gd.below).trans (Nk.grown (B:=Wb.heap.size) (n:=0) (HD.out gd).2.2.2 hg3),hl3,hc3⟩);clear hl3 hcg hc3;have H3:=J ((HD.out gd).2.1.more HBB.out.2.2.2 (HD.out gd).2.2.1 (HD.out gd).2.2.2 hR3 hb3 hg3);obtain⟨Av,cv,hv⟩:=Kd.dG hR3;subst hv;rw[ar,az]at H3;clear hR3 hb3 hg3 hat3;refine hKr.out _ _ ?_;clear hKr Kr;refine cG (a':= ?_) ?_ ?_;rotate_left
          ·show ay _ (ae 49) _ = _
           simp only[ay,aa,af,ag,aQ,aP];rfl
          refine last_ (i:=7) (N:=aj) #[ac,ac,ac,ac,ac,ac,ac,ac] rfl rfl (by kernel_rfl) (by simp) (fun Kr hKr=> ?_);refine skip_ (w1:=w3.setCell ⟨bl,0,aj⟩ (.slice Av (nn.length+1) cv)) (by rfl) rfl (by first | (go_simp;done) | (go_simp;rfl)) ?_;refine hKr.out _ _ ?_;clear hKr Kr;refine kG (by kernel_rfl) ?_;have HN4:=J (show Nk wr (w3.setCell ⟨bl,0,aj⟩ (.slice Av (nn.length+1) cv))/\(w3.setCell ⟨bl,0,aj⟩ (.slice Av (nn.length+1) cv)).heap[cb]? =ae (.cells #[.string nm1,.pointer nq] 121 (0,0)) from⟨HN3.out.1.trans (Nk.set 0 _ HN3.out.2.1 (.inl rfl)),(cy _ _ _ cb (gS HN3.out.2.2 HN3.out.2.1 (by decide))).trans HN3.out.2.2⟩);obtain⟨w4,hw4⟩:∃w4,w4=w3.setCell ⟨bl,0,aj⟩ (.slice Av (nn.length+1) cv):=⟨_,rfl⟩;rw[←hw4]at H3 HN4 ⊢;have z8:w4.cell? ⟨cb,1,aj⟩=ae (.pointer nq):=(aB HN4.out.2 1).trans rfl;clear p1 p2 z5 z6 hw4;go_wp2_with fail;have hsc:=HC.out.2.nk HN4.out.1;refine⟨⟨nq,don++[nm1],rst,rfl,⟨by rw[HS2.out.1];simp,hsc,by have h:=H3.out;rw[HNN.out]at h;rw[←bh];exact h⟩⟩,?_⟩;rw[iD hsc,iD HS2.out.2.1]
          simp
  ·have HNP:=J (show ¬(pre.length:Int)=place from by rw[←HT.out.2.1];exact hnp)
   have hne:((n:Int) != place)=ac:=by simpa using hnp
   clear hnp;go_wp2_with fail
   first | go_end0 | skip
   refine bodyPost_ret (results_none rfl _ _ _) rfl ?_;have hi:=HI.out;exact⟨rfl,⟨hi.pl,by rw[isK_other HNP.out];exact hi.is,hi.p,by rw[nmsK_other HNP.out];exact hi.l⟩,Gs.of_below HB.out HX.out.1,fun k cs q=>aE q HX.out.1⟩
end
end Go.Proofs.YtfigjpehecibeaaGreat.L
namespace Go.Proofs.YtfigjpehecibeaaGreat.L
open Go.Proofs Go.Shelf Go.Sort Go.RowKit
def shl190_ren:Go.Shelf.Ren:=⟨fun | 190=>84 | 125=>130 | 258=>129 | 128=>211 | 129=>212 | 302=>202 | 303=>203 | 304=>204 | 305=>205 | 306=>206 | 307=>207 | 308=>208 | 309=>209 | 310=>210 | 333=>252 | 329=>253 | 330=>254 | 334=>255 | 335=>256 | 336=>257 | 344=>285 | n=>n,fun | 31=>52 | 9=>9 | 3=>3 | 46=>130 | 0=>0 | 51=>210 | 53=>74 | 4=>4 | 183=>246 | 182=>245 | 131=>75 | 5=>5 | 218=>273 | 222=>168 | 228=>291 | 229=>203 | n=>n,fun | n=>n⟩
theorem shl190:Go.Proofs.Lays.n190 au shl190_ren:={
 mixed:=by kernel_rfl
 f125:=Tryz.func130.trans (congrArg ae (by kernel_rfl))
 f128:=Tryz.func211.trans (congrArg ae (by kernel_rfl))
 f129:=Tryz.func212.trans (congrArg ae (by kernel_rfl))
 f190:=Tryz.func84.trans (congrArg ae (by kernel_rfl))
 f258:=Tryz.func129.trans (congrArg ae (by kernel_rfl))
 f302:=Tryz.func202.trans (congrArg ae (by kernel_rfl))
 f303:=Tryz.func203.trans (congrArg ae (by kernel_rfl))
 f304:=Tryz.func204.trans (congrArg ae (by kernel_rfl))
 f305:=Tryz.func205.trans (congrArg ae (by kernel_rfl))
 f306:=Tryz.func206.trans (congrArg ae (by kernel_rfl))
 f307:=Tryz.func207.trans (congrArg ae (by kernel_rfl))
 f308:=Tryz.func208.trans (congrArg ae (by kernel_rfl))
 f309:=Tryz.func209.trans (congrArg ae (by kernel_rfl))
 f310:=Tryz.func210.trans (congrArg ae (by kernel_rfl))
 f329:=Tryz.func253.trans (congrArg ae (by kernel_rfl))
 f330:=Tryz.func254.trans (congrArg ae (by kernel_rfl))
 f333:=Tryz.func252.trans (congrArg ae (by kernel_rfl))
 f334:=Tryz.func255.trans (congrArg ae (by kernel_rfl))
 f335:=Tryz.func256.trans (congrArg ae (by kernel_rfl))
 f336:=Tryz.func257.trans (congrArg ae (by kernel_rfl))
 f344:=Tryz.func285.trans (congrArg ae (by kernel_rfl))
 t0:=Tryz.underlying0
 a0:=Tryz.isAgg0
 z0:=Tryz.sizeOf0
 v0:=Tryz.zeroValue0
 t3:=gb
 a3:=Tryz.isAgg3
 z3:=Tryz.sizeOf3
 v3:=Tryz.zeroValue3
 t4:=Tryz.underlying4
 a4:=Tryz.isAgg4
 z4:=Tryz.sizeOf4
 v4:=Tryz.zeroValue4
 t5:=Tryz.underlying5
 a5:=Tryz.isAgg5
 z5:=Tryz.sizeOf5
 v5:=Tryz.zeroValue5
 t9:=Tryz.underlying9
 a9:=Tryz.isAgg9
 z9:=Tryz.sizeOf9
 v9:=Tryz.zeroValue9
 t31:=Tryz.underlying52
 a31:=Tryz.isAgg52
 z31:=Tryz.sizeOf52
 v31:=Tryz.zeroValue52
 t46:=Tryz.underlying130
 a46:=Tryz.isAgg130
 z46:=Tryz.sizeOf130
 v46:=Tryz.zeroValue130
 t51:=Tryz.underlying210
 a51:=Tryz.isAgg210
 z51:=Tryz.sizeOf210
 v51:=Tryz.zeroValue210
 t53:=Tryz.underlying74
 a53:=Tryz.isAgg74
 z53:=Tryz.sizeOf74
 v53:=Tryz.zeroValue74
 t131:=Tryz.underlying75
 a131:=Tryz.isAgg75
 z131:=Tryz.sizeOf75
 v131:=Tryz.zeroValue75
 t182:=Tryz.underlying245
 a182:=Tryz.isAgg245
 z182:=Tryz.sizeOf245
 v182:=Tryz.zeroValue245
 t183:=Tryz.underlying246
 a183:=Tryz.isAgg246
 z183:=Tryz.sizeOf246
 v183:=Tryz.zeroValue246
 t218:=Tryz.underlying273
 a218:=Tryz.isAgg273
 z218:=Tryz.sizeOf273
 v218:=Tryz.zeroValue273
 t222:=Tryz.underlying168
 a222:=Tryz.isAgg168
 z222:=Tryz.sizeOf168
 v222:=Tryz.zeroValue168
 t228:=Tryz.underlying291
 a228:=Tryz.isAgg291
 z228:=Tryz.sizeOf291
 v228:=Tryz.zeroValue291
 t229:=Tryz.underlying203
 a229:=Tryz.isAgg203
 z229:=Tryz.sizeOf203
 v229:=Tryz.zeroValue203 }
open Go.Sort Go.RowKit in
theorem gP (blk off cap:Nat)(ss:List (List UInt8))(w:World)(hH:Holds encStr w blk off ss.toArray)(hblk:blk<w.heap.size)(hsz:ss.length<4611686018427387904):
 Calls au 84 #[.slice (ae ⟨blk,off,aj⟩) ss.length cap] w fun e w'=>
  e=.returned (.tuple #[])/\∃n os,w'=grow (putRow encStr (Sort.ahead w n) blk off (ss.mergeSort fun x y=>decide (x<=y)).toArray) os:=Any.slices_Sort_string shl190 blk off cap ss w hH hblk hsz
def shl194_ren:Go.Shelf.Ren:=⟨fun | 194=>85 | n=>n,fun | 31=>52 | 9=>9 | 3=>3 | 4=>4 | 0=>0 | n=>n,fun | n=>n⟩
theorem shl194:Go.Proofs.Lays.n194 au shl194_ren:={
 mixed:=by kernel_rfl
 f194:=Tryz.func85.trans (congrArg ae (by kernel_rfl))
 t0:=Tryz.underlying0
 a0:=Tryz.isAgg0
 z0:=Tryz.sizeOf0
 v0:=Tryz.zeroValue0
 t3:=gb
 a3:=Tryz.isAgg3
 z3:=Tryz.sizeOf3
 v3:=Tryz.zeroValue3
 t4:=Tryz.underlying4
 a4:=Tryz.isAgg4
 z4:=Tryz.sizeOf4
 v4:=Tryz.zeroValue4
 t9:=Tryz.underlying9
 a9:=Tryz.isAgg9
 z9:=Tryz.sizeOf9
 v9:=Tryz.zeroValue9
 t31:=Tryz.underlying52
 a31:=Tryz.isAgg52
 z31:=Tryz.sizeOf52
 v31:=Tryz.zeroValue52 }
open Go.RowKit Go.Lib Go.Sort in
theorem fQ (blk off cap:Nat)(zs:List (List UInt8))(w:World)(hH:Holds encStr w blk off zs.toArray)(hsz:zs.length<=9223372036854775807)(hcap:zs.length<=cap):
 Calls au 85 #[.slice (ae ⟨blk,off,aj⟩) zs.length cap] w fun e w'=>e=.returned (.slice (ae ⟨blk,off,aj⟩) (Lib.compact zs).length cap)/\∃q,w'=putRow encStr (Sort.ahead w q) blk off (Lib.compact zs++List.replicate (zs.length - (Lib.compact zs).length) []).toArray:=Any.slices_Compact_string shl194 blk off cap zs w hH hsz hcap
open Go.RowKit Go.Lib Go.Sort in
theorem eM (a:Option Addr)(cap:Nat)(w:World):
 Calls au 85 #[.slice a 0 cap] w fun e w'=>e=.returned (.slice a 0 cap)/\w'=w:=Any.slices_Compact_string_empty shl194 a cap w
open Go.RowKit Go.Sort in
theorem e7 (p:Option Addr)(cap:Nat)(w:World):
 Calls au 84 #[.slice p 0 cap] w fun e w'=>e=.returned (.tuple #[])/\w'=w:=Any.slices_Sort_string_none shl190 p cap w
end Go.Proofs.YtfigjpehecibeaaGreat.L
namespace Go.Proofs.YtfigjpehecibeaaGreat.L
open Go.RowKit Go.Sort Go.Shelf Go.Proofs.YtfigjpehecibeaaGreatW.PrintWords Go.Proofs.YtfigjpehecibeaaGreatW.PrintLast Go.Proofs.YtfigjpehecibeaaGreatW.PrintMore Go.Proofs.YtfigjpehecibeaaGreat.Gr
def toL (b:ByteArray):List UInt8:=b.data.toList
def ofL (l:List UInt8):ByteArray:=⟨l.toArray⟩
def srtL (l:List ByteArray):List (List UInt8):=(l.map toL).mergeSort fun x y=>decide (x<=y)
theorem ofL_toL (l:List ByteArray):(l.map toL).map ofL=l:=by
 rw[List.map_map];exact List.map_id'' (fun b=>by obtain⟨d⟩:=b;simp[toL,ofL]) l
theorem enc_ofL (l:List (List UInt8)):(l.map ofL).map Value.string=l.map encStr:=by
 rw[List.map_map];rfl
theorem enc_toL (l:List ByteArray):(l.map toL).map encStr=l.map Value.string:=by
 rw[←enc_ofL,ofL_toL]
theorem rs_own {W:World}{B:Nat}{v:Value}{l:List ByteArray}(h:RS W B v l):W.ownsRow B 9 1 v l.length ((l.map toL).map encStr):=by
 rw[enc_toL];exact Kd.own_of_R h
theorem own_rs {W:World}{B:Nat}{v:Value}{l:List (List UInt8)}(h:W.ownsRow B 9 1 v l.length (l.map encStr)):RS W B v (l.map ofL):=by
 refine Kd.R_of_own ?_ (fun _ _=>trivial);rw[List.length_map];have e:=enc_ofL l;rw[←e]at h;exact h
theorem sort_calls (l:List ByteArray)(v:Value)(B:Nat)(W:World)(hR:RS W B v l)(hB:B<=W.heap.size)(hl:l.length<4611686018427387904):
 Calls au 84 #[v] W fun e W'=>e=.returned (.tuple #[])/\RS W' B v ((srtL l).map ofL)/\Below B W W'/\∀(k:Nat) (cs:Array Value) (t:TypeId),W.heap[k]? =ae (.cells cs t (0,0))->t≠9->W'.heap[k]? =ae (.cells cs t (0,0)):=by
 by_cases hv:v=.slice aj 0 0
 ·subst hv
  have h0:l=[]:=by
   obtain⟨A,c,e⟩:=Kd.dG hR;injection e with _ e _;exact List.length_eq_zero_iff.1 e.symm
  subst h0;refine(e7 aj 0 W).mono ?_;rintro _ _ ⟨rfl,rfl⟩;refine⟨rfl,?_,ak _ _,fun _ _ _ q _=>q⟩;rw[show srtL []=[] from by simp[srtL]];exact hR
 ·have hown:=rs_own hR;obtain⟨g,cap,rfl,hbg,hgl,hnc,hcm,hlen,hH⟩:=Lib.holds_of_ownsRow hown hv;have h:=gP g 0 cap (l.map toL) W hH hgl (by rw[List.length_map];exact hl);rw[List.length_map]at h;refine h.mono ?_;rintro _ _ ⟨rfl,n,os,rfl⟩;have hl2:(srtL l).length=(l.map toL).length:=List.length_mergeSort _
  rcases hown.2 with ⟨h0,_⟩ | ⟨g',cap',cur,he,hbase,hb,h1,h2,h3,h4⟩
  ·cases h0
  ·injection he with e1 _ e3;injection e1 with e1;injection e1 with e1;subst e1 e3;have hs:=ownsRow_sorted (n:=n) (os:=os) (ts:=srtL l) hl2 hbase hb (by rw[List.length_map];exact h1) h2 h3;rw[←hl2]at hs
   refine⟨rfl,?_,(ak B W).grown (grownBy_sorted _) hB (fun j hj=>by cases hj;exact hbg),fun k cs t q ht=>((grownBy_sorted (w:=W) (g:=g) (n:=n) (os:=os) _).block k (aR q) (fun e=>by
    injection e with e
    exact gS q hb ht e)).trans q⟩
   have:=own_rs hs;rw[hl2,List.length_map]at this;exact this
def cpt (l:List (List UInt8)):List (List UInt8):=Lib.compact l
theorem compact_calls (l:List (List UInt8))(v:Value)(B:Nat)(W:World)(hR:RS W B v (l.map ofL))(hB:B<=W.heap.size)(hl:l.length<4611686018427387904):
 Calls au 85 #[v] W fun e W'=>∃v',e=.returned v'/\RS W' B v' ((cpt l).map ofL)/\Below B W W':=by
 by_cases hv:v=.slice aj 0 0
 ·subst hv
  have h0:l=[]:=by
   obtain⟨A,c,e⟩:=Kd.dG hR;injection e with _ e _;rw[List.length_map]at e;exact List.length_eq_zero_iff.1 e.symm
  subst h0;refine(eM aj 0 W).mono ?_;rintro _ _ ⟨rfl,rfl⟩;exact⟨_,rfl,hR,ak _ _⟩
 ·have hown:=rs_own hR
  have e1:((l.map ofL).map toL)=l:=by
   rw[List.map_map];exact List.map_id'' (fun b=>by simp[toL,ofL]) l
  rw[e1,List.length_map]at hown;obtain⟨g,cap,rfl,hbg,hgl,hnc,hcm,hlen,hH⟩:=Lib.holds_of_ownsRow hown hv;have h:=fQ g 0 cap l W hH (by omega) hnc;refine h.mono ?_;rintro _ _ ⟨rfl,q,rfl⟩;have hle:=Lib.compact_length_le l;have hc:=Lib.ownsRow_putRow (q:=q) (k:=(Lib.compact l).length) (ys:=Lib.compact l++List.replicate (l.length - (Lib.compact l).length) []) hown (by simp;omega) hle;rw[List.take_left]at hc;exact⟨_,rfl,own_rs hc,Lib.below_putRow (ak _ _) hbg⟩
end Go.Proofs.YtfigjpehecibeaaGreat.L
namespace Go.Proofs.YtfigjpehecibeaaGreat.L
open Go.RowKit Go.Proofs.YtfigjpehecibeaaGreatW.PrintWords Go.Proofs.YtfigjpehecibeaaGreatW.PrintLast Go.Proofs.YtfigjpehecibeaaGreatW.PrintMore Go.Proofs.YtfigjpehecibeaaGreat.Gr
section
set_option maxRecDepth 100000
def gU (nm:ByteArray)(wd ln:Int)(ds:List S70)(bd:List S119)(place:Int):List ByteArray × Int:=
 if cI nm wd ln ds bd=ac then
  if isK place (things ds bd)=ac then((cpt (srtL (nmsK ds place (things ds bd)))).map ofL,0)else([],1)
 else([],1)
theorem nmsK_len {ds:List S70}{bd:List S119}(hdl:ds.length<=1048576)(hb:Ot.bH bd<=1048576)(place:Int):(nmsK ds place (things ds bd)).length<=2097152:=by
 unfold nmsK
 split
 ·rename_i h;unfold isK at h
  simp at h
  have hm:eQ (things ds bd) place.toNat∈things ds bd:=by
   rw[kQ (by omega)];exact dz _
  have h1:=eN hb _ hm;unfold nmsT;rw[ar,List.length_map,bq,List.length_reverse];omega
 ·exact br _
theorem namesP_calls (nm:ByteArray)(wd ln:Int)(ds:List S70)(bd:List S119)(A3:Option Addr)(c3:Nat)(A4:Option Addr)(c4:Nat)(place:Int)(W:World)(hp:ProgAt W ds bd A3 c3 A4 c4)(hg:PGood nm wd ln ds bd):
 Calls au 34 #[.agg #[.string nm,.int .i64 wd,.int .i64 ln,.slice A3 ds.length c3,.slice A4 bd.length c4],.int .i64 place] W fun e W'=>∃v,e=.returned (.tuple #[v,.int .i64 (gU nm wd ln ds bd place).2])/\(∃B,RS W' B v (gU nm wd ln ds bd place).1)/\Below W.heap.size W W':=by
 obtain⟨b,hb⟩:∃b,cI nm wd ln ds bd=b:=⟨_,rfl⟩;obtain⟨pb,hpb⟩:∃b,b=W.heap.size:=⟨_,rfl⟩;obtain⟨X,hX⟩:∃X,X=(W.alloc (.cells #[.string nm,.int .i64 wd,.int .i64 ln,.slice A3 ds.length c3,.slice A4 bd.length c4] 25)).alloc (.cells #[.int .i64 place] 3):=⟨_,rfl⟩;have hX0:Below W.heap.size W (W.alloc (.cells #[.string nm,.int .i64 wd,.int .i64 ln,.slice A3 ds.length c3,.slice A4 bd.length c4] 25)):=(ak _ _).alloc (ai _) _
 have hXB:Below W.heap.size W X:=by rw[hX];exact hX0.alloc (by simp) _
 have hbp:X.heap[pb]? =ae (.cells #[.string nm,.int .i64 wd,.int .i64 ln,.slice A3 ds.length c3,.slice A4 bd.length c4] 25 (0,0)):=by rw[hX,hpb];exact aE (bR W _) ((ak _ _).alloc (ai _) _)
 have hbl:X.heap[pb+1]? =ae (.cells #[.int .i64 place] 3 (0,0)):=by rw[hX,hpb];have h:=bR (W.alloc (.cells #[.string nm,.int .i64 wd,.int .i64 ln,.slice A3 ds.length c3,.slice A4 bd.length c4] 25)) (.cells #[.int .i64 place] 3);simp only[World.size_alloc]at h;exact h
 have HFC:=J (wf_v (hp.below hXB) hb);have HP:=J (aq (hp.below hXB) hg);have HX:=J (aq hXB (aq hbp hbl));have HB:=J hb;have HXE:=J (aq hX hpb);have x0:X.cell? ⟨pb,0,aj⟩=ae (.string nm):=(aB hbp 0).trans rfl;have x1:X.cell? ⟨pb,1,aj⟩=ae (.int .i64 wd):=(aB hbp 1).trans rfl;have x2:X.cell? ⟨pb,2,aj⟩=ae (.int .i64 ln):=(aB hbp 2).trans rfl;have x3:X.cell? ⟨pb,3,aj⟩=ae (.slice A3 ds.length c3):=(aB hbp 3).trans rfl;have x4:X.cell? ⟨pb,4,aj⟩=ae (.slice A4 bd.length c4):=(aB hbp 4).trans rfl;clear hp hg hX hpb hX0 hXB hbp hbl hb;go_enter Tryz.func34,Tryz.ntmps34
 go_upto_region 1 with (fail)
 rw[←HXE.out.1,←HXE.out.2];go_wp2_with fail;refine HFC.out.mono ?_;rintro _ w1 ⟨rfl,hb1⟩;have H1:=J (aq hb1 (HX.out.1.trans (hb1.mono HX.out.1.size)));clear hb1 x0 x1 x2 x3 x4
 cases b with
 |false=>
  have HA:=J (show gU nm wd ln ds bd place=([],1) from by unfold gU;rw[if_neg (by rw[HB.out];decide)]);go_wp2_with fail;go_ret2;rw[HA.out];exact⟨_,rfl,⟨0,Kd.jQ _ _ _ _ _⟩,H1.out.2⟩
 |true=>
  obtain⟨b1,hb1⟩:∃b,b=w1.heap.size:=⟨_,rfl⟩;obtain⟨w3,hw3⟩:∃w,w=(w1.alloc (.cells #[.slice aj 0 0] 52)).alloc (.cells #[.bool O] 4):=⟨_,rfl⟩;have h30:Below w1.heap.size w1 (w1.alloc (.cells #[.slice aj 0 0] 52)):=(ak _ _).alloc (ai _) _
  have h3:Below w1.heap.size w1 w3:=by rw[hw3];exact h30.alloc (by simp) _
  have hl3:w3.heap[b1]? =ae (.cells #[.slice aj 0 0] 52 (0,0)):=by rw[hw3,hb1];exact aE (bR w1 _) ((ak _ _).alloc (ai _) _)
  have hi3:w3.heap[b1+1]? =ae (.cells #[.bool O] 4 (0,0)):=by rw[hw3,hb1];have h:=bR (w1.alloc (.cells #[.slice aj 0 0] 52)) (.cells #[.bool O] 4);simp only[World.size_alloc]at h;exact h
  have hp3:=aE (aE HX.out.2.1 H1.out.1) h3;have hq3:=aE (aE HX.out.2.2 H1.out.1) h3;have HS:=J (seeNames nm wd ln ds bd A3 c3 A4 c4 w1 (HP.out.1.below H1.out.1) HP.out.2.sizes.2 HP.out.2.sizes.1 place (pb+1) (b1+1) pb b1 (by rw[hb1];exact Nat.le_succ _) (by rw[hb1];exact ai _));have HI:=J (show NmI w1.heap.size #[.string nm,.int .i64 wd,.int .i64 ln,.slice A3 ds.length c3,.slice A4 bd.length c4] (pb+1) (b1+1) pb b1 ds place [] w3 from⟨hq3,by rw[isK_nil];exact hi3,hp3,_,hl3,by rw[nmsK_nil];exact Kd.jQ _ _ _ _ _⟩);have H3:=J (aq h3 (aq hw3 hb1));have x0:w3.cell? ⟨pb,0,aj⟩=ae (.string nm):=(aB hp3 0).trans rfl;have x1:w3.cell? ⟨pb,1,aj⟩=ae (.int .i64 wd):=(aB hp3 1).trans rfl;have x2:w3.cell? ⟨pb,2,aj⟩=ae (.int .i64 ln):=(aB hp3 2).trans rfl;have x3:w3.cell? ⟨pb,3,aj⟩=ae (.slice A3 ds.length c3):=(aB hp3 3).trans rfl;have x4:w3.cell? ⟨pb,4,aj⟩=ae (.slice A4 bd.length c4):=(aB hp3 4).trans rfl;clear h30 h3 hl3 hi3 hp3 hq3 hb1 hw3
  go_upto_region 5 with (fail)
  rw[←H3.out.2.1,←H3.out.2.2];go_wp2_with fail;refine(allS nm wd ln ds bd HS.out A3 c3 A4 c4 (HP.out.1.below H1.out.1) (jV HB.out).2.2.2 HP.out.2.sizes.1 HP.out.2.sizes.2 w3 H3.out.1 HI.out).mono ?_;rintro _ w4 ⟨rfl,hI4,hG4⟩;obtain⟨lv,hl1,hl2⟩:=hI4.l;have H4:=J (aq hI4 (aq hG4.below (aq hl1 hl2)));obtain⟨ik,hik⟩:∃b,b=isK place (things ds bd):=⟨_,rfl⟩
  have i0:w4.cell? ⟨b1+1,0,aj⟩=ae (.bool ik):=by rw[hik];exact(aB hI4.is 0).trans rfl
  have l0:w4.cell? ⟨b1,0,aj⟩=ae lv:=(aB hl1 0).trans rfl;have HIK:=J hik;clear hI4 hG4 hl1 hl2 hik x0 x1 x2 x3 x4
  cases ik with
  |false=>
   have HA:=J (show gU nm wd ln ds bd place=([],1) from by unfold gU;rw[if_pos HB.out,if_neg (by rw[←HIK.out];decide)]);go_wp2_with fail;go_ret2;rw[HA.out];exact⟨_,rfl,⟨0,Kd.jQ _ _ _ _ _⟩,H1.out.2.trans (H4.out.2.1.mono H1.out.2.size)⟩
  |true=>
   have HA:=J (show gU nm wd ln ds bd place=((cpt (srtL (nmsK ds place (things ds bd)))).map ofL,0) from by unfold gU;rw[if_pos HB.out,if_pos HIK.out.symm]);go_wp2_with fail;refine(sort_calls (nmsK ds place (things ds bd)) lv w1.heap.size w4 H4.out.2.2.2 H4.out.2.1.size (by have:=nmsK_len HP.out.2.sizes.1 HP.out.2.sizes.2 place;omega)).mono ?_;rintro _ w5 ⟨rfl,hR5,hb5,hk5⟩;have H5:=J (aq hR5 (H4.out.2.1.trans hb5));have l1:w5.cell? ⟨b1,0,aj⟩=ae lv:=(aB (hk5 _ _ _ H4.out.2.2.1 (by decide)) 0).trans rfl;clear hR5 hb5 hk5 i0 l0;go_wp2_with fail;refine(compact_calls (srtL (nmsK ds place (things ds bd))) lv w1.heap.size w5 H5.out.1 H5.out.2.size (by unfold srtL;rw[List.length_mergeSort,List.length_map];have:=nmsK_len HP.out.2.sizes.1 HP.out.2.sizes.2 place;omega)).mono ?_;rintro _ w6 ⟨v',rfl,hR6,hb6⟩;have H6:=J (aq hR6 (H1.out.2.trans ((H5.out.2.trans hb6).mono H1.out.2.size)));clear hR6 hb6 l1;go_wp2_with fail;go_ret2;rw[HA.out];exact⟨_,rfl,⟨_,H6.out.1⟩,H6.out.2⟩
end
section
set_option maxRecDepth 100000
theorem bub_len:∀(k:Nat) (l:List ByteArray),(bub l k).length=l.length
 |0,l=>rfl
 |k+1,l=>by
  unfold bub
  split
  ·rw[bub_len k,List.length_set,List.length_set]
  ·rfl
theorem putS_len (l:List ByteArray)(x:ByteArray):(gK l x).length<=l.length+1:=by
 unfold gK
 split
 ·omega
 ·rw[bub_len,ar,az];omega
theorem f9:∀(xs l:List ByteArray),(xs.foldl gK l).length<=l.length+xs.length
 | [],l=>ai _
 |x::xs,l=>by
  have h1:=f9 xs (gK l x);have h2:=putS_len l x;rw[List.foldl_cons,List.length_cons];omega
def dM (nm:ByteArray)(wd ln:Int)(ds:List S70)(bd:List S119)(place:Int):List ByteArray × Int:=
 if cI nm wd ln ds bd=ac then
  if isK place (things ds bd)=ac then((((ds.take (knownT ds (eQ (things ds bd) place.toNat))).map (·.f1))++fE (eQ (things ds bd) place.toNat)).foldl gK [],0)else([],1)
 else([],1)
theorem List.take_append_getElem_cons_drop_ {α:Type}{l:List α}(i:Nat)(h:i<l.length):l=l.take i++l[i]::l.drop (i+1):=by
 rw[←dw h,List.take_append_drop]
theorem kZ (nm:ByteArray)(wd ln:Int)(ds:List S70)(bd:List S119)(A3:Option Addr)(c3:Nat)(A4:Option Addr)(c4:Nat)(place:Int)(W:World)(hp:ProgAt W ds bd A3 c3 A4 c4)(hg:PGood nm wd ln ds bd):
 Calls au 35 #[.agg #[.string nm,.int .i64 wd,.int .i64 ln,.slice A3 ds.length c3,.slice A4 bd.length c4],.int .i64 place] W fun e W'=>∃v,e=.returned (.tuple #[v,.int .i64 (dM nm wd ln ds bd place).2])/\(∃B,RS W' B v (dM nm wd ln ds bd place).1)/\Below W.heap.size W W':=by
 obtain⟨b,hb⟩:∃b,cI nm wd ln ds bd=b:=⟨_,rfl⟩;obtain⟨pb,hpb⟩:∃b,b=W.heap.size:=⟨_,rfl⟩;obtain⟨X,hX⟩:∃X,X=W.alloc (.cells #[.string nm,.int .i64 wd,.int .i64 ln,.slice A3 ds.length c3,.slice A4 bd.length c4] 25):=⟨_,rfl⟩
 have hXB:Below W.heap.size W X:=by rw[hX];exact(ak _ _).alloc (ai _) _
 have hbp:X.heap[pb]? =ae (.cells #[.string nm,.int .i64 wd,.int .i64 ln,.slice A3 ds.length c3,.slice A4 bd.length c4] 25 (0,0)):=by rw[hX,hpb];exact bR _ _
 have HFC:=J (form_v (hp.below hXB) hb);have HP:=J (aq (hp.below hXB) hg);have HX:=J (aq hXB hbp);have HB:=J hb;have HXE:=J (aq hX hpb);have x0:X.cell? ⟨pb,0,aj⟩=ae (.string nm):=(aB hbp 0).trans rfl;have x1:X.cell? ⟨pb,1,aj⟩=ae (.int .i64 wd):=(aB hbp 1).trans rfl;have x2:X.cell? ⟨pb,2,aj⟩=ae (.int .i64 ln):=(aB hbp 2).trans rfl;have x3:X.cell? ⟨pb,3,aj⟩=ae (.slice A3 ds.length c3):=(aB hbp 3).trans rfl;have x4:X.cell? ⟨pb,4,aj⟩=ae (.slice A4 bd.length c4):=(aB hbp 4).trans rfl;clear hp hg hX hpb hXB hbp hb;go_enter Tryz.func35,Tryz.ntmps35
 go_upto_region 1 with (fail)
 rw[←HXE.out.1,←HXE.out.2];go_wp2_with fail;refine HFC.out.mono ?_;rintro _ w1 ⟨rfl,hb1⟩;have H1:=J (aq hb1 (HX.out.1.trans (hb1.mono HX.out.1.size)));clear hb1 x0 x1 x2 x3 x4
 cases b with
 |false=>
  have HA:=J (show dM nm wd ln ds bd place=([],1) from by unfold dM;rw[if_neg (by rw[HB.out];decide)]);go_wp2_with fail;go_ret2;rw[HA.out];exact⟨_,rfl,⟨0,Kd.jQ _ _ _ _ _⟩,H1.out.2⟩
 |true=>
  have x0:w1.cell? ⟨pb,0,aj⟩=ae (.string nm):=(aB (aE HX.out.2 H1.out.1) 0).trans rfl;have x1:w1.cell? ⟨pb,1,aj⟩=ae (.int .i64 wd):=(aB (aE HX.out.2 H1.out.1) 1).trans rfl;have x2:w1.cell? ⟨pb,2,aj⟩=ae (.int .i64 ln):=(aB (aE HX.out.2 H1.out.1) 2).trans rfl;have x3:w1.cell? ⟨pb,3,aj⟩=ae (.slice A3 ds.length c3):=(aB (aE HX.out.2 H1.out.1) 3).trans rfl;have x4:w1.cell? ⟨pb,4,aj⟩=ae (.slice A4 bd.length c4):=(aB (aE HX.out.2 H1.out.1) 4).trans rfl;go_wp2_with fail;refine(List_calls nm wd ln ds bd A3 c3 A4 c4 w1 HP.out.2.sizes.1 (HP.out.1.below H1.out.1).hb HP.out.1.hlb HP.out.2.sizes.2).mono ?_;rintro _ w2 ⟨v1,rfl,hL,hb2⟩;obtain⟨Al,cl,hv⟩:=Kd.dG hL;subst hv;have hln:((things ds bd).map d9).length=(things ds bd).length:=List.length_map ..;rw[hln]at hL ⊢;obtain⟨m,hm⟩:∃m,m=(things ds bd).length:=⟨_,rfl⟩;rw[←hm]at hL ⊢;have HL:=J (aq hL hm);have H2:=J (aq hb2 (H1.out.2.trans (hb2.mono H1.out.2.size)));have HPB:=J (aE (aE HX.out.2 H1.out.1) hb2);clear hL hb2 hln hm x0 x1 x2 x3 x4
  by_cases hk:isK place (things ds bd)=ac
  ·have HK:=J hk;obtain⟨i,hi⟩:∃i:Nat,place=(i:Int):=⟨place.toNat,by unfold isK at hk;simp at hk;omega⟩;subst hi
   have him:i<m:=by unfold isK at hk;simp at hk;rw[HL.out.2];exact hk
   have hk1:¬(m:Int)<=(i:Int):=by omega
   have hk2:(i:Int)<(m:Int):=by omega
   have hk3:¬m<=i:=by omega
   have hk4:¬(i:Int)<0:=by omega
   have HA:=J (show dM nm wd ln ds bd (i:Int)=((((ds.take (knownT ds (eQ (things ds bd) i))).map (·.f1))++fE (eQ (things ds bd) i)).foldl gK [],0) from by unfold dM;rw[if_pos HB.out,if_pos hk,ax]);clear hk;obtain⟨lb,A5,c5,A9,c9,A12,c12,A13,c13,A19,c19,A21,c21,hal,hrg,l21,g21⟩:=Li.at HL.out.1 (i:=i) (by rw[←HL.out.2];exact him);subst hal;have HLP:=J (show(fE (eQ (things ds bd) i)).length<=1048576 from eN HP.out.2.sizes.2 _ (by rw[kQ (by rw[←HL.out.2];exact him)];exact dz _));have y3:w2.cell? ⟨pb,3,aj⟩=ae (.slice A3 ds.length c3):=(aB HPB.out 3).trans rfl;have z0:w2.cell? ⟨lb,i*22,aj⟩=ae (.int .i64 (d9 (eQ (things ds bd) i)).is):=hrg 0 _ rfl;have z1:w2.cell? ⟨lb,i*22+1,aj⟩=ae (.int .i64 (d9 (eQ (things ds bd) i)).d):=hrg 1 _ rfl;have HRG:=J (aq (hrg 21 _ rfl) (aq l21 g21))
   have HKN:=J (show ∃t,t=eQ (things ds bd) i/\(∀j,t=.decl j->j<ds.length) from⟨_,rfl,fun j hj=>by
    have hm:=HL.out.2;have h:=kQ (l:=things ds bd) (i:=i) (by rw[←hm];exact him)
    have h2:things ds bd=(things ds bd).take i++ .decl j::(things ds bd).drop (i+1):=by
     rw[←hj,h];exact(List.take_append_getElem_cons_drop_ i (by rw[←hm];exact him))
    have:=gW h2 (eD bd 1 [])
    exact this.2⟩)
   clear hrg l21 g21;obtain⟨t,ht,htd⟩:=HKN.out;rw[←ht]at z0 z1 HA HLP HRG;have HT:=J htd;obtain⟨lo,hlo⟩:∃l,l=fE t:=⟨_,rfl⟩
   have htl:(d9 t).loops=lo:=by rw[hlo];cases t <;> rfl
   rw[htl]at HRG;rw[←hlo]at HA HLP;obtain⟨kn,hkn⟩:∃k,k=knownT ds t:=⟨_,rfl⟩;rw[←hkn]at HA;clear ht htd HKN htl hlo
   cases t with
   |decl j=>
    have hj:=HT.out j rfl;replace z0:w2.cell? ⟨lb,i*22,aj⟩=ae (.int .i64 0):=z0
    replace z1:w2.cell? ⟨lb,i*22+1,aj⟩=ae (.int .i64 (kn:Int)):=by rw[hkn];exact z1
    replace hj:kn<ds.length:=by rw[hkn];exact hj
    clear hkn;have hknb:kn<=1048576:=bg (Nat.le_of_lt_succ (Nat.lt_succ_of_le (show kn<=ds.length from by have:=hj;omega))) HP.out.2.sizes.1;have hlpb:lo.length<=1048576:=HLP.out;go_wp2_with fail;clear z0 z1
    go_loopw [8,9] (fun v2 iv W'=>∃(v:Value) (k:Nat),v=v2/\iv=.int .i64 k/\k<=kn/\Aside0 (RS W' w2.heap.size v (((ds.take k).map (·.f1)).foldl gK [])/\Below w2.heap.size w2 W')) (fun _ iv _=>kn - (intOf iv).toNat)
    case atStart=>exact⟨_,0,rfl,rfl,br _,⟨Kd.jQ _ _ _ _ _,ak _ _⟩⟩
    case round=>
     as_aux_lemma=>
      obtain⟨v,k,rfl,rfl,hk,HR⟩:=hrel;have y4:wr.cell? ⟨pb,3,aj⟩=ae (.slice A3 ds.length c3):=aM HR.out.2 y3
      by_cases hlt:k<kn
      ·have hi1:(k:Int)<(kn:Int):=by omega
       have hi2:(k:Int)<(ds.length:Int):=by have:=hj;omega
       obtain⟨ad,A9,c9,e1,q0,q1,q2,q3,l3,g3⟩:=d6 ((((HP.out.1.below H1.out.1).below H2.out.1).below HR.out.2).hd) (k:Int) (bc _) hi2;cases e1;rw[ax]at q0 q1 q2 q3;have HTK:=J (show(ds.take (k+1)).map (·.f1)=(ds.take k).map (·.f1)++[(aJ ds (k:Int)).f1] from by rw[eX (by have:=hj;omega),cw];rfl);obtain⟨y,hy⟩:∃y,y=aJ ds (k:Int):=⟨_,rfl⟩;rw[←hy]at q0 q1 q2 q3 HTK;obtain⟨nn,hnn⟩:∃l,l=((ds.take k).map (·.f1)).foldl gK []:=⟨_,rfl⟩
       have HLN:=J (show nn.length<4194304 from by
        have h:=f9 ((ds.take k).map (·.f1)) [];rw[←hnn]at h
        simp at h
        have:=HP.out.2.sizes.1
        omega)
       have HPC:=J (fK nn y.f1 v w2.heap.size wr (by rw[hnn];exact HR.out.1) HR.out.2.size HLN.out);have HNN:=J hnn;clear hnn hy l3 g3;go_wp2_with fail;refine HPC.out.mono ?_;rintro _ w4 ⟨v4,rfl,hR4,hb4⟩;have H4:=J (aq hR4 (HR.out.2.trans hb4));clear hR4 hb4;go_wp2_with fail;go_roundw
       case measure=>simp[intOf];omega
       case rel=>
        refine⟨v4,k+1,rfl,by go_num,by omega,⟨?_,H4.out.2⟩⟩;rw[HTK.out,List.foldl_append,←HNN.out];exact H4.out.1
      ·have hkl:kn=k:=by omega
       have hi1:¬(k:Int)<(kn:Int):=by omega
       have HR1:=J (show RS wr w2.heap.size v (((ds.take kn).map (·.f1)).foldl gK [])/\Below w2.heap.size w2 wr from by rw[hkl];exact HR.out);have z21:wr.cell? ⟨lb,i*22+21,aj⟩=ae (.slice A21 lo.length c21):=aM HR.out.2 HRG.out.1;clear hkl;go_wp2_with fail
       go_loopw [8,10] (fun v2 iv W'=>∃(v:Value) (k:Nat),v=v2/\iv=.int .i64 k/\k<=lo.length/\Aside0 (RS W' w2.heap.size v (((ds.take kn).map (·.f1)++lo.take k).foldl gK [])/\Below w2.heap.size w2 W')) (fun _ iv _=>lo.length - (intOf iv).toNat)
       case atStart=>exact⟨_,0,rfl,rfl,br _,⟨by rw[List.take_zero,ek];exact HR1.out.1,HR1.out.2⟩⟩
       case round=>
        as_aux_lemma=>
         obtain⟨v,k,rfl,rfl,hk,HS⟩:=hrel;have z22:wr.cell? ⟨lb,i*22+21,aj⟩=ae (.slice A21 lo.length c21):=aM HS.out.2 HRG.out.1
         by_cases hlt:k<lo.length
         ·have hi1:(k:Int)<(lo.length:Int):=by omega
          obtain⟨ad2,e2,q5⟩:=Kd.dY (Kd.aF HRG.out.2.2 HS.out.2) (k:Int) (by omega) (by omega);cases e2;rw[rdN,ax]at q5;obtain⟨s,hs⟩:∃s,s=lo.getD k ba:=⟨_,rfl⟩;rw[←hs]at q5
          have HTK:=J (show lo.take (k+1)=lo.take k++[s] from by
           rw[List.take_add_one,av hlt,hs,aw,av hlt]
           rfl)
          obtain⟨nn,hnn⟩:∃l,l=((ds.take kn).map (·.f1)++lo.take k).foldl gK []:=⟨_,rfl⟩
          have HLN:=J (show nn.length<4194304 from by
           have h:=f9 ((ds.take kn).map (·.f1)++lo.take k) [];rw[←hnn,ar,List.length_map,bq,bq]at h;have h2:([]:List ByteArray).length=0:=rfl;have h3:=HP.out.2.sizes.1;have h4:=HLP.out
           omega)
          have HPC:=J (fK nn s v w2.heap.size wr (by rw[hnn];exact HS.out.1) HS.out.2.size HLN.out);have HNN:=J hnn;clear hnn hs;go_wp2_with fail;refine HPC.out.mono ?_;rintro _ w4 ⟨v4,rfl,hR4,hb4⟩;have H4:=J (aq hR4 (HS.out.2.trans hb4));clear hR4 hb4;go_wp2_with fail;go_roundw
          case measure=>simp[intOf];omega
          case rel=>
           refine⟨v4,k+1,rfl,by go_num,by omega,⟨?_,H4.out.2⟩⟩;rw[HTK.out,←bh,List.foldl_append (l':=[s]),←HNN.out];exact H4.out.1
         ·have hkl:lo.length=k:=by omega
          have hi1:¬(k:Int)<(lo.length:Int):=by omega
          have HF:=J (show RS wr w2.heap.size v (((ds.take kn).map (·.f1)++lo).foldl gK [])/\Below w2.heap.size w2 wr from by
           have h:=HS.out;rw[←hkl,show lo.take lo.length=lo from df]at h
           exact h)
          clear hkl;go_wp2_with fail;go_ret2;rw[HA.out];exact⟨_,rfl,⟨_,HF.out.1⟩,H2.out.2.trans (HF.out.2.mono H2.out.2.size)⟩
   |stmt s d lo2=>
    replace z0:w2.cell? ⟨lb,i*22,aj⟩=ae (.int .i64 1):=z0;replace hkn:kn=ds.length:=hkn;subst hkn;have hknb:ds.length<=1048576:=bg (Nat.le_of_lt_succ (Nat.lt_succ_of_le (show ds.length<=ds.length from by have:=ai ds.length;omega))) HP.out.2.sizes.1;have hlpb:lo.length<=1048576:=HLP.out;go_wp2_with fail;clear z0 z1
    go_loopw [8,9] (fun v2 iv W'=>∃(v:Value) (k:Nat),v=v2/\iv=.int .i64 k/\k<=ds.length/\Aside0 (RS W' w2.heap.size v (((ds.take k).map (·.f1)).foldl gK [])/\Below w2.heap.size w2 W')) (fun _ iv _=>ds.length - (intOf iv).toNat)
    case atStart=>exact⟨_,0,rfl,rfl,br _,⟨Kd.jQ _ _ _ _ _,ak _ _⟩⟩
    case round=>
     as_aux_lemma=>
      obtain⟨v,k,rfl,rfl,hk,HR⟩:=hrel;have y4:wr.cell? ⟨pb,3,aj⟩=ae (.slice A3 ds.length c3):=aM HR.out.2 y3
      by_cases hlt:k<ds.length
      ·have hi1:(k:Int)<(ds.length:Int):=by omega
       have hi2:(k:Int)<(ds.length:Int):=by have:=ai ds.length;omega
       obtain⟨ad,A9,c9,e1,q0,q1,q2,q3,l3,g3⟩:=d6 ((((HP.out.1.below H1.out.1).below H2.out.1).below HR.out.2).hd) (k:Int) (bc _) hi2;cases e1;rw[ax]at q0 q1 q2 q3;have HTK:=J (show(ds.take (k+1)).map (·.f1)=(ds.take k).map (·.f1)++[(aJ ds (k:Int)).f1] from by rw[eX (by have:=ai ds.length;omega),cw];rfl);obtain⟨y,hy⟩:∃y,y=aJ ds (k:Int):=⟨_,rfl⟩;rw[←hy]at q0 q1 q2 q3 HTK;obtain⟨nn,hnn⟩:∃l,l=((ds.take k).map (·.f1)).foldl gK []:=⟨_,rfl⟩
       have HLN:=J (show nn.length<4194304 from by
        have h:=f9 ((ds.take k).map (·.f1)) [];rw[←hnn]at h
        simp at h
        have:=HP.out.2.sizes.1
        omega)
       have HPC:=J (fK nn y.f1 v w2.heap.size wr (by rw[hnn];exact HR.out.1) HR.out.2.size HLN.out);have HNN:=J hnn;clear hnn hy l3 g3;go_wp2_with fail;refine HPC.out.mono ?_;rintro _ w4 ⟨v4,rfl,hR4,hb4⟩;have H4:=J (aq hR4 (HR.out.2.trans hb4));clear hR4 hb4;go_wp2_with fail;go_roundw
       case measure=>simp[intOf];omega
       case rel=>
        refine⟨v4,k+1,rfl,by go_num,by omega,⟨?_,H4.out.2⟩⟩;rw[HTK.out,List.foldl_append,←HNN.out];exact H4.out.1
      ·have hkl:ds.length=k:=by omega
       have hi1:¬(k:Int)<(ds.length:Int):=by omega
       have HR1:=J (show RS wr w2.heap.size v (((ds.take ds.length).map (·.f1)).foldl gK [])/\Below w2.heap.size w2 wr from by rw[hkl];exact HR.out);have z21:wr.cell? ⟨lb,i*22+21,aj⟩=ae (.slice A21 lo.length c21):=aM HR.out.2 HRG.out.1;clear hkl;go_wp2_with fail
       go_loopw [8,10] (fun v2 iv W'=>∃(v:Value) (k:Nat),v=v2/\iv=.int .i64 k/\k<=lo.length/\Aside0 (RS W' w2.heap.size v (((ds.take ds.length).map (·.f1)++lo.take k).foldl gK [])/\Below w2.heap.size w2 W')) (fun _ iv _=>lo.length - (intOf iv).toNat)
       case atStart=>exact⟨_,0,rfl,rfl,br _,⟨by rw[List.take_zero,ek];exact HR1.out.1,HR1.out.2⟩⟩
       case round=>
        as_aux_lemma=>
         obtain⟨v,k,rfl,rfl,hk,HS⟩:=hrel;have z22:wr.cell? ⟨lb,i*22+21,aj⟩=ae (.slice A21 lo.length c21):=aM HS.out.2 HRG.out.1
         by_cases hlt:k<lo.length
         ·have hi1:(k:Int)<(lo.length:Int):=by omega
          obtain⟨ad2,e2,q5⟩:=Kd.dY (Kd.aF HRG.out.2.2 HS.out.2) (k:Int) (by omega) (by omega);cases e2;rw[rdN,ax]at q5;obtain⟨s,hs⟩:∃s,s=lo.getD k ba:=⟨_,rfl⟩;rw[←hs]at q5
          have HTK:=J (show lo.take (k+1)=lo.take k++[s] from by
           rw[List.take_add_one,av hlt,hs,aw,av hlt]
           rfl)
          obtain⟨nn,hnn⟩:∃l,l=((ds.take ds.length).map (·.f1)++lo.take k).foldl gK []:=⟨_,rfl⟩
          have HLN:=J (show nn.length<4194304 from by
           have h:=f9 ((ds.take ds.length).map (·.f1)++lo.take k) [];rw[←hnn,ar,List.length_map,bq,bq]at h;have h2:([]:List ByteArray).length=0:=rfl;have h3:=HP.out.2.sizes.1;have h4:=HLP.out
           omega)
          have HPC:=J (fK nn s v w2.heap.size wr (by rw[hnn];exact HS.out.1) HS.out.2.size HLN.out);have HNN:=J hnn;clear hnn hs;go_wp2_with fail;refine HPC.out.mono ?_;rintro _ w4 ⟨v4,rfl,hR4,hb4⟩;have H4:=J (aq hR4 (HS.out.2.trans hb4));clear hR4 hb4;go_wp2_with fail;go_roundw
          case measure=>simp[intOf];omega
          case rel=>
           refine⟨v4,k+1,rfl,by go_num,by omega,⟨?_,H4.out.2⟩⟩;rw[HTK.out,←bh,List.foldl_append (l':=[s]),←HNN.out];exact H4.out.1
         ·have hkl:lo.length=k:=by omega
          have hi1:¬(k:Int)<(lo.length:Int):=by omega
          have HF:=J (show RS wr w2.heap.size v (((ds.take ds.length).map (·.f1)++lo).foldl gK [])/\Below w2.heap.size w2 wr from by
           have h:=HS.out;rw[←hkl,show lo.take lo.length=lo from df]at h
           exact h)
          clear hkl;go_wp2_with fail;go_ret2;rw[HA.out];exact⟨_,rfl,⟨_,HF.out.1⟩,H2.out.2.trans (HF.out.2.mono H2.out.2.size)⟩
   |expr e lo2=>
    replace z0:w2.cell? ⟨lb,i*22,aj⟩=ae (.int .i64 2):=z0;replace hkn:kn=ds.length:=hkn;subst hkn;have hknb:ds.length<=1048576:=bg (Nat.le_of_lt_succ (Nat.lt_succ_of_le (show ds.length<=ds.length from by have:=ai ds.length;omega))) HP.out.2.sizes.1;have hlpb:lo.length<=1048576:=HLP.out;go_wp2_with fail;clear z0 z1
    go_loopw [8,9] (fun v2 iv W'=>∃(v:Value) (k:Nat),v=v2/\iv=.int .i64 k/\k<=ds.length/\Aside0 (RS W' w2.heap.size v (((ds.take k).map (·.f1)).foldl gK [])/\Below w2.heap.size w2 W')) (fun _ iv _=>ds.length - (intOf iv).toNat)
    case atStart=>exact⟨_,0,rfl,rfl,br _,⟨Kd.jQ _ _ _ _ _,ak _ _⟩⟩
    case round=>
     as_aux_lemma=>
      obtain⟨v,k,rfl,rfl,hk,HR⟩:=hrel;have y4:wr.cell? ⟨pb,3,aj⟩=ae (.slice A3 ds.length c3):=aM HR.out.2 y3
      by_cases hlt:k<ds.length
      ·have hi1:(k:Int)<(ds.length:Int):=by omega
       have hi2:(k:Int)<(ds.length:Int):=by have:=ai ds.length;omega
       obtain⟨ad,A9,c9,e1,q0,q1,q2,q3,l3,g3⟩:=d6 ((((HP.out.1.below H1.out.1).below H2.out.1).below HR.out.2).hd) (k:Int) (bc _) hi2;cases e1;rw[ax]at q0 q1 q2 q3;have HTK:=J (show(ds.take (k+1)).map (·.f1)=(ds.take k).map (·.f1)++[(aJ ds (k:Int)).f1] from by rw[eX (by have:=ai ds.length;omega),cw];rfl);obtain⟨y,hy⟩:∃y,y=aJ ds (k:Int):=⟨_,rfl⟩;rw[←hy]at q0 q1 q2 q3 HTK;obtain⟨nn,hnn⟩:∃l,l=((ds.take k).map (·.f1)).foldl gK []:=⟨_,rfl⟩
       have HLN:=J (show nn.length<4194304 from by
        have h:=f9 ((ds.take k).map (·.f1)) [];rw[←hnn]at h
        simp at h
        have:=HP.out.2.sizes.1
        omega)
       have HPC:=J (fK nn y.f1 v w2.heap.size wr (by rw[hnn];exact HR.out.1) HR.out.2.size HLN.out);have HNN:=J hnn;clear hnn hy l3 g3;go_wp2_with fail;refine HPC.out.mono ?_;rintro _ w4 ⟨v4,rfl,hR4,hb4⟩;have H4:=J (aq hR4 (HR.out.2.trans hb4));clear hR4 hb4;go_wp2_with fail;go_roundw
       case measure=>simp[intOf];omega
       case rel=>
        refine⟨v4,k+1,rfl,by go_num,by omega,⟨?_,H4.out.2⟩⟩;rw[HTK.out,List.foldl_append,←HNN.out];exact H4.out.1
      ·have hkl:ds.length=k:=by omega
       have hi1:¬(k:Int)<(ds.length:Int):=by omega
       have HR1:=J (show RS wr w2.heap.size v (((ds.take ds.length).map (·.f1)).foldl gK [])/\Below w2.heap.size w2 wr from by rw[hkl];exact HR.out);have z21:wr.cell? ⟨lb,i*22+21,aj⟩=ae (.slice A21 lo.length c21):=aM HR.out.2 HRG.out.1;clear hkl;go_wp2_with fail
       go_loopw [8,10] (fun v2 iv W'=>∃(v:Value) (k:Nat),v=v2/\iv=.int .i64 k/\k<=lo.length/\Aside0 (RS W' w2.heap.size v (((ds.take ds.length).map (·.f1)++lo.take k).foldl gK [])/\Below w2.heap.size w2 W')) (fun _ iv _=>lo.length - (intOf iv).toNat)
       case atStart=>exact⟨_,0,rfl,rfl,br _,⟨by rw[List.take_zero,ek];exact HR1.out.1,HR1.out.2⟩⟩
       case round=>
        as_aux_lemma=>
         obtain⟨v,k,rfl,rfl,hk,HS⟩:=hrel;have z22:wr.cell? ⟨lb,i*22+21,aj⟩=ae (.slice A21 lo.length c21):=aM HS.out.2 HRG.out.1
         by_cases hlt:k<lo.length
         ·have hi1:(k:Int)<(lo.length:Int):=by omega
          obtain⟨ad2,e2,q5⟩:=Kd.dY (Kd.aF HRG.out.2.2 HS.out.2) (k:Int) (by omega) (by omega);cases e2;rw[rdN,ax]at q5;obtain⟨s,hs⟩:∃s,s=lo.getD k ba:=⟨_,rfl⟩;rw[←hs]at q5
          have HTK:=J (show lo.take (k+1)=lo.take k++[s] from by
           rw[List.take_add_one,av hlt,hs,aw,av hlt]
           rfl)
          obtain⟨nn,hnn⟩:∃l,l=((ds.take ds.length).map (·.f1)++lo.take k).foldl gK []:=⟨_,rfl⟩
          have HLN:=J (show nn.length<4194304 from by
           have h:=f9 ((ds.take ds.length).map (·.f1)++lo.take k) [];rw[←hnn,ar,List.length_map,bq,bq]at h;have h2:([]:List ByteArray).length=0:=rfl;have h3:=HP.out.2.sizes.1;have h4:=HLP.out
           omega)
          have HPC:=J (fK nn s v w2.heap.size wr (by rw[hnn];exact HS.out.1) HS.out.2.size HLN.out);have HNN:=J hnn;clear hnn hs;go_wp2_with fail;refine HPC.out.mono ?_;rintro _ w4 ⟨v4,rfl,hR4,hb4⟩;have H4:=J (aq hR4 (HS.out.2.trans hb4));clear hR4 hb4;go_wp2_with fail;go_roundw
          case measure=>simp[intOf];omega
          case rel=>
           refine⟨v4,k+1,rfl,by go_num,by omega,⟨?_,H4.out.2⟩⟩;rw[HTK.out,←bh,List.foldl_append (l':=[s]),←HNN.out];exact H4.out.1
         ·have hkl:lo.length=k:=by omega
          have hi1:¬(k:Int)<(lo.length:Int):=by omega
          have HF:=J (show RS wr w2.heap.size v (((ds.take ds.length).map (·.f1)++lo).foldl gK [])/\Below w2.heap.size w2 wr from by
           have h:=HS.out;rw[←hkl,show lo.take lo.length=lo from df]at h
           exact h)
          clear hkl;go_wp2_with fail;go_ret2;rw[HA.out];exact⟨_,rfl,⟨_,HF.out.1⟩,H2.out.2.trans (HF.out.2.mono H2.out.2.size)⟩
  ·have HA:=J (show dM nm wd ln ds bd place=([],1) from by unfold dM;rw[if_pos HB.out,if_neg hk])
   have hk':place<0\/(0<=place/\(m:Int)<=place):=by
    unfold isK at hk
    simp at hk
    rw[HL.out.2];omega
   clear hk
   rcases hk' with h1 | ⟨h1,h2⟩
   ·go_wp2_with fail;go_ret2;rw[HA.out];exact⟨_,rfl,⟨0,Kd.jQ _ _ _ _ _⟩,H2.out.2⟩
   ·have h3:¬place<0:=by omega
    go_wp2_with fail;go_ret2;rw[HA.out];exact⟨_,rfl,⟨0,Kd.jQ _ _ _ _ _⟩,H2.out.2⟩
end
end Go.Proofs.YtfigjpehecibeaaGreat.L
namespace Go.Proofs.YtfigjpehecibeaaGreat.L
open Go.Sort
abbrev Ss (l:List (List UInt8)):Prop:=l.Pairwise fun a b=>a<b
theorem Ss.ext:∀{l m:List (List UInt8)},Ss l->Ss m->(∀x,x∈l ↔ x∈m)->l=m
 | [],[],_,_,_=>rfl
 | [],b::m,_,_,h=>by have:=(h b).2 (fz ..);cases this
 |a::l,[],_,_,h=>by have:=(h a).1 (fz ..);cases this
 |a::l,b::m,hl,hm,h=>by
  have hl':=List.pairwise_cons.1 hl;have hm':=List.pairwise_cons.1 hm
  have e:a=b:=by
   rcases cg.1 ((h a).1 (fz ..))with e | h1
   ·exact e
   ·rcases cg.1 ((h b).2 (fz ..))with e | h2
    ·exact e.symm
    ·exact absurd (List.lt_trans (hm'.1 a h1) (hl'.1 b h2)) (List.lt_irrefl b)
  subst e
  congr 1
  refine Ss.ext hl'.2 hm'.2 fun x=>⟨fun hx=> ?_,fun hx=> ?_⟩
  ·rcases cg.1 ((h x).1 (List.mem_cons_of_mem _ hx))with e | h1
   ·subst e;exact absurd (hl'.1 x hx) (List.lt_irrefl x)
   ·exact h1
  ·rcases cg.1 ((h x).2 (List.mem_cons_of_mem _ hx))with e | h1
   ·subst e;exact absurd (hm'.1 x hx) (List.lt_irrefl x)
   ·exact h1
theorem lt_of_not {a b:List UInt8}(h:¬a<b)(hne:a≠b):b<a:=by
 have hle:b<=a:=List.not_lt.1 h
 rcases Decidable.em (b<a)with h1 | h1
 ·exact h1
 ·exact absurd (List.le_antisymm (List.not_lt.1 h1) hle) hne
theorem getD_mid (l:List ByteArray)(x:ByteArray)(r:List ByteArray):(l++x::r).getD l.length ba=x:=by
 rw[aw,List.getElem?_append_right (ai _),Nat.sub_self];rfl
theorem bub_of:∀(n:Nat) (l:List ByteArray) (x:ByteArray) (r:List ByteArray),l.length=n->Ss ((l++r).map toL)->(∀y∈r,toL x<toL y)->(∀y∈l,toL y≠toL x)->
 Ss ((bub (l++x::r) n).map toL)/\∀z,z∈bub (l++x::r) n ↔ z=x\/z∈l\/z∈r
 |0,l,x,r,hn,hs,hr,hx=>by
  have h0:l=[]:=List.length_eq_zero_iff.1 hn;subst h0;refine⟨?_,fun z=>by simp[bub]⟩
  show Ss (toL x::r.map toL)
  refine List.pairwise_cons.2 ⟨fun y hy=> ?_,hs⟩;obtain⟨z,hz,rfl⟩:=List.mem_map.1 hy;exact hr z hz
 |n+1,l,x,r,hn,hs,hr,hx=>by
  obtain⟨l',y,rfl⟩:∃l' y,l=l'++[y]:=⟨l.dropLast,l.getLast (by intro h;rw[h]at hn;cases hn),(List.dropLast_concat_getLast _).symm⟩
  have hn':l'.length=n:=by simpa using hn
  have e1:(l'++[y]++x::r).getD (n+1) ba=x:=by
   have:=getD_mid (l'++[y]) x r
   rwa [hn]at this
  have e2:(l'++[y]++x::r).getD n ba=y:=by
   have:=getD_mid l' y (x::r);rw[hn']at this;rw[bh];exact this
  unfold bub;rw[e1,e2,bytesLess_eq,Lib.toList_data,Lib.toList_data]
  change Ss (List.map toL (if decide (toL x<toL y)=ac then bub (((l'++[y]++x::r).set (n+1) y).set n x) n else l'++[y]++x::r))/\∀z,z∈(if decide (toL x<toL y)=ac then bub (((l'++[y]++x::r).set (n+1) y).set n x) n else l'++[y]++x::r) ↔ z=x\/z∈l'++[y]\/z∈r
  by_cases hxy:toL x<toL y
  ·rw[if_pos (decide_eq_true hxy)]
   have e3:((l'++[y]++x::r).set (n+1) y).set n x=l'++x::(y::r):=by
    rw[bh,List.set_append_right _ _ (by omega),List.set_append_right _ _ (by omega),hn']
    have a1:n+1 - n=1:=by omega
    rw[a1,Nat.sub_self];rfl
   rw[e3]
   have hs':Ss ((l'++y::r).map toL):=by
    rw[bh]at hs;exact hs
   obtain⟨h1,h2⟩:=bub_of n l' x (y::r) hn' hs' (fun z hz=>by
    rcases cg.1 hz with rfl | hz
    ·exact hxy
    ·exact hr z hz) (fun z hz=>hx z (List.mem_append_left _ hz))
   refine⟨h1,fun z=>(h2 z).trans ?_⟩;simp only[cg,bo,List.not_mem_nil,or_false];constructor
   ·rintro(h | h | h | h)
    ·exact .inl h
    ·exact .inr (.inl (.inl h))
    ·exact .inr (.inl (.inr h))
    ·exact .inr (.inr h)
   ·rintro(h | (h | h) | h)
    ·exact .inl h
    ·exact .inr (.inl h)
    ·exact .inr (.inr (.inl h))
    ·exact .inr (.inr (.inr h))
  ·rw[if_neg (by rw[decide_eq_true_iff];exact hxy)];have hyx:toL y<toL x:=lt_of_not hxy (fun e=>hx y (List.mem_append_right _ (fz ..)) e.symm);refine⟨?_,fun z=> ?_⟩
   ·rw[cw,cw]at hs;rw[cw,cw];have hs1:=List.pairwise_append.1 hs;refine List.pairwise_append.2 ⟨hs1.1,?_,?_⟩
    ·rw[cq];refine List.pairwise_cons.2 ⟨fun z hz=> ?_,hs1.2.1⟩;obtain⟨u,hu,rfl⟩:=List.mem_map.1 hz;exact hr u hu
    ·intro a ha c hc;rw[cq]at hc
     rcases cg.1 hc with rfl | hc
     ·rcases bo.1 ha with ha | ha
      ·have h3:=(List.pairwise_append.1 hs1.1).2.2 a ha (toL y) (by simp);exact List.lt_trans h3 hyx
      ·rw[cq,dc,List.mem_singleton]at ha;rw[ha];exact hyx
     ·exact hs1.2.2 a ha c hc
   ·simp only[cg,bo,List.not_mem_nil,or_false];constructor
    ·rintro((h | h) | h | h)
     ·exact .inr (.inl (.inl h))
     ·exact .inr (.inl (.inr h))
     ·exact .inl h
     ·exact .inr (.inr h)
    ·rintro(h | (h | h) | h)
     ·exact .inr (.inl h)
     ·exact .inl (.inl h)
     ·exact .inl (.inr h)
     ·exact .inr (.inr h)
theorem toL_inj {a b:ByteArray}(h:toL a=toL b):a=b:=by
 obtain⟨a⟩:=a;obtain⟨b⟩:=b;unfold toL at h
 simpa using h
theorem hasS_mem {l:List ByteArray}{x:ByteArray}:kM l x=ac ↔ x∈l:=by
 unfold kM;rw[List.any_eq_true];constructor
 ·rintro⟨y,hy,he⟩;unfold eqS at he;rw[decide_eq_true_eq,Lib.toList_data,Lib.toList_data]at he;exact(toL_inj he) ▸ hy
 ·intro h;exact⟨x,h,by unfold eqS;simp⟩
theorem putS_of {l:List ByteArray}{x:ByteArray}(h:Ss (l.map toL)):Ss ((gK l x).map toL)/\∀z,z∈gK l x ↔ z=x\/z∈l:=by
 unfold gK
 by_cases hx:kM l x=ac
 ·rw[if_pos hx];exact⟨h,fun z=>⟨.inr,fun hz=>hz.elim (fun e=>e ▸ hasS_mem.1 hx) id⟩⟩
 ·rw[if_neg hx];obtain⟨h1,h2⟩:=bub_of l.length l x [] rfl (by rw[ek];exact h) (fun y hy=>by cases hy) (fun y hy e=>hx (hasS_mem.2 (toL_inj e ▸ hy)));exact⟨h1,fun z=>(h2 z).trans (by simp)⟩
theorem putF_of:∀(xs l:List ByteArray),Ss (l.map toL)->Ss ((xs.foldl gK l).map toL)/\∀z,z∈xs.foldl gK l ↔ z∈l\/z∈xs
 | [],l,h=>⟨h,fun z=>by simp⟩
 |x::xs,l,h=>by
  obtain⟨h1,h2⟩:=putS_of (x:=x) h;obtain⟨h3,h4⟩:=putF_of xs (gK l x) h1;refine⟨h3,fun z=>(h4 z).trans ?_⟩;rw[h2 z,cg];constructor
  ·rintro((h | h) | h)
   ·exact .inr (.inl h)
   ·exact .inl h
   ·exact .inr (.inr h)
  ·rintro(h | h | h)
   ·exact .inl (.inr h)
   ·exact .inl (.inl h)
   ·exact .inr h
theorem cpt_of {d:List (List UInt8)}(h:d.Pairwise fun a b=>a<=b):∀m,m<=d.length->Ss (Lib.compactUpTo d.toArray m)/\(∀z,z∈Lib.compactUpTo d.toArray m ↔ z∈d.take m)
 |0,_=>⟨List.Pairwise.nil,fun z=>by simp[Lib.compactUpTo]⟩
 |m+1,hm=>by
  obtain⟨h1,h2⟩:=cpt_of h m (by omega)
  have hd:d.toArray[m]! =d[m]:=by
   rw[getElem!_pos d.toArray m (by simp;omega)]
   simp
  have htk:d.take (m+1)=d.take m++[d[m]]:=by rw[List.take_add_one,av (by omega)];rfl
  rw[Lib.compactUpTo_succ,hd,htk]
  have hle:∀z∈d.take m,z<=d[m]:=fun z hz=>by
   obtain⟨i,hi,rfl⟩:=ef hz;rw[List.getElem_take]
   have him:i<m:=by rw[bq]at hi;omega
   exact List.pairwise_iff_getElem.1 h i m (by omega) (by omega) him
  by_cases hk:Lib.keeps d.toArray m=ac
  ·rw[if_pos hk];refine⟨List.pairwise_append.2 ⟨h1,List.pairwise_singleton _ _,fun a ha c hc=> ?_⟩,fun z=>by rw[bo,bo,h2 z]⟩;rw[List.mem_singleton.1 hc];have ha':=(h2 a).1 ha;have hal:=hle a ha'
   have hne:a≠d[m]:=fun e=>by
    obtain⟨i,hi,hia⟩:=ef ha';rw[bq]at hi
    have hm0:0<m:=by omega
    have hp:d.toArray[m - 1]! =d[m - 1]:=by
     rw[getElem!_pos d.toArray (m - 1) (by simp;omega)]
     simp
    have hkk:d[m]≠d[m - 1]:=by
     unfold Lib.keeps at hk;rw[decide_eq_true_eq]at hk
     rcases hk with hk | hk
     ·omega
     ·rw[hd,hp]at hk;exact hk
    rw[List.getElem_take]at hia;have h3:d[m - 1]<=d[m]:=List.pairwise_iff_getElem.1 h (m - 1) m (by omega) (by omega) (by omega)
    have h4:d[i]<=d[m - 1]:=by
     rcases gh i (m - 1)with h5 | h5
     ·exact List.pairwise_iff_getElem.1 h i (m - 1) (by omega) (by omega) h5
     ·have:i=m - 1:=by omega
      subst this;exact List.le_refl _
    have h5:d[m]<=d[m - 1]:=by rw[←e,←hia];exact h4
    exact hkk (List.le_antisymm h5 h3)
   exact lt_of_not (fun hh=>absurd (List.le_antisymm hal (List.le_of_lt hh)) hne) (fun e=>hne e.symm)
  ·have hk':Lib.keeps d.toArray m=O:=by simpa using hk
   rw[if_neg hk,ek];refine⟨h1,fun z=>(h2 z).trans ⟨fun hz=>List.mem_append_left _ hz,fun hz=> ?_⟩⟩
   rcases bo.1 hz with hz | hz
   ·exact hz
   ·rw[List.mem_singleton.1 hz];unfold Lib.keeps at hk';rw[decide_eq_false_iff_not]at hk'
    have hm0:0<m:=by
     rcases bu m with h0 | h0
     ·exact absurd (.inl h0) hk'
     ·exact h0
    have hp:d.toArray[m - 1]! =d[m - 1]:=by
     rw[getElem!_pos d.toArray (m - 1) (by simp;omega)]
     simp
    have he:d[m]=d[m - 1]:=by
     rcases Decidable.em (d[m]=d[m - 1])with h0 | h0
     ·exact h0
     ·exact absurd (.inr (by rw[hd,hp];exact h0)) hk'
    rw[he];exact List.mem_iff_getElem.2 ⟨m - 1,by rw[bq];omega,List.getElem_take⟩
theorem names_same {xs ys:List ByteArray}(h:∀z,z∈xs ↔ z∈ys):xs.foldl gK []=(cpt (srtL ys)).map ofL:=by
 have tr:∀a b c:List UInt8,decide (a<=b)=ac->decide (b<=c)=ac->decide (a<=c)=ac:=fun a b c h1 h2=>by simp only[decide_eq_true_eq]at*;exact List.le_trans h1 h2
 have tt:∀a b:List UInt8,(decide (a<=b)||decide (b<=a))=ac:=fun a b=>by simp only[Bool.or_eq_true,decide_eq_true_eq];exact List.le_total a b
 have hs:(srtL ys).Pairwise fun a b=>a<=b:=(List.pairwise_mergeSort tr tt (ys.map toL)).imp fun h=>of_decide_eq_true h;obtain⟨h1,h2⟩:=putF_of xs [] List.Pairwise.nil;obtain⟨h3,h4⟩:=cpt_of hs (srtL ys).length (ai _)
 have e:(xs.foldl gK []).map toL=cpt (srtL ys):=by
  refine Ss.ext h1 h3 fun x=> ?_
  show _ ↔ x∈Lib.compactUpTo _ _
  rw[h4 x,df];unfold srtL;rw[List.mem_mergeSort,List.mem_map,List.mem_map];constructor
  ·rintro⟨a,ha,rfl⟩;exact⟨a,(h a).1 (((h2 a).1 ha).elim (fun h=>by cases h) id),rfl⟩
  ·rintro⟨a,ha,rfl⟩;exact⟨a,(h2 a).2 (.inr ((h a).2 ha)),rfl⟩
 rw[←e,ofL_toL]
theorem namesA_same (nm:ByteArray)(wd ln:Int)(ds:List S70)(bd:List S119)(place:Int):gU nm wd ln ds bd place=dM nm wd ln ds bd place:=by
 unfold gU dM
 split
 ·split
  ·rename_i h
   congr 1
   rw[names_same (ys:=nmsK ds place (things ds bd))];intro z;unfold nmsK;rw[if_pos h];unfold nmsT
   simp
  ·rfl
 ·rfl
end Go.Proofs.YtfigjpehecibeaaGreat.L
namespace Go.Proofs.YtfigjpehecibeaaGreat.L
open Go.RowKit Go.Proofs.YtfigjpehecibeaaGreatW.PrintWords Go.Proofs.YtfigjpehecibeaaGreatW.PrintLast Go.Proofs.YtfigjpehecibeaaGreatW.PrintMore Go.Proofs.YtfigjpehecibeaaGreat.Gr
def exN (s:ByteArray):S116:=⟨2,0,s,[]⟩
def kC:List S70:=[⟨5,⟨#[120]⟩,0,[]⟩]
def liveA:S116:=⟨9,0,⟨#[]⟩,[exN ⟨#[120]⟩,exN ⟨#[105]⟩]⟩
def liveS:S119:=⟨1,⟨#[120]⟩,z116,liveA,0,0,[],[]⟩
def liveB:List S119:=[⟨4,⟨#[105]⟩,z116,z116,0,4,[liveS],[]⟩]
def liveQ:List S119:=[⟨1,⟨#[120]⟩,z116,exN ⟨#[121]⟩,0,0,[],[]⟩]
theorem live_size:sizeS 1099511627776 ⟨#[112]⟩ 32 1 kC liveB=(21,0):=by decide+kernel
theorem live_fault:cJ ⟨#[112]⟩ 32 1 kC liveB=⟨0,0,0⟩:=ans_eq (by decide+kernel) (by decide+kernel) (by decide+kernel)
theorem live_faultQ:cJ ⟨#[112]⟩ 32 1 kC liveQ=⟨11,2,161⟩:=ans_eq (by decide+kernel) (by decide+kernel) (by decide+kernel)
theorem liveD_good:∀d∈kC,Ot.goodD d:=by
 intro d hd;rcases List.mem_singleton.1 hd with rfl;exact⟨by decide,by decide,by decide,by decide,fun v hv=>by cases hv⟩
theorem live_good:PGood ⟨#[112]⟩ 32 1 kC liveB:=by
 refine⟨⟨by decide,by decide,by decide,by decide,liveD_good,by decide,(Ot.dC _).1 ?_⟩,by decide+kernel⟩;simp only[liveB,liveS,liveA,exN,z116,Ot.gJ,Ot.kF,Ot.goodE,Ot.jM,and_true];decide
theorem live_goodQ:PGood ⟨#[112]⟩ 32 1 kC liveQ:=by
 refine⟨⟨by decide,by decide,by decide,by decide,liveD_good,by decide,(Ot.dC _).1 ?_⟩,by decide+kernel⟩;simp only[liveQ,exN,z116,Ot.gJ,Ot.kF,Ot.goodE,Ot.jM,and_true];decide
theorem blk_C {α:Type}{k:Kd α}{w:World}{b:Nat}{cells:Array Value}{e:TypeId}(hb:w.heap[b]? =ae (.cells cells e (0,0))){xs:List α}(hm:xs.length<=9223372036854775807)
 (h:∀(i:Nat) x,xs[i]? =ae x->∃cs,k.K w x cs/\∀(j:Nat) u,cs[j]? =ae u->cells[i*k.sz+j]? =ae u):Kd.C k w (ae ⟨b,0,aj⟩) xs.length xs:=by
 refine⟨rfl,hm,fun _=>⟨_,rfl,fun i x hx=> ?_⟩⟩;obtain⟨cs,h1,h2⟩:=h i x hx;refine⟨cs,k.K_len h1,h1,fun j u hu=> ?_⟩;have h3:=h2 j u hu;rw[add_at,Nat.zero_add];exact(aB hb _).trans h3
theorem blk_C1 {α:Type}{k:Kd α}{w:World}{b:Nat}{cs:List Value}{e:TypeId}{x:α}(hb:w.heap[b]? =ae (.cells cs.toArray e (0,0)))(hx:k.K w x cs):Kd.C k w (ae ⟨b,0,aj⟩) 1 [x]:=by
 refine blk_C (xs:=[x]) hb (by simp) fun i y hy=> ?_
 rcases i with _ | i
 ·simp only[List.getElem?_cons_zero,Option.some.injEq]at hy;subst hy;exact⟨cs,hx,fun j u hu=>by simpa using hu⟩
 ·simp at hy
theorem blk_C2 {α:Type}{k:Kd α}{w:World}{b:Nat}{cs cs2:List Value}{e:TypeId}{x y:α}(hb:w.heap[b]? =ae (.cells (cs++cs2).toArray e (0,0)))(hx:k.K w x cs)(hy:k.K w y cs2):Kd.C k w (ae ⟨b,0,aj⟩) 2 [x,y]:=by
 refine blk_C (xs:=[x,y]) hb (by simp) fun i z hz=> ?_
 rcases i with _ | _ | i
 ·simp only[List.getElem?_cons_zero,Option.some.injEq]at hz;subst hz;refine⟨cs,hx,fun j u hu=> ?_⟩;have hj:=(cz.1 hu).1;simp only[Nat.zero_mul,Nat.zero_add,List.getElem?_toArray];rw[fu hj];exact hu
 ·simp only[List.getElem?_cons_succ,List.getElem?_cons_zero,Option.some.injEq]at hz;subst hz;refine⟨cs2,hy,fun j u hu=> ?_⟩;simp only[Nat.zero_add,Nat.one_mul,List.getElem?_toArray];rw[←k.K_len hx,List.getElem?_append_right (by omega),Nat.add_sub_cancel_left];exact hu
 ·simp at hz
section
variable {X:World}{d k s f:Nat}
theorem live_decls (hd:X.heap[d]? =ae (.cells #[.int .i64 5,.string ⟨#[120]⟩,.int .i64 0,.slice aj 0 0] 70 (0,0))):Kd.C k70 X (ae ⟨d,0,aj⟩) 1 kC:=
 blk_C1 hd (k70_mk X ⟨5,⟨#[120]⟩,0,[]⟩ (A3:=aj) (c3:=0) (ai _) (fY _ X))
theorem exN_mk (X:World)(t:ByteArray):cH.K X (exN t) [.int .i64 2,.int .u64 0,.string t,.slice aj 0 0]:=jR X (exN t) (A3:=aj) (c3:=0) (ai _) (fY cH X)
theorem live_at (hd:X.heap[d]? =ae (.cells #[.int .i64 5,.string ⟨#[120]⟩,.int .i64 0,.slice aj 0 0] 70 (0,0)))
 (hk:X.heap[k]? =ae (.cells #[.int .i64 2,.int .u64 0,.string ⟨#[120]⟩,.slice aj 0 0,.int .i64 2,.int .u64 0,.string ⟨#[105]⟩,.slice aj 0 0] 116 (0,0)))
 (hs:X.heap[s]? =ae (.cells #[.int .i64 1,.string ⟨#[120]⟩,.int .i64 0,.int .u64 0,.string ⟨#[]⟩,.slice aj 0 0,.int .i64 9,.int .u64 0,.string ⟨#[]⟩,.slice (ae ⟨k,0,aj⟩) 2 2,.int .u64 0,.int .u64 0,.slice aj 0 0,.slice aj 0 0] 119 (0,0)))
 (hf:X.heap[f]? =ae (.cells #[.int .i64 4,.string ⟨#[105]⟩,.int .i64 0,.int .u64 0,.string ⟨#[]⟩,.slice aj 0 0,.int .i64 0,.int .u64 0,.string ⟨#[]⟩,.slice aj 0 0,.int .u64 0,.int .u64 4,.slice (ae ⟨s,0,aj⟩) 1 1,.slice aj 0 0] 119 (0,0))):
 ProgAt X kC liveB (ae ⟨d,0,aj⟩) 1 (ae ⟨f,0,aj⟩) 1:=by
 refine⟨live_decls hd,ai _,?_,ai _⟩;have h1:Kd.C cH X (ae ⟨k,0,aj⟩) 2 [exN ⟨#[120]⟩,exN ⟨#[105]⟩]:=blk_C2 hk (exN_mk X _) (exN_mk X _);have h2:Kd.C cU X (ae ⟨s,0,aj⟩) 1 [liveS]:=blk_C1 hs (fH X liveS (A5:=aj) (c5:=0) (ai _) (fY _ X) (A9:=ae ⟨k,0,aj⟩) (c9:=2) (ai _) h1 (A12:=aj) (c12:=0) (ai _) (fY _ X) (A13:=aj) (c13:=0) (ai _) (fY _ X));exact blk_C1 hf (fH X ⟨4,⟨#[105]⟩,z116,z116,0,4,[liveS],[]⟩ (A5:=aj) (c5:=0) (ai _) (fY _ X) (A9:=aj) (c9:=0) (ai _) (fY _ X) (A12:=ae ⟨s,0,aj⟩) (c12:=1) (ai _) h2 (A13:=aj) (c13:=0) (ai _) (fY _ X))
theorem live_atQ (hd:X.heap[d]? =ae (.cells #[.int .i64 5,.string ⟨#[120]⟩,.int .i64 0,.slice aj 0 0] 70 (0,0)))
 (hs:X.heap[s]? =ae (.cells #[.int .i64 1,.string ⟨#[120]⟩,.int .i64 0,.int .u64 0,.string ⟨#[]⟩,.slice aj 0 0,.int .i64 2,.int .u64 0,.string ⟨#[121]⟩,.slice aj 0 0,.int .u64 0,.int .u64 0,.slice aj 0 0,.slice aj 0 0] 119 (0,0))):
 ProgAt X kC liveQ (ae ⟨d,0,aj⟩) 1 (ae ⟨s,0,aj⟩) 1:=
 ⟨live_decls hd,ai _,blk_C1 hs (fH X ⟨1,⟨#[120]⟩,z116,exN ⟨#[121]⟩,0,0,[],[]⟩ (A5:=aj) (c5:=0) (ai _) (fY _ X) (A9:=aj) (c9:=0) (ai _) (fY _ X) (A12:=aj) (c12:=0) (ai _) (fY _ X) (A13:=aj) (c13:=0) (ai _) (fY _ X)),ai _⟩
end
section
attribute [local go_sem] G.cell
theorem no_calls (e:Int)(w:World):Calls au 82 #[.int .i64 e] w fun e' w'=>e'=.returned (.int .i64 e)/\Below w.heap.size w w':=by
 go_enter Tryz.func82,Tryz.ntmps82
 go_wp2
 go_ret;exact⟨rfl,ak _ _⟩
theorem name_calls (s:ByteArray)(w:World):Calls au 80 #[.string s] w fun e w'=>e=.returned (.agg #[.int .i64 2,.int .u64 0,.string s,.slice aj 0 0])/\Below w.heap.size w w':=by
 go_enter Tryz.func80,Tryz.ntmps80
 go_wp2
 exact bodyPost_ret (v:=.agg #[.int .i64 2,.int .u64 0,.string s,.slice aj 0 0]) (by simp[results,Tryz.results80,go_sem]) rfl ⟨rfl,(ak _ _).alloc (ai _) _⟩
theorem G.frozen {w:World}(g:G w){b o:Nat}(h:b<w.heap.size):g.W.frozen? ⟨b,o,aj⟩=w.frozen? ⟨b,o,aj⟩:=g.below.frozen (p:=⟨b,o,aj⟩) h
attribute [local go_sem] G.frozen
theorem live_calls (w:World):Calls au 33 #[] w fun e w'=>e=.returned (.bool ac)/\Below w.heap.size w w':=by
 go_enter Tryz.func33,Tryz.ntmps33
 go_upto_region 3 with (fail)
 refine aG ?_;intro gg;have gout:∀(g:G (gw0 gg)),Below w.heap.size w g.W:=fun g=>((((ak _ _).alloc (ai _) _).alloc (by simp) _).alloc (by simp;omega) _).trans (g.below.mono (by simp[gw0];omega));have KB:∀g:G (gw0 gg),g.W.heap[w.heap.size+1+1]? =ae (.cells #[.string ⟨#[112]⟩,.int .i64 32,.int .i64 1,.slice (ae ⟨w.heap.size+1,0,aj⟩) 1 1,.slice aj 0 0] 25 (0,0)):=fun g=>aE (by simpa using bR ((w.alloc (.cells #[.int .i64 5,.string ⟨#[120]⟩,.int .i64 0,.slice aj 0 0] 70)).alloc (.cells #[.int .i64 5,.string ⟨#[120]⟩,.int .i64 0,.slice aj 0 0] 70)) (.cells #[.string ⟨#[112]⟩,.int .i64 32,.int .i64 1,.slice (ae ⟨w.heap.size+1,0,aj⟩) 1 1,.slice aj 0 0] 25)) g.below;have z4:∀(g:G (gw0 gg)) (o1 o2 o3:Obj),(((g.W.alloc o1).alloc o2).alloc o3).cell? ⟨w.heap.size+1+1,4,aj⟩=ae (.slice aj 0 0):=fun g o1 o2 o3=>(aB (bP (bP (bP (KB g) _) _) _) 4).trans rfl;have y4:∀(g:G (gw0 gg)) (o1 o2 o3:Obj),(((g.W.alloc o1).alloc o2).alloc o3).frozen? ⟨w.heap.size+1+1,4,aj⟩=O:=fun g o1 o2 o3=>bS (bP (bP (bP (KB g) _) _) _) 4;have KBA:=J KB;clear KB
 go_upto_region 4 with (go_at_call 80;refine(aC (g:=gg) (name_calls _ gg.W)).mono ?_;rintro _ _ ⟨rfl,gg,rfl⟩)
 refine aG ?_;intro g2;have lw:w.heap.size+1+1<gg.W.heap.size:=aR (KBA.out gg);have KP:=J (show(gw0 g2).heap[w.heap.size+1+1]? =ae (.cells #[.string ⟨#[112]⟩,.int .i64 32,.int .i64 1,.slice (ae ⟨w.heap.size+1,0,aj⟩) 1 1,.slice (ae ⟨gg.W.heap.size+1+1,0,aj⟩) 1 1] 25 (0,0)) from gL (bP (bP (bP (KBA.out gg) _) _) _) 4 _ rfl);have KD:=J (show(gw0 g2).heap[w.heap.size+1]? =ae (.cells #[.int .i64 5,.string ⟨#[120]⟩,.int .i64 0,.slice aj 0 0] 70 (0,0)) from(cy _ _ _ _ (by simp)).trans (bP (bP (bP (aE (show(gw0 gg).heap[w.heap.size+1]? =ae (.cells #[.int .i64 5,.string ⟨#[120]⟩,.int .i64 0,.slice aj 0 0] 70 (0,0)) from bP (by simpa using bR (w.alloc (.cells #[.int .i64 5,.string ⟨#[120]⟩,.int .i64 0,.slice aj 0 0] 70)) (.cells #[.int .i64 5,.string ⟨#[120]⟩,.int .i64 0,.slice aj 0 0] 70)) _) gg.below) _) _) _));have KK:=J (show(gw0 g2).heap[gg.W.heap.size]? =ae (.cells #[.int .i64 2,.int .u64 0,.string ⟨#[120]⟩,.slice aj 0 0,.int .i64 2,.int .u64 0,.string ⟨#[105]⟩,.slice aj 0 0] 116 (0,0)) from(cy _ _ _ _ (by simp;omega)).trans (bP (bP (bR gg.W _) _) _));have KS:=J (show(gw0 g2).heap[gg.W.heap.size+1]? =ae (.cells #[.int .i64 1,.string ⟨#[120]⟩,.int .i64 0,.int .u64 0,.string ⟨#[]⟩,.slice aj 0 0,.int .i64 9,.int .u64 0,.string ⟨#[]⟩,.slice (ae ⟨gg.W.heap.size,0,aj⟩) 2 2,.int .u64 0,.int .u64 0,.slice aj 0 0,.slice aj 0 0] 119 (0,0)) from(cy _ _ _ _ (by simp;omega)).trans (bP (by simpa using bR (gg.W.alloc (.cells #[.int .i64 2,.int .u64 0,.string ⟨#[120]⟩,.slice aj 0 0,.int .i64 2,.int .u64 0,.string ⟨#[105]⟩,.slice aj 0 0] 116)) (.cells #[.int .i64 1,.string ⟨#[120]⟩,.int .i64 0,.int .u64 0,.string ⟨#[]⟩,.slice aj 0 0,.int .i64 9,.int .u64 0,.string ⟨#[]⟩,.slice (ae ⟨gg.W.heap.size,0,aj⟩) 2 2,.int .u64 0,.int .u64 0,.slice aj 0 0,.slice aj 0 0] 119)) _));have KF:=J (show(gw0 g2).heap[gg.W.heap.size+1+1]? =ae (.cells #[.int .i64 4,.string ⟨#[105]⟩,.int .i64 0,.int .u64 0,.string ⟨#[]⟩,.slice aj 0 0,.int .i64 0,.int .u64 0,.string ⟨#[]⟩,.slice aj 0 0,.int .u64 0,.int .u64 4,.slice (ae ⟨gg.W.heap.size+1,0,aj⟩) 1 1,.slice aj 0 0] 119 (0,0)) from(cy _ _ _ _ (by simp;omega)).trans (by simpa using bR ((gg.W.alloc (.cells #[.int .i64 2,.int .u64 0,.string ⟨#[120]⟩,.slice aj 0 0,.int .i64 2,.int .u64 0,.string ⟨#[105]⟩,.slice aj 0 0] 116)).alloc (.cells #[.int .i64 1,.string ⟨#[120]⟩,.int .i64 0,.int .u64 0,.string ⟨#[]⟩,.slice aj 0 0,.int .i64 9,.int .u64 0,.string ⟨#[]⟩,.slice (ae ⟨gg.W.heap.size,0,aj⟩) 2 2,.int .u64 0,.int .u64 0,.slice aj 0 0,.slice aj 0 0] 119)) (.cells #[.int .i64 4,.string ⟨#[105]⟩,.int .i64 0,.int .u64 0,.string ⟨#[]⟩,.slice aj 0 0,.int .i64 0,.int .u64 0,.string ⟨#[]⟩,.slice aj 0 0,.int .u64 0,.int .u64 4,.slice (ae ⟨gg.W.heap.size+1,0,aj⟩) 1 1,.slice aj 0 0] 119)));have PA:=J (live_at KD.out KK.out KS.out KF.out)
 have goutX:∀g:G (gw0 g2),Below w.heap.size w g.W:=fun g=>(((((gout gg).alloc (gout gg).size _).alloc (by have:=(gout gg).size;simp;omega) _).alloc (by have:=(gout gg).size;simp;omega) _).setCell (p:=⟨w.heap.size+1+1,4,aj⟩) (by simp;omega) _).trans (g.below.mono (by simp[gw0];omega));have x0:∀g:G (gw0 g2),g.W.cell? ⟨w.heap.size+1+1,0,aj⟩=ae (.string ⟨#[112]⟩):=fun g=>(aB (aE KP.out g.below) 0).trans rfl;have x1:∀g:G (gw0 g2),g.W.cell? ⟨w.heap.size+1+1,1,aj⟩=ae (.int .i64 32):=fun g=>(aB (aE KP.out g.below) 1).trans rfl;have x2:∀g:G (gw0 g2),g.W.cell? ⟨w.heap.size+1+1,2,aj⟩=ae (.int .i64 1):=fun g=>(aB (aE KP.out g.below) 2).trans rfl;have x3:∀g:G (gw0 g2),g.W.cell? ⟨w.heap.size+1+1,3,aj⟩=ae (.slice (ae ⟨w.heap.size+1,0,aj⟩) 1 1):=fun g=>(aB (aE KP.out g.below) 3).trans rfl;have x4:∀g:G (gw0 g2),g.W.cell? ⟨w.heap.size+1+1,4,aj⟩=ae (.slice (ae ⟨gg.W.heap.size+1+1,0,aj⟩) 1 1):=fun g=>(aB (aE KP.out g.below) 4).trans rfl;clear z4 y4;have LW:=J lw;clear lw
 go_upto_region 6 with (go_at_call 65;refine(aC (g:=g2) (size_calls ⟨#[112]⟩ 32 1 kC liveB _ _ _ _ g2.W (PA.out.below g2.below) live_good (21,0) live_size.symm)).mono ?_;rintro _ _ ⟨rfl,g2,rfl⟩)
 refine aG ?_;intro g3;have Q3:∀g:G (gw0 g3),g.W.heap[g2.W.heap.size]? =ae (.cells #[.string ⟨#[112]⟩,.int .i64 32,.int .i64 1,.slice (ae ⟨w.heap.size+1,0,aj⟩) 1 1,.slice (ae ⟨gg.W.heap.size+1+1,0,aj⟩) 1 1] 25 (0,0)):=fun g=>aE (bR _ _) g.below;have z4:∀(g:G (gw0 g3)) (o:Obj),(g.W.alloc o).cell? ⟨g2.W.heap.size,4,aj⟩=ae (.slice (ae ⟨gg.W.heap.size+1+1,0,aj⟩) 1 1):=fun g o=>(aB (bP (Q3 g) _) 4).trans rfl;have y4:∀(g:G (gw0 g3)) (o:Obj),(g.W.alloc o).frozen? ⟨g2.W.heap.size,4,aj⟩=O:=fun g o=>bS (bP (Q3 g) _) 4;have QA:=J Q3;clear Q3;have G3:=J (show ∀g:G (gw0 g3),Below (gw0 g2).heap.size (gw0 g2) g.W from fun g=>(g2.below.alloc g2.below.size _).trans (g.below.mono (bg g2.below.size (by simp[gw0]))))
 go_upto_region 7 with (go_at_call 80;refine(aC (g:=g3) (name_calls _ g3.W)).mono ?_;rintro _ _ ⟨rfl,g3,rfl⟩)
 clear z4 y4;refine aG ?_;intro g4;have l3:g2.W.heap.size<g3.W.heap.size:=aR (QA.out g3);have KQ:=J (show(gw0 g4).heap[g2.W.heap.size]? =ae (.cells #[.string ⟨#[112]⟩,.int .i64 32,.int .i64 1,.slice (ae ⟨w.heap.size+1,0,aj⟩) 1 1,.slice (ae ⟨g3.W.heap.size,0,aj⟩) 1 1] 25 (0,0)) from gL (bP (QA.out g3) _) 4 _ rfl);have KR:=J (show(gw0 g4).heap[g3.W.heap.size]? =ae (.cells #[.int .i64 1,.string ⟨#[120]⟩,.int .i64 0,.int .u64 0,.string ⟨#[]⟩,.slice aj 0 0,.int .i64 2,.int .u64 0,.string ⟨#[121]⟩,.slice aj 0 0,.int .u64 0,.int .u64 0,.slice aj 0 0,.slice aj 0 0] 119 (0,0)) from(cy _ _ _ _ (by simp;omega)).trans (bR g3.W _));have GX:=J (show ∀g:G (gw0 g4),Below (gw0 g2).heap.size (gw0 g2) g.W from fun g=>(((G3.out g3).alloc (G3.out g3).size _).setCell (p:=⟨g2.W.heap.size,4,aj⟩) g2.below.size _).trans (g.below.mono (bg (G3.out g3).size (by simp[gw0]))));have KD2:=J (show(gw0 g4).heap[w.heap.size+1]? =ae (.cells #[.int .i64 5,.string ⟨#[120]⟩,.int .i64 0,.slice aj 0 0] 70 (0,0)) from aE KD.out (GX.out (mkG (ak _ _))));have PQ:=J (live_atQ KD2.out KR.out);have v0:∀g:G (gw0 g4),g.W.cell? ⟨g2.W.heap.size,0,aj⟩=ae (.string ⟨#[112]⟩):=fun g=>(aB (aE KQ.out g.below) 0).trans rfl;have v1:∀g:G (gw0 g4),g.W.cell? ⟨g2.W.heap.size,1,aj⟩=ae (.int .i64 32):=fun g=>(aB (aE KQ.out g.below) 1).trans rfl;have v2:∀g:G (gw0 g4),g.W.cell? ⟨g2.W.heap.size,2,aj⟩=ae (.int .i64 1):=fun g=>(aB (aE KQ.out g.below) 2).trans rfl;have v3:∀g:G (gw0 g4),g.W.cell? ⟨g2.W.heap.size,3,aj⟩=ae (.slice (ae ⟨w.heap.size+1,0,aj⟩) 1 1):=fun g=>(aB (aE KQ.out g.below) 3).trans rfl;have v4:∀g:G (gw0 g4),g.W.cell? ⟨g2.W.heap.size,4,aj⟩=ae (.slice (ae ⟨g3.W.heap.size,0,aj⟩) 1 1):=fun g=>(aB (aE KQ.out g.below) 4).trans rfl;clear x0 x1 x2 x3 x4;have KP4:=J (fun g=>aE KP.out (GX.out g));have x0:∀g:G (gw0 g4),g.W.cell? ⟨w.heap.size+1+1,0,aj⟩=ae (.string ⟨#[112]⟩):=fun g=>(aB (KP4.out g) 0).trans rfl;have x1:∀g:G (gw0 g4),g.W.cell? ⟨w.heap.size+1+1,1,aj⟩=ae (.int .i64 32):=fun g=>(aB (KP4.out g) 1).trans rfl;have x2:∀g:G (gw0 g4),g.W.cell? ⟨w.heap.size+1+1,2,aj⟩=ae (.int .i64 1):=fun g=>(aB (KP4.out g) 2).trans rfl;have x3:∀g:G (gw0 g4),g.W.cell? ⟨w.heap.size+1+1,3,aj⟩=ae (.slice (ae ⟨w.heap.size+1,0,aj⟩) 1 1):=fun g=>(aB (KP4.out g) 3).trans rfl;have x4:∀g:G (gw0 g4),g.W.cell? ⟨w.heap.size+1+1,4,aj⟩=ae (.slice (ae ⟨gg.W.heap.size+1+1,0,aj⟩) 1 1):=fun g=>(aB (KP4.out g) 4).trans rfl;clear l3;go_wp2_with fail;refine(aC (g:=g4) (mD ⟨#[112]⟩ 32 1 kC liveQ _ _ _ _ g4.W (PQ.out.below g4.below) live_goodQ ⟨11,2,161⟩ live_faultQ.symm)).mono ?_;rintro _ _ ⟨rfl,g4,rfl⟩;go_wp2_with fail;refine(aC (g:=g4) (kY ⟨#[112]⟩ 32 1 kC liveB _ _ _ _ g4.W (PA.out.below (GX.out g4)) live_good ⟨0,0,0⟩ live_fault.symm)).mono ?_;rintro _ _ ⟨rfl,g4,rfl⟩;go_wp2_with fail;refine(aC (g:=g4) (no_calls _ g4.W)).mono ?_;rintro _ _ ⟨rfl,g4,rfl⟩;go_wp2_with fail;refine(aC (g:=g4) (no_calls _ g4.W)).mono ?_;rintro _ _ ⟨rfl,g4,rfl⟩;go_wp2_with fail;refine(aC (g:=g4) (no_calls _ g4.W)).mono ?_;rintro _ _ ⟨rfl,g4,rfl⟩;go_wp2_with fail;go_ret
 exact⟨rfl,goutX (mkG (GX.out g4))⟩
end
section
set_option maxRecDepth 100000
theorem wfNames_walk (nm:ByteArray)(wd ln:Int)(ds:List S70)(bd:List S119)(A3:Option Addr)(c3:Nat)(A4:Option Addr)(c4:Nat)(place:Int)(w:World)(hp:ProgAt w ds bd A3 c3 A4 c4)(hg:PGood nm wd ln ds bd):
 Calls au 7 #[.agg #[.string nm,.int .i64 wd,.int .i64 ln,.slice A3 ds.length c3,.slice A4 bd.length c4],.int .i64 place] w fun e w'=>e=.returned (.bool ac)/\Below w.heap.size w w':=by
 obtain⟨pb,hpb⟩:∃b,b=w.heap.size:=⟨_,rfl⟩;obtain⟨X,hX⟩:∃X,X=w.alloc (.cells #[.string nm,.int .i64 wd,.int .i64 ln,.slice A3 ds.length c3,.slice A4 bd.length c4] 25):=⟨_,rfl⟩
 have hXB:Below w.heap.size w X:=by rw[hX];exact(ak _ _).alloc (ai _) _
 have hbp:X.heap[pb]? =ae (.cells #[.string nm,.int .i64 wd,.int .i64 ln,.slice A3 ds.length c3,.slice A4 bd.length c4] 25 (0,0)):=by rw[hX,hpb];exact bR _ _
 obtain⟨b,hb⟩:∃b,cI nm wd ln ds bd=b:=⟨_,rfl⟩
 obtain⟨tn,htn⟩:∃n:Int,n=if b=ac then((things ds bd).length:Int)else 0:=⟨_,rfl⟩
 obtain⟨te,hte⟩:∃n:Int,n=if b=ac then 0 else 1:=⟨_,rfl⟩
 obtain⟨⟨L,er⟩,hla⟩:∃r,r=gU nm wd ln ds bd place:=⟨_,rfl⟩;have HT1:=J (things_calls nm wd ln ds bd A3 c3 A4 c4 X (hp.below hXB) hg b hb);have HT2:=J (fun(W:World) (h:Below X.heap.size X W)=>mF nm wd ln ds bd A3 c3 A4 c4 W ((hp.below hXB).below h) hg b hb);have HN1:=J (fun(W:World) (h:Below X.heap.size X W)=>namesP_calls nm wd ln ds bd A3 c3 A4 c4 place W ((hp.below hXB).below h) hg);have HN2:=J (fun(W:World) (h:Below X.heap.size X W)=>kZ nm wd ln ds bd A3 c3 A4 c4 place W ((hp.below hXB).below h) hg);rw[←htn,←hte]at HT1;simp only[←htn,←hte]at HT2;rw[←namesA_same]at HN2;rw[←hla]at HN1 HN2;have HX:=J (aq hXB hbp);have HXE:=J (aq hX hpb);have x0:X.cell? ⟨pb,0,aj⟩=ae (.string nm):=(aB hbp 0).trans rfl;have x1:X.cell? ⟨pb,1,aj⟩=ae (.int .i64 wd):=(aB hbp 1).trans rfl;have x2:X.cell? ⟨pb,2,aj⟩=ae (.int .i64 ln):=(aB hbp 2).trans rfl;have x3:X.cell? ⟨pb,3,aj⟩=ae (.slice A3 ds.length c3):=(aB hbp 3).trans rfl;have x4:X.cell? ⟨pb,4,aj⟩=ae (.slice A4 bd.length c4):=(aB hbp 4).trans rfl;clear hp hg hX hpb hXB hbp hb htn hte hla;go_enter Tryz.func7,Tryz.ntmps7
 go_upto_region 1 with (fail)
 rw[←HXE.out.1,←HXE.out.2];go_wp2_with fail;refine HT1.out.mono ?_;rintro _ w1 ⟨rfl,hb1⟩;have H1:=J hb1;clear hb1 x0 x1 x2 x3 x4;have x0:w1.cell? ⟨pb,0,aj⟩=ae (.string nm):=(aB (aE HX.out.2 H1.out) 0).trans rfl;have x1:w1.cell? ⟨pb,1,aj⟩=ae (.int .i64 wd):=(aB (aE HX.out.2 H1.out) 1).trans rfl;have x2:w1.cell? ⟨pb,2,aj⟩=ae (.int .i64 ln):=(aB (aE HX.out.2 H1.out) 2).trans rfl;have x3:w1.cell? ⟨pb,3,aj⟩=ae (.slice A3 ds.length c3):=(aB (aE HX.out.2 H1.out) 3).trans rfl;have x4:w1.cell? ⟨pb,4,aj⟩=ae (.slice A4 bd.length c4):=(aB (aE HX.out.2 H1.out) 4).trans rfl;go_wp2_with fail;refine(HT2.out w1 H1.out).mono ?_;rintro _ w2 ⟨rfl,hb2⟩;have H2:=J (H1.out.trans (hb2.mono H1.out.size));clear hb2 x0 x1 x2 x3 x4;go_wp2_with fail;refine(live_calls w2).mono ?_;rintro _ w3 ⟨rfl,hb3⟩;have H3:=J (H2.out.trans (hb3.mono H2.out.size));clear hb3;have x0:w3.cell? ⟨pb,0,aj⟩=ae (.string nm):=(aB (aE HX.out.2 H3.out) 0).trans rfl;have x1:w3.cell? ⟨pb,1,aj⟩=ae (.int .i64 wd):=(aB (aE HX.out.2 H3.out) 1).trans rfl;have x2:w3.cell? ⟨pb,2,aj⟩=ae (.int .i64 ln):=(aB (aE HX.out.2 H3.out) 2).trans rfl;have x3:w3.cell? ⟨pb,3,aj⟩=ae (.slice A3 ds.length c3):=(aB (aE HX.out.2 H3.out) 3).trans rfl;have x4:w3.cell? ⟨pb,4,aj⟩=ae (.slice A4 bd.length c4):=(aB (aE HX.out.2 H3.out) 4).trans rfl;go_wp2_with fail;refine(HN1.out w3 H3.out).mono ?_;rintro _ w4 ⟨v,rfl,⟨B,hR⟩,hb4⟩;obtain⟨A,c,rfl,hlc,hC⟩:=Kd.fF hR;have H4:=J (aq (H3.out.trans (hb4.mono H3.out.size)) hC);clear hR hb4 hlc hC x0 x1 x2 x3 x4;dsimp only;have x0:w4.cell? ⟨pb,0,aj⟩=ae (.string nm):=(aB (aE HX.out.2 H4.out.1) 0).trans rfl;have x1:w4.cell? ⟨pb,1,aj⟩=ae (.int .i64 wd):=(aB (aE HX.out.2 H4.out.1) 1).trans rfl;have x2:w4.cell? ⟨pb,2,aj⟩=ae (.int .i64 ln):=(aB (aE HX.out.2 H4.out.1) 2).trans rfl;have x3:w4.cell? ⟨pb,3,aj⟩=ae (.slice A3 ds.length c3):=(aB (aE HX.out.2 H4.out.1) 3).trans rfl;have x4:w4.cell? ⟨pb,4,aj⟩=ae (.slice A4 bd.length c4):=(aB (aE HX.out.2 H4.out.1) 4).trans rfl;go_wp2_with fail;refine(HN2.out w4 H4.out.1).mono ?_;rintro _ w5 ⟨v,rfl,⟨B2,hR⟩,hb5⟩;obtain⟨A',c',rfl,hlc,hC⟩:=Kd.fF hR;have H5:=J (aq (H4.out.1.trans (hb5.mono H4.out.1.size)) (aq (Kd.aF H4.out.2 hb5) hC));have hlm:L.length<=9223372036854775807:=hC.2.1;clear hR hb5 hlc hC x0 x1 x2 x3 x4;dsimp only;go_wp2_with fail
 go_loopw [11] (fun iv W'=>∃k:Nat,iv=.int .i64 k/\k<=L.length/\Aside0 (Below w5.heap.size w5 W')) (fun iv _=>L.length - (intOf iv).toNat)
 case atStart=>exact⟨0,rfl,br _,⟨ak _ _⟩⟩
 case round=>
  obtain⟨k,rfl,hk,HR⟩:=hrel
  by_cases hlt:k<L.length
  ·have hi1:(k:Int)<(L.length:Int):=by omega
   obtain⟨ad,e1,q1⟩:=Kd.dY (Kd.aF H5.out.2.1 HR.out) (k:Int) (by omega) (by omega);obtain⟨ad2,e2,q2⟩:=Kd.dY (Kd.aF H5.out.2.2 HR.out) (k:Int) (by omega) (by omega);cases e1;cases e2;rw[rdN,ax]at q1 q2;obtain⟨s,hs⟩:∃s,s=L.getD k ba:=⟨_,rfl⟩;rw[←hs]at q1 q2;clear hs;go_wp2_with fail;go_region;go_wp2_with fail;refine⟨⟨k+1,by go_num,by omega,⟨HR.out.trans ((ak _ _).drew)⟩⟩,by simp[intOf];omega⟩
  ·have hi1:¬(k:Int)<(L.length:Int):=by omega
   go_wp2_with fail;go_ret;exact⟨rfl,HX.out.1.trans ((H5.out.1.trans (HR.out.mono H5.out.1.size)).mono HX.out.1.size)⟩
theorem wfNames_law (v0:Value)(x0:Ot.Prog)(a1:Int)(w:World)(s0:∃cs,v0=.agg cs/\cs.size=Tryz.prog.cellsOf 25)(k0:Ot.opensP_K w x0 v0.cells.toList)(g0:Ot.lT x0){m0:Nat}(b0:Ot.kT x0<=m0){q:Prop}(w1:q){m1:Nat}(hb:m0+m1<=1048576):
 Calls au 7 #[v0,.int .i64 a1] w fun e w'=>e=.returned (.bool ac)/\Below w.heap.size w w':=by
 obtain⟨A3,c3,A4,c4,rfl,l3,g3,l4,g4⟩:=Ot.prog_of_K (s0.imp fun _ h=>h.1) k0;exact wfNames_walk x0.nm x0.wd x0.ln x0.ds x0.bd A3 c3 A4 c4 a1 w ⟨g3,l3,g4,l4⟩ ⟨g0,bg b0 (by omega)⟩
end
end Go.Proofs.YtfigjpehecibeaaGreat.L
