/- Texts joined by a program of mine: Qf Qg Qh Nb Re Rf Rg. -/
import Derived.Test.YtfigjpehecibeaaGreatZh8
import Derived.Test.YtfigjpehecibeaaGreatZh9
set_option maxRecDepth 100000
open And renaming intro -> aj
open Bool renaming true -> af, false -> ac
open Go.Act renaming put -> ay
open Go.Proofs.Tryz renaming prog -> au, underlying9 -> jo, underlying3 -> kg
open Go.Proofs.YtfigjpehecibeaaGreatW.PrintWords.Aside0 renaming mk -> aa
open Go.RowKit.Below renaming refl -> ar
open Go.Value renaming int -> bh, ownBlock -> ee
open Go.WideMaps renaming keyOf_string_mk -> kw
open Int renaming eq_ofNat_of_zero_le -> ew, emod_lt_of_pos -> kp, toNat_natCast -> ax, natCast_add -> kz
open List renaming length_append -> ba, length_singleton -> bq, range -> bu, range_succ -> jz, setIfInBounds_toArray -> ae, set_cons_zero -> ah, set_cons_succ -> ai, mem_append -> fk, take_zero -> jx, take_length -> eu, sizeOf_lt_of_mem -> gq, replicate -> bg, append_nil -> ed, append_assoc -> dr, map_toArray -> cd, map_cons -> cg, map_nil -> db, length_drop -> fj, getD_eq_getElem?_getD -> aw, mem_range -> jg, length_replicate -> dx, getElem?_eq_getElem -> az
open Nat renaming le_refl -> aq, zero_le -> bk, not_lt_zero -> da, le_succ -> jj, le_trans -> bi, lt_of_lt_of_le -> br, add_zero -> gm
open Option renaming some -> ag, none -> ak
open Or renaming inl -> bc
open SizeOf renaming sizeOf -> cz
set_option linter.unusedVariables false
set_option linter.unusedSimpArgs false
set_option maxHeartbeats 8000000
namespace Go.Proofs.YtfigjpehecibeaaGreat.L
open Go.RowKit Bm C Go.Maps Go.Proofs.YtfigjpehecibeaaGreatW.PrintWords Go.Proofs.YtfigjpehecibeaaGreatW.PrintLast Go.Proofs.YtfigjpehecibeaaGreatW.PrintMore Go.Proofs.YtfigjpehecibeaaGreat.Gr
section
set_option maxRecDepth 100000
variable {c:Cfg}{vr vl:Value}{ts:List (Nat × Nat × Nat)}{R:List (List Int)}{L:List (ByteArray × Int)}{T:List S101}{x:S119}{A5 A9 A12 A13:Option Addr}{c5 c9 c12 c13:Nat}{W W':World}
def BoR (c:Cfg)(vr:Value)(ts:List (Nat × Nat × Nat))(l:List S119):Prop:=∀(W:World) (vl:Value) (R:List (List Int)) (L:List (ByteArray × Int)) (T:List S101) (A:Option Addr) (cap:Nat),RAt c vr ts vl R L T W->ROK c.ds R->LOK L->LD L->(∀x∈l,TOK c.ds L x)->T.length+bS l<1073741824->dN.C c.w0 A l.length l->l.length<=cap->
 Calls au 69 #[.pointer (ag ⟨c.mb,0,ak⟩),.slice A l.length cap] W fun r W'=>r=.returned (.tuple #[])/\RGot c vr ts L (eO c.wd c.ln c.ds l L (R,T)) W W'
theorem st2 (hs:SOK c.wd c.ln c.ds)(hk:x.f0=2)(H:StIn c vr ts vl R L T x A5 A9 A12 A13 c5 c9 c12 c13 W):lC c vr ts R L T x A5 A9 A12 A13 c5 c9 c12 c13 W:=by
 unfold lC;rw[hk];have HH:=aa (aj hs (aj hk H));obtain⟨X,hX⟩:∃X,X=W.alloc (.cells #[.int .i64 2,.string x.f1,.int .i64 x.f2.f0,.int .u64 x.f2.f1,.string x.f2.f2,.slice A5 x.f2.f3.length c5,.int .i64 x.f3.f0,.int .u64 x.f3.f1,.string x.f3.f2,.slice A9 x.f3.f3.length c9,.int .u64 x.f4,.int .u64 x.f5,.slice A12 x.f6.length c12,.slice A13 x.f7.length c13] 119):=⟨_,rfl⟩
 have hXB:Below W.heap.size W X:=by rw[hX];exact(ar _ _).alloc (aq _) _
 have hbx:X.heap[W.heap.size]? =ag (.cells #[.int .i64 2,.string x.f1,.int .i64 x.f2.f0,.int .u64 x.f2.f1,.string x.f2.f2,.slice A5 x.f2.f3.length c5,.int .i64 x.f3.f0,.int .u64 x.f3.f1,.string x.f3.f2,.slice A9 x.f3.f3.length c9,.int .u64 x.f4,.int .u64 x.f5,.slice A12 x.f6.length c12,.slice A13 x.f7.length c13] 119 (0,0)):=by rw[hX];exact aW _ _
 have HX:=aa (aj (H.m.below hXB) (aj (Kt.of_below hXB [98,101,74,227] ak) hbx));obtain⟨d,bb,nr,A0,RN,cp,c0,hrow⟩:=rF hs H.rok HX.out.1 (H.tok.use (.inr (.inl hk)));have HF:=aa (H.tok.use (.inr (.inl hk)));have HR:=aa hrow
 have d0:(0:Int)<=(d:Int):=by omega
 have d1:(d:Int)<(RN:Int):=by have:=HR.out.lt;have:=HR.out.rn;omega
 have n1:(0:Int)<(nr:Int):=by have:=HR.out.n1;omega
 have n2:0<nr:=by have:=HR.out.n1;omega
 obtain⟨xa,hxa⟩:∃v,v=(evE c.wd c.ln c.ds R L x.f2).1:=⟨_,rfl⟩;obtain⟨ta,hta⟩:∃v,v=(evE c.wd c.ln c.ds R L x.f2).2:=⟨_,rfl⟩;obtain⟨v,hv⟩:∃v,v=(evE c.wd c.ln c.ds R L x.f3).1:=⟨_,rfl⟩;obtain⟨te,hte⟩:∃v,v=(evE c.wd c.ln c.ds R L x.f3).2:=⟨_,rfl⟩;have Na:=aa (show ta.length<=aM x.f2 from hta ▸ gU c.wd c.ln c.ds R L x.f2);have Ne:=aa (show te.length<=aM x.f3 from hte ▸ gU c.wd c.ln c.ds R L x.f3);have SZ:=aa (show T.length+(1+(aM x.f2+aM x.f3))<1073741824 by have h1:=H.len;rw[fX,if_neg (by omega),if_pos hk]at h1;omega);have Ea:=aa (show ∀W',RAt c vr ts vl R L T W'->_ from fun W' h=>H.word hs (H.tok.at' hk) H.a5 (by have:=SZ.out;omega) hxa hta h);have Ex:=aa (show ∀W',RAt c vr ts vl R L (T++ta) W'->_ from fun W' h=>H.word hs (H.tok.e' (.inr (.inl hk))) H.a9 (by have:=SZ.out;have:=Na.out;rw[ba];omega) hv hte h);have U:=aa (show U64 v from hv ▸ lU hs H.rok H.lok _ x.f3 (aq _) (H.tok.e' (.inr (.inl hk))));have Ua:=aa (show U64 xa from hxa ▸ lU hs H.rok H.lok _ x.f2 (aq _) (H.tok.at' hk));obtain⟨j2,hj2⟩:=ew (Int.emod_nonneg xa (show(nr:Int)≠0 by omega))
 have hj2n:j2<nr:=by have:=kp xa (show(0:Int)<(nr:Int) by omega);omega
 have j0:(0:Int)<=(j2:Int):=by omega
 have j1:(j2:Int)<(nr:Int):=by omega
 have HV:=aa (aj hxa (aj hta (aj hv (aj hte (aj hj2 hj2n)))))
 have HSK:=aa (show ∀R' T' w1,RAt c vr ts vl R' L T' w1->Kt [98,101,74] ak X w1->w1.cell? ⟨c.mb,5,ak⟩=ag (.slice (ag A0) RN cp)/\w1.cell? (A0.add d)=ag (.slice (ag ⟨bb,0,ak⟩) nr c0) from fun R' T' w1 h hk=>
  ⟨by rw[←HR.out.v];exact h.cells.2.2.2.1,HR.out.cells hk (by simp)⟩)
 have t1:X.cell? ⟨W.heap.size,1,ak⟩=ag (.string x.f1):=(aA hbx 1).trans rfl;clear hrow hxa hta hv hte hj2;clear hs hk H hXB hbx;go_enter Tryz.func117,Tryz.ntmps117
 go_upto_region 5 with (fail)
 rw[←hX];clear hX;go_wp2_with fail;refine(iZ HX.out.1 HR.out.no.1 HF.out).mono ?_;rintro _ w9 ⟨rfl,hb9⟩;have H9:=aa (show RAt c vr ts vl R L T w9/\Kt [98,101] ak X w9 from⟨HX.out.1.below hb9,Kt.of_below hb9 _ _⟩);have hbx:=H9.out.2.blk _ _ _ _ HX.out.2.2 (by simp);have t2:w9.cell? ⟨W.heap.size,2,ak⟩=ag (.int .i64 x.f2.f0):=(aA hbx 2).trans rfl;have t3:w9.cell? ⟨W.heap.size,3,ak⟩=ag (.int .u64 x.f2.f1):=(aA hbx 3).trans rfl;have t4:w9.cell? ⟨W.heap.size,4,ak⟩=ag (.string x.f2.f2):=(aA hbx 4).trans rfl;have t5:w9.cell? ⟨W.heap.size,5,ak⟩=ag (.slice A5 x.f2.f3.length c5):=(aA hbx 5).trans rfl;clear hb9 hbx t1;go_wp2_with fail;refine(Ea.out w9 H9.out.1).mono ?_;rintro _ w1 ⟨rfl,hm1,hk1⟩;have H1:=aa (aj hm1 (H9.out.2.trans hk1));have hbx:=H1.out.2.blk _ _ _ _ HX.out.2.2 (by simp);have t6:w1.cell? ⟨W.heap.size,6,ak⟩=ag (.int .i64 x.f3.f0):=(aA hbx 6).trans rfl;have t7:w1.cell? ⟨W.heap.size,7,ak⟩=ag (.int .u64 x.f3.f1):=(aA hbx 7).trans rfl;have t8:w1.cell? ⟨W.heap.size,8,ak⟩=ag (.string x.f3.f2):=(aA hbx 8).trans rfl;have t9:w1.cell? ⟨W.heap.size,9,ak⟩=ag (.slice A9 x.f3.f3.length c9):=(aA hbx 9).trans rfl;clear hm1 hk1 hbx t2 t3 t4 t5;go_wp2_with fail;refine(Ex.out w1 H1.out.1).mono ?_;rintro _ w2 ⟨rfl,hm2,hk2⟩;have HMD:=aa (show RAt c vr ts vl R L (T++ta++te) w2.drew/\Kt [98,101] ak X w2.drew/\Kt [98,101,74] ak X w2.drew from⟨hm2.below (ar _ _).drew,(H1.out.2.trans hk2).trans (Kt.of_below (ar _ _).drew _ _),((H1.out.2.trans hk2).trans (Kt.of_below (ar _ _).drew _ _)).more (by simp) (fun _ h=>h)⟩);have HRW:=aa (HR.out.kt HMD.out.2.1 (by simp));obtain⟨s5,sa⟩:=HSK.out _ _ _ HMD.out.1 HMD.out.2.2;clear hm2 hk2 t6 t7 t8 t9;go_wp2_with fail
 go_region_held3 (fun w'=>w'.cell? ⟨c.mb,5,ak⟩=ag (.slice (ag A0) RN cp)/\w'.cell? (A0.add d)=ag (.slice (ag ⟨bb,0,ak⟩) nr c0))
  (first | exact HSK.out _ _ _ HMD.out.1 HMD.out.2.2 | exact HSK.out _ _ _ hm4 hk4 | exact HSK.out _ _ _ hm3 hk5 | go_keep)
  (first | (go_at_call 164;refine(pQ HH.out.1 HMD.out.1 HRW.out 3 xa Ua.out.1 HV.out.2.2.2.2.1 (by simp only[ba];have:=SZ.out;have:=Na.out;have:=Ne.out;omega)).mono ?_;rintro _ w3 ⟨rfl,hm3,hk3⟩;have hk3:=HMD.out.2.1.trans hk3;have hk5:Kt [98,101,74] ak X w3:=hk3.more (by simp) (fun _ h=>h);obtain⟨q1,⟨cs1,q2⟩,q3⟩:=hm3.word HR.out.lt HR.out.len hj2n;rw[←HR.out.at']at q1 q2 q3;have q4:=aH q2 j2;have hm4:=q3 v;have hk4:Kt [98,101,74] ak X (w3.setCell ⟨bb,j2,ak⟩ (.int .u64 v)):=hk5.set q2 (by simp) j2 _;clear q3 q2))
 all_goals(
  go_wp2_with fail;go_end0;refine⟨rfl,⟨vl,?_⟩,HX.out.2.1.trans (hk4.more (by simp) (fun _ h=>h)),?_⟩
  ·rw[jB,if_neg (by have:=HH.out.2.1;omega),if_pos HH.out.2.1,←HR.out.no.1];rw[←HV.out.1,←HV.out.2.1,←HV.out.2.2.1,←HV.out.2.2.2.1,←HR.out.len,HV.out.2.2.2.2.1,ax];exact hm4
  ·rw[jB,if_neg (by have:=HH.out.2.1;omega),if_pos HH.out.2.1,←HR.out.no.1];rw[←HV.out.1,←HV.out.2.2.1,←HR.out.len,HV.out.2.2.2.2.1,ax]
   exact HH.out.2.2.rok.put d j2 U.out)
theorem st3 (hs:SOK c.wd c.ln c.ds)(hk:x.f0=3)(ih6:BoR c vr ts x.f6)(ih7:BoR c vr ts x.f7)(H:StIn c vr ts vl R L T x A5 A9 A12 A13 c5 c9 c12 c13 W):lC c vr ts R L T x A5 A9 A12 A13 c5 c9 c12 c13 W:=by
 unfold lC;rw[hk];have HH:=aa (aj hs (aj hk H));obtain⟨X,hX⟩:∃X,X=W.alloc (.cells #[.int .i64 3,.string x.f1,.int .i64 x.f2.f0,.int .u64 x.f2.f1,.string x.f2.f2,.slice A5 x.f2.f3.length c5,.int .i64 x.f3.f0,.int .u64 x.f3.f1,.string x.f3.f2,.slice A9 x.f3.f3.length c9,.int .u64 x.f4,.int .u64 x.f5,.slice A12 x.f6.length c12,.slice A13 x.f7.length c13] 119):=⟨_,rfl⟩
 have hXB:Below W.heap.size W X:=by rw[hX];exact(ar _ _).alloc (aq _) _
 have hbx:X.heap[W.heap.size]? =ag (.cells #[.int .i64 3,.string x.f1,.int .i64 x.f2.f0,.int .u64 x.f2.f1,.string x.f2.f2,.slice A5 x.f2.f3.length c5,.int .i64 x.f3.f0,.int .u64 x.f3.f1,.string x.f3.f2,.slice A9 x.f3.f3.length c9,.int .u64 x.f4,.int .u64 x.f5,.slice A12 x.f6.length c12,.slice A13 x.f7.length c13] 119 (0,0)):=by rw[hX];exact aW _ _
 have HX:=aa (aj (H.m.below hXB) (aj (Kt.of_below hXB [98,101,74,227] ak) hbx));obtain⟨v,hv⟩:∃v,v=(evE c.wd c.ln c.ds R L x.f3).1:=⟨_,rfl⟩;obtain⟨te,hte⟩:∃v,v=(evE c.wd c.ln c.ds R L x.f3).2:=⟨_,rfl⟩;have Ne:=aa (show te.length<=aM x.f3 from hte ▸ gU c.wd c.ln c.ds R L x.f3);have SZ:=aa (show T.length+(1+(aM x.f3+bS x.f6+bS x.f7))<1073741824 by have h1:=H.len;rw[fX,if_neg (by omega),if_neg (by omega),if_pos hk]at h1;omega);have Ex:=aa (show ∀W',RAt c vr ts vl R L T W'->_ from fun W' h=>H.word hs (H.tok.e' (.inr (.inr hk))) H.a9 (by have:=SZ.out;omega) hv hte h);have HV:=aa (aj hv (aj hte (aj ih6 ih7)));have t6:X.cell? ⟨W.heap.size,6,ak⟩=ag (.int .i64 x.f3.f0):=(aA hbx 6).trans rfl;have t7:X.cell? ⟨W.heap.size,7,ak⟩=ag (.int .u64 x.f3.f1):=(aA hbx 7).trans rfl;have t8:X.cell? ⟨W.heap.size,8,ak⟩=ag (.string x.f3.f2):=(aA hbx 8).trans rfl;have t9:X.cell? ⟨W.heap.size,9,ak⟩=ag (.slice A9 x.f3.f3.length c9):=(aA hbx 9).trans rfl;clear hv hte ih6 ih7;clear hs hk H hXB hbx;go_enter Tryz.func117,Tryz.ntmps117
 go_upto_region 10 with (fail)
 rw[←hX];clear hX;go_wp2_with fail;refine(Ex.out X HX.out.1).mono ?_;rintro _ w1 ⟨rfl,hm1,hk1⟩;have H1:=aa (aj hm1 hk1);clear hm1 hk1 t6 t7 t8 t9
 by_cases hv0:v=0
 ·have hv1:(v==0)=af:=beq_iff_eq.2 hv0;have HV0:=aa hv0;clear hv0;go_wp2_with fail;refine(iV H1.out.1 (by rw[ba];have:=SZ.out;have:=Ne.out;omega) 1 0 0).mono ?_;rintro _ w2 ⟨rfl,hm2,hk2⟩;have H2:=aa (aj hm2 (H1.out.2.trans hk2));have hbx:=H2.out.2.blk _ _ _ _ HX.out.2.2 (by simp);have t13:w2.cell? ⟨W.heap.size,13,ak⟩=ag (.slice A13 x.f7.length c13):=(aA hbx 13).trans rfl;clear hm2 hk2 hbx;go_wp2_with fail;refine(HV.out.2.2.2 w2 vl R L (T++te++[⟨1,0,0⟩]) A13 c13 H2.out.1 HH.out.2.2.rok HH.out.2.2.lok HH.out.2.2.ld (fun z hz=>HH.out.2.2.tok.inner (.inr hz) (by have:=HH.out.2.1;omega)) (by simp only[ba,bq];have:=SZ.out;have:=Ne.out;omega) HH.out.2.2.a13.2 HH.out.2.2.a13.1).mono ?_;rintro _ w3 ⟨rfl,h3⟩;have HE:=aa h3;clear h3 t13;go_wp2_with fail;go_end0;refine⟨rfl,?_⟩;rw[jB,if_neg (by have:=HH.out.2.1;omega),if_neg (by have:=HH.out.2.1;omega),if_pos HH.out.2.1];rw[←HV.out.1,←HV.out.2.1,if_neg (fun h=>h HV0.out)];exact⟨HE.out.1,(HX.out.2.1.trans (H2.out.2.more (by simp) (by simp))).trans HE.out.2.1,HE.out.2.2⟩
 ·have hv1:(v==0)=ac:=beq_eq_false_iff_ne.2 hv0;have HV0:=aa hv0;clear hv0;go_wp2_with fail;refine(iV H1.out.1 (by rw[ba];have:=SZ.out;have:=Ne.out;omega) 1 1 0).mono ?_;rintro _ w2 ⟨rfl,hm2,hk2⟩;have H2:=aa (aj hm2 (H1.out.2.trans hk2));have hbx:=H2.out.2.blk _ _ _ _ HX.out.2.2 (by simp);have t12:w2.cell? ⟨W.heap.size,12,ak⟩=ag (.slice A12 x.f6.length c12):=(aA hbx 12).trans rfl;clear hm2 hk2 hbx;go_wp2_with fail;refine(HV.out.2.2.1 w2 vl R L (T++te++[⟨1,1,0⟩]) A12 c12 H2.out.1 HH.out.2.2.rok HH.out.2.2.lok HH.out.2.2.ld (fun z hz=>HH.out.2.2.tok.inner (.inl hz) (by have:=HH.out.2.1;omega)) (by simp only[ba,bq];have:=SZ.out;have:=Ne.out;omega) HH.out.2.2.a12.2 HH.out.2.2.a12.1).mono ?_;rintro _ w3 ⟨rfl,h3⟩;have HE:=aa h3;clear h3 t12;go_wp2_with fail;go_end0;refine⟨rfl,?_⟩;rw[jB,if_neg (by have:=HH.out.2.1;omega),if_neg (by have:=HH.out.2.1;omega),if_pos HH.out.2.1];rw[←HV.out.1,←HV.out.2.1,if_pos HV0.out];exact⟨HE.out.1,(HX.out.2.1.trans (H2.out.2.more (by simp) (by simp))).trans HE.out.2.1,HE.out.2.2⟩
theorem st5 (hs:SOK c.wd c.ln c.ds)(hk:x.f0=5)(H:StIn c vr ts vl R L T x A5 A9 A12 A13 c5 c9 c12 c13 W):lC c vr ts R L T x A5 A9 A12 A13 c5 c9 c12 c13 W:=by
 unfold lC;rw[hk];have HH:=aa (aj hs (aj hk H));obtain⟨X,hX⟩:∃X,X=W.alloc (.cells #[.int .i64 5,.string x.f1,.int .i64 x.f2.f0,.int .u64 x.f2.f1,.string x.f2.f2,.slice A5 x.f2.f3.length c5,.int .i64 x.f3.f0,.int .u64 x.f3.f1,.string x.f3.f2,.slice A9 x.f3.f3.length c9,.int .u64 x.f4,.int .u64 x.f5,.slice A12 x.f6.length c12,.slice A13 x.f7.length c13] 119):=⟨_,rfl⟩
 have hXB:Below W.heap.size W X:=by rw[hX];exact(ar _ _).alloc (aq _) _
 have hbx:X.heap[W.heap.size]? =ag (.cells #[.int .i64 5,.string x.f1,.int .i64 x.f2.f0,.int .u64 x.f2.f1,.string x.f2.f2,.slice A5 x.f2.f3.length c5,.int .i64 x.f3.f0,.int .u64 x.f3.f1,.string x.f3.f2,.slice A9 x.f3.f3.length c9,.int .u64 x.f4,.int .u64 x.f5,.slice A12 x.f6.length c12,.slice A13 x.f7.length c13] 119 (0,0)):=by rw[hX];exact aW _ _
 have HX:=aa (aj (H.m.below hXB) (aj (Kt.of_below hXB [98,101,74,227] ak) hbx));obtain⟨d,bb,nr,A0,RN,cp,c0,hrow⟩:=rF hs H.rok HX.out.1 (H.tok.use (.inr (.inr hk)));have HF:=aa (H.tok.use (.inr (.inr hk)));have HR:=aa hrow
 have d0:(0:Int)<=(d:Int):=by omega
 have d1:(d:Int)<(RN:Int):=by have:=HR.out.lt;have:=HR.out.rn;omega
 have n1:(0:Int)<(nr:Int):=by have:=HR.out.n1;omega
 have n2:0<nr:=by have:=HR.out.n1;omega
 have SZ:=aa (show T.length<1073741824 by have h1:=H.len;omega)
 have HSK:=aa (show ∀T' w1,RAt c vr ts vl R L T' w1->Kt [98,101] ak X w1->w1.cell? ⟨c.mb,5,ak⟩=ag (.slice (ag A0) RN cp)/\w1.cell? (A0.add d)=ag (.slice (ag ⟨bb,0,ak⟩) nr c0)/\w1.cell? ⟨W.heap.size,1,ak⟩=ag (.string x.f1)/\w1.cell? ⟨bb,0,ak⟩=ag (.int .u64 (dM R d 0)) from fun T' w1 h hk=>by
  have g6:=hk.blk _ _ _ _ HX.out.2.2 (by simp)
  exact⟨by rw[←HR.out.v];exact h.cells.2.2.2.1,HR.out.cells hk (by simp),(aA g6 1).trans rfl,by rw[HR.out.at'];exact(h.word HR.out.lt HR.out.len (by have:=HR.out.n1;omega)).1⟩)
 have HMD:=aa (show RAt c vr ts vl R L T X.drew/\Kt [98,101] ak X X.drew from⟨HX.out.1.below (ar _ _).drew,Kt.of_below (ar _ _).drew _ _⟩);obtain⟨s5,sa,sn,sw⟩:=HSK.out _ _ HMD.out.1 HMD.out.2;clear hrow;clear hs hk H hXB hbx;go_enter Tryz.func117,Tryz.ntmps117
 go_upto_region 23 with (fail)
 rw[←hX];clear hX
 go_region_held3 (fun w'=>w'.cell? ⟨c.mb,5,ak⟩=ag (.slice (ag A0) RN cp)/\w'.cell? (A0.add d)=ag (.slice (ag ⟨bb,0,ak⟩) nr c0)/\w'.cell? ⟨W.heap.size,1,ak⟩=ag (.string x.f1)/\w'.cell? ⟨bb,0,ak⟩=ag (.int .u64 (dM R d 0)))
  (first | exact HSK.out _ _ HMD.out.1 HMD.out.2 | exact HSK.out _ _ hm1 hk1 | exact HSK.out _ _ hm9 hk9 | go_keep)
  (first | (go_at_call 163;refine(iZ HMD.out.1 HR.out.no.1 HF.out).mono ?_;rintro _ w9 ⟨rfl,hb9⟩;have hm9:=HMD.out.1.below hb9;have hk9:=HMD.out.2.trans (Kt.of_below hb9 [98,101] ak)) | (go_at_call 165;refine(iV hm9 SZ.out 5 (dM R d 0) 0).mono ?_;rintro _ w1 ⟨rfl,hm1,hk1⟩;have hk1:=hk9.trans hk1))
 have HE:=aa (aj hm1 hk1);clear hm1 hk1 hm9 hk9 hb9;go_wp2_with fail;go_end0;refine⟨rfl,⟨vl,?_⟩,HX.out.2.1.trans (HE.out.2.more (by simp) (fun _ h=>h)),?_⟩
 ·rw[jB,if_neg (by have:=HH.out.2.1;omega),if_neg (by have:=HH.out.2.1;omega),if_neg (by have:=HH.out.2.1;omega),if_neg (by have:=HH.out.2.1;omega),←HR.out.no.1];exact HE.out.1
 ·rw[jB,if_neg (by have:=HH.out.2.1;omega),if_neg (by have:=HH.out.2.1;omega),if_neg (by have:=HH.out.2.1;omega),if_neg (by have:=HH.out.2.1;omega)];exact HH.out.2.2.rok
end
section
set_option maxRecDepth 100000
variable {c:Cfg}{vr vl:Value}{ts:List (Nat × Nat × Nat)}{R:List (List Int)}{L:List (ByteArray × Int)}{T:List S101}{x:S119}{A5 A9 A12 A13:Option Addr}{c5 c9 c12 c13:Nat}{W W':World}
theorem info227:(Tryz.prog.info? 227).map (fun i=>(i.zero,i.size,i.bytes))=ag (ag (.agg #[.string ⟨#[]⟩,.int .u64 0]),2,24):=by kernel_rfl
theorem under96:Tryz.prog.underlying 96=ag (.slice 227):=by kernel_rfl
theorem LD.push (h:LD L){nm:ByteArray}(hn:iL (L.map (·.1)) nm=ac)(v:Int):LD (L++[(nm,v)]):=by
 unfold LD at h ⊢;rw[List.pairwise_append];refine⟨h,List.pairwise_singleton _ _,fun p hp q hq=> ?_⟩;rw[List.mem_singleton.1 hq];unfold iL at hn;rw[List.any_map,List.any_eq_false]at hn;have h1:=hn p hp
 show eqS p.1 nm=ac
 exact Bool.eq_false_iff.2 h1
theorem rloop_set {W1:World}{v1:Value}{p:ByteArray × Int}(h:RAt c vr ts vl R L T W)(hg:W.grownBy W1 vl.ownBlock)(h1:kLp.R 227 W1 c.w0.heap.size (fun _=>True) v1 (L++[p]))(hB:Below c.w0.heap.size c.w0 W1):
 RAt c vr ts v1 R (L++[p]) T (W1.setCell ⟨c.mb,6,ak⟩ v1)/\Kt [98,227] ak W (W1.setCell ⟨c.mb,6,ak⟩ v1)/\W1.cell? ⟨c.mb,6,ak⟩=ag vl/\W1.frozen? ⟨c.mb,6,ak⟩=ac:=by
 obtain⟨vt,hb,hr⟩:=h.eye;have hne:ag c.mb≠vl.ownBlock:=Kd.R_ne h.loops hb (by decide);have hb1:=fV hb hg hne
 have hk:Kt [98,227] ak W W1:=(Kt.refl _ _ _).grown hg fun k hk=>by
  obtain⟨inner,ho⟩:=Kd.mH h.loops;obtain⟨cells,hc⟩:=dO ho k hk;exact⟨cells,227,_,by simp,hc⟩
 have hk2:Kt [98,227] ak W (W1.setCell ⟨c.mb,6,ak⟩ v1):=hk.set hb1 (by simp) 6 v1;exact⟨⟨hB.setCell (p:=⟨c.mb,6,ak⟩) h.base _,h.base,⟨vt,by simpa using bU hb1 6 v1,hk2.row hr (fun q hq=>by rw[E101 hq];simp)⟩,h.rows.kt hk2 (by simp) (by simp),Kd.R_set h1 hb1 (fun q hq=>by rw[E227 hq];decide) 6 _,h.dc⟩,hk2,(aA hb1 6).trans rfl,aH hb1 6⟩
theorem rloop_pop {A:Option Addr}{n cl:Nat}{p:ByteArray × Int}(h:RAt c vr ts (.slice A n cl) R (L++[p]) T W):RAt c vr ts (.slice A L.length cl) R L T (W.setCell ⟨c.mb,6,ak⟩ (.slice A L.length cl))/\Kt [98] ak W (W.setCell ⟨c.mb,6,ak⟩ (.slice A L.length cl))/\W.frozen? ⟨c.mb,6,ak⟩=ac:=by
 obtain⟨vt,hb,hr⟩:=h.eye;have hk:Kt [98] ak W (W.setCell ⟨c.mb,6,ak⟩ (.slice A L.length cl)):=(Kt.refl _ _ _).set hb (by simp) 6 _;have h1:=Kd.R_take h.loops (m:=L.length) (by simp);rw[List.take_left]at h1;exact⟨⟨h.low.setCell (p:=⟨c.mb,6,ak⟩) h.base _,h.base,⟨vt,by simpa using bU hb 6 _,hk.row hr (fun q hq=>by rw[E101 hq];simp)⟩,h.rows.kt hk (by simp) (by simp),Kd.R_set h1 hb (fun q hq=>by rw[E227 hq];decide) 6 _,h.dc⟩,hk,aH hb 6⟩
theorem st4 (hs:SOK c.wd c.ln c.ds)(hk:x.f0=4)(ih:BoR c vr ts x.f6)(H:StIn c vr ts vl R L T x A5 A9 A12 A13 c5 c9 c12 c13 W):lC c vr ts R L T x A5 A9 A12 A13 c5 c9 c12 c13 W:=by
 unfold lC;rw[hk];have HH:=aa (aj hs (aj hk H));obtain⟨X,hX⟩:∃X,X=W.alloc (.cells #[.int .i64 4,.string x.f1,.int .i64 x.f2.f0,.int .u64 x.f2.f1,.string x.f2.f2,.slice A5 x.f2.f3.length c5,.int .i64 x.f3.f0,.int .u64 x.f3.f1,.string x.f3.f2,.slice A9 x.f3.f3.length c9,.int .u64 x.f4,.int .u64 x.f5,.slice A12 x.f6.length c12,.slice A13 x.f7.length c13] 119):=⟨_,rfl⟩
 have hXB:Below W.heap.size W X:=by rw[hX];exact(ar _ _).alloc (aq _) _
 have hbx:X.heap[W.heap.size]? =ag (.cells #[.int .i64 4,.string x.f1,.int .i64 x.f2.f0,.int .u64 x.f2.f1,.string x.f2.f2,.slice A5 x.f2.f3.length c5,.int .i64 x.f3.f0,.int .u64 x.f3.f1,.string x.f3.f2,.slice A9 x.f3.f3.length c9,.int .u64 x.f4,.int .u64 x.f5,.slice A12 x.f6.length c12,.slice A13 x.f7.length c13] 119 (0,0)):=by rw[hX];exact aW _ _
 have HX:=aa (aj (H.m.below hXB) (aj (Kt.of_below hXB [98,101,74,227] ak) hbx));have HNW:=aa (aj (H.tok.new hk) (aj H.tok.own.2.2.1 (aj H.tok.own.2.2.2.1 (aj H.tok.own.2.2.2.2 (H.tok.bounds hk)))));obtain⟨N,hNN⟩:∃N:Nat,N=(x.f5 - x.f4).toNat:=⟨_,rfl⟩
 have hNi:x.f5 - x.f4=(N:Int):=by have:=HNW.out.2.2.2.2;omega
 have SZ:=aa (show T.length+(1+N*(1+bS x.f6))<1073741824 by have h1:=H.len;rw[fX,if_neg (by omega),if_neg (by omega),if_neg (by omega),if_pos hk,←hNN]at h1;exact h1);have HN:=aa (aj hNN (aj hNi hk))
 have HSK:=aa (show ∀w1,Kt [98,101,74,227] ak X w1->w1.cell? ⟨W.heap.size,1,ak⟩=ag (.string x.f1)/\w1.cell? ⟨W.heap.size,11,ak⟩=ag (.int .u64 x.f5)/\w1.cell? ⟨W.heap.size,12,ak⟩=ag (.slice A12 x.f6.length c12) from fun w1 hk=>by
  have g6:=hk.blk _ _ _ _ HX.out.2.2 (by simp)
  exact⟨(aA g6 1).trans rfl,(aA g6 11).trans rfl,(aA g6 12).trans rfl⟩)
 have t10:X.cell? ⟨W.heap.size,10,ak⟩=ag (.int .u64 x.f4):=(aA hbx 10).trans rfl;have HQ0:=aa (show ∃vl',RAt c vr ts vl' ((bu 0).foldl (fun s (i:Nat)=>eO c.wd c.ln c.ds x.f6 (L++[(x.f1,x.f4+(i:Int))]) s) (R,T)).1 L ((bu 0).foldl (fun s (i:Nat)=>eO c.wd c.ln c.ds x.f6 (L++[(x.f1,x.f4+(i:Int))]) s) (R,T)).2 X/\Kt [98,101,74,227] ak X X/\ROK c.ds ((bu 0).foldl (fun s (i:Nat)=>eO c.wd c.ln c.ds x.f6 (L++[(x.f1,x.f4+(i:Int))]) s) (R,T)).1 from⟨vl,HX.out.1,Kt.refl _ _ _,H.rok⟩);have IH:=aa ih;clear hNN hNi ih;clear hs hk H hXB hbx;go_enter Tryz.func117,Tryz.ntmps117
 go_upto_region 16 with (fail)
 rw[←hX];clear hX;go_wp2_with fail;clear t10
 go_loopw [7] (fun i W'=>∃q:Nat,i=.int .u64 (x.f4+(q:Int))/\q<=N/\Aside0 (∃vl',RAt c vr ts vl' ((bu q).foldl (fun s (i:Nat)=>eO c.wd c.ln c.ds x.f6 (L++[(x.f1,x.f4+(i:Int))]) s) (R,T)).1 L ((bu q).foldl (fun s (i:Nat)=>eO c.wd c.ln c.ds x.f6 (L++[(x.f1,x.f4+(i:Int))]) s) (R,T)).2 W'/\Kt [98,101,74,227] ak X W'/\ROK c.ds ((bu q).foldl (fun s (i:Nat)=>eO c.wd c.ln c.ds x.f6 (L++[(x.f1,x.f4+(i:Int))]) s) (R,T)).1)) (fun i _=>N - (intOf i - x.f4).toNat)
 case atStart=>exact⟨0,by rw[Int.natCast_zero,Int.add_zero],bk _,HQ0⟩
 case round=>
  obtain⟨q,rfl,hq,HQ⟩:=hrel;obtain⟨s2,hs2⟩:∃s,s=(bu q).foldl (fun s (i:Nat)=>eO c.wd c.ln c.ds x.f6 (L++[(x.f1,x.f4+(i:Int))]) s) (R,T):=⟨_,rfl⟩;have hsn:s2.2.length<=T.length+q*bS x.f6:=hs2 ▸ qV (f:=fun s (i:Nat)=>eO c.wd c.ln c.ds x.f6 (L++[(x.f1,x.f4+(i:Int))]) s) (fun s i=>gZ _ _ _ _ _ _) q (R,T);obtain⟨v,hv⟩:∃v,v=x.f4+(q:Int):=⟨_,rfl⟩;rw[←hv]
  by_cases hqN:q<N
  ·have HS2:=aa (show(bu (q+1)).foldl (fun s (i:Nat)=>eO c.wd c.ln c.ds x.f6 (L++[(x.f1,x.f4+(i:Int))]) s) (R,T)=eO c.wd c.ln c.ds x.f6 (L++[(x.f1,v)]) s2 from by rw[jz,List.foldl_append,List.foldl_cons,List.foldl_nil,←hs2,hv]);rw[←hs2]at HQ
   have hvu:U64 v:=by have:=HN.out.2.1;have:=HNW.out.2.2.2.1.2.2;have:=HNW.out.2.2.2.1.1.1;constructor <;> omega
   have hvw:IntKind.u64.wrap (v+1)=v+1:=by have:=HN.out.2.1;have:=HNW.out.2.2.2.1.2.2;have:=HNW.out.2.2.2.1.1.1;rw[kC (by omega) (by omega)]
   have hlt:v<x.f5:=by have:=HN.out.2.1;omega
   obtain⟨vl2,hm,hk,hR'⟩:=HQ.out
   have SZ2:=aa (show s2.2.length+bS x.f6<1073741824 from by
    have h1:=SZ.out;have h2:(q+1)*bS x.f6<=N*(1+bS x.f6):=Nat.mul_le_mul hqN (by omega);rw[Nat.succ_mul]at h2
    omega)
   have HD:=aa (show ∀g:G wr,RAt c vr ts vl2 s2.1 L s2.2 g.W from fun g=>hm.below g.below);have HK:=aa (aj hk (aj hR' (aj hv hvu)));obtain⟨-,t11,-⟩:=HSK.out _ hk;have m6:∀g:G wr,g.W.cell? ⟨c.mb,6,ak⟩=ag vl2:=fun g=>(HD.out g).cells.2.2.2.2;have e1:∀g:G wr,g.W.cell? ⟨W.heap.size,1,ak⟩=ag (.string x.f1):=fun g=>(HSK.out _ (hk.trans (Kt.of_below g.below _ _))).1;clear hm hk hR' hs2 hsn hv hvu;go_wp2_with fail;clear t11;refine aG ?_;intro gg;refine eP (n:=14) (S:=fun w'=>∃g':G _,w'=g'.W) (ds:=[10,13]) #[ac,ac,ac,ac,ac,ac,ac,ac,ac,ac,ac,ac,ac,ac] (by kernel_rfl) rfl rfl ⟨mkG (gg.2.drew),rfl⟩ (fun hHeld=> ?_);obtain⟨gd,hgd⟩:=hHeld;rw[hgd];clear hgd;refine aP (i:=0) (N:=ag 83) (v:= ?_) (a':= ?_) #[af,ac,ac,ac,ac,ac,ac,ac,ac,ac,ac,ac,ac,ac] rfl rfl (by kernel_rfl) (fun _ _ _ h=>h) (bc ⟨by rfl,?_⟩) ?_ ?_;rotate_left
   ·intro w';go_simp;with_reducible rfl
   rotate_left
   ·simp only[ay,ae,ah,ai,aJ,aK];rfl
   refine aP (i:=1) (N:=ag 84) (v:= ?_) (a':= ?_) #[af,af,ac,ac,ac,ac,ac,ac,ac,ac,ac,ac,ac,ac] rfl rfl (by kernel_rfl) (fun _ _ _ h=>h) (bc ⟨by rfl,?_⟩) ?_ ?_;rotate_left
   ·intro w';go_simp;with_reducible rfl
   rotate_left
   ·simp only[ay,ae,ah,ai,aJ,aK];rfl
   refine aP (i:=2) (N:=ag 85) (v:= ?_) (a':= ?_) #[af,af,af,ac,ac,ac,ac,ac,ac,ac,ac,ac,ac,ac] rfl rfl (by kernel_rfl) (fun _ _ _ h=>h) (bc ⟨by rfl,?_⟩) ?_ ?_;rotate_left
   ·intro w';go_simp;with_reducible rfl
   rotate_left
   ·simp only[ay,ae,ah,ai,aJ,aK];rfl
   refine aP (i:=3) (N:=ag 86) (v:= ?_) (a':= ?_) #[af,af,af,af,ac,ac,ac,ac,ac,ac,ac,ac,ac,ac] rfl rfl (by kernel_rfl) (fun _ _ _ h=>h) (bc ⟨by rfl,?_⟩) ?_ ?_;rotate_left
   ·intro w';go_simp;with_reducible rfl
   rotate_left
   ·simp only[ay,ae,ah,ai,aJ,aK];rfl
   refine cY (i:=4) (N:=ag 87) (v:= ?_) (a':= ?_) #[af,af,af,af,af,ac,ac,ac,ac,ac,ac,ac,ac,ac] rfl rfl (by kernel_rfl) (fun _ _ _ h=>h) (bc ⟨by rfl,?_⟩) ⟨gd,rfl⟩ ?_ ?_;rotate_left
   ·rintro w' ⟨g',rfl⟩;go_simp;with_reducible rfl
   rotate_left
   ·simp only[ay,ae,ah,ai,aJ,aK];rfl
   refine aP (i:=5) (N:=ag 88) (v:= ?_) (a':= ?_) #[af,af,af,af,af,af,ac,ac,ac,ac,ac,ac,ac,ac] rfl rfl (by kernel_rfl) (fun _ _ _ h=>h) (bc ⟨by rfl,?_⟩) ?_ ?_;rotate_left
   ·intro w';go_simp;with_reducible rfl
   rotate_left
   ·simp only[ay,ae,ah,ai,aJ,aK];rfl
   refine cY (i:=6) (N:=ag 89) (v:= ?_) (a':= ?_) #[af,af,af,af,af,af,af,ac,ac,ac,ac,ac,ac,ac] rfl rfl (by kernel_rfl) (fun _ _ _ h=>h) (bc ⟨by rfl,?_⟩) ⟨gd,rfl⟩ ?_ ?_;rotate_left
   ·rintro w' ⟨g',rfl⟩;go_simp;with_reducible rfl
   rotate_left
   ·simp only[ay,ae,ah,ai,aJ,aK];rfl
   refine aP (i:=7) (N:=ag 90) (v:= ?_) (a':= ?_) #[af,af,af,af,af,af,af,af,ac,ac,ac,ac,ac,ac] rfl rfl (by kernel_rfl) (fun _ _ _ h=>h) (bc ⟨by rfl,?_⟩) ?_ ?_;rotate_left
   ·intro w';go_simp;with_reducible rfl
   rotate_left
   ·simp only[ay,ae,ah,ai,aJ,aK];rfl
   refine aP (i:=8) (N:=ag 91) (v:= ?_) (a':= ?_) #[af,af,af,af,af,af,af,af,af,ac,ac,ac,ac,ac] rfl rfl (by kernel_rfl) (fun _ _ _ h=>h) (bc ⟨by rfl,?_⟩) ?_ ?_;rotate_left
   ·intro w';go_simp;with_reducible rfl
   rotate_left
   ·simp only[ay,ae,ah,ai,aJ,aK];rfl
   refine kH (i:=9) (N:=ag 92) #[af,af,af,af,af,af,af,af,af,af,ac,ac,ac,ac] rfl rfl (by kernel_rfl) (by simp) (fun Kr hKr=> ?_);refine eC (v:=.slice (ag ⟨gd.W.heap.size,0,ak⟩) 1 1) (w1:=gd.W.alloc (.cells #[.string x.f1,.int .u64 v] 227)) (by rfl) (by first | (go_simp;done) | (go_simp;rfl)) ?_;refine hKr.out _ _ ⟨mkG (G.ball gd _),rfl⟩ (fun _=> ?_);clear hKr Kr;refine cW (a':= ?_) ?_ ?_;rotate_left
   ·show ay _ (ag 92) _ = _
    simp only[ay,ae,ah,ai,aJ,aK];rfl
   refine o4 (i:=10) (N:=ag 93) #[af,af,af,af,af,af,af,af,af,af,af,ac,ac,ac] rfl rfl (by kernel_rfl) (by simp) (fun Kr hKr=> ?_);refine Kd.iJ kLp (w0:=c.w0) c.w0.heap.size (by rfl) (.tmp 87) (.tmp 92) 96 227 (.agg #[.string ⟨#[]⟩,.int .u64 0]) 24 rfl under96 info227 rfl (show 0<2 by decide) (by decide) vl2 L (x.f1,v) [.string x.f1,.int .u64 v] (fun _=>True) (fun _=>False) (by rfl) (by rfl) (kLp_mkM _ _ _ _) (fun _ h=>h.elim) (fun _ _=>trivial) (HD.out gd).loops (HD.out gd).low (HD.out gd).low.size (by have:=HNW.out.2.2.1;omega) ?_;intro v1 w1 hr1 hb1 hg1 hat1;have HE:=aa (rloop_set (HD.out gd) hg1 hr1 hb1);have y0:=HE.out.2.2.1;have y1:=HE.out.2.2.2;clear hb1 hg1 hat1;obtain⟨A1,k1,rfl⟩:=Kd.bN hr1;rw[show(L++[(x.f1,v)]).length=L.length+1 from by simp]at HE ⊢;clear hr1;refine hKr.out _ _ ?_;clear hKr Kr;refine cW (a':= ?_) ?_ ?_;rotate_left
   ·show ay _ (ag 93) _ = _
    simp only[ay,ae,ah,ai,aJ,aK];rfl
   refine aP (i:=11) (N:=ag 94) (v:= ?_) (a':= ?_) #[af,af,af,af,af,af,af,af,af,af,af,af,ac,ac] rfl rfl (by kernel_rfl) (fun _ _ _ h=>h) (bc ⟨by rfl,?_⟩) ?_ ?_;rotate_left
   ·intro w';go_simp;with_reducible rfl
   rotate_left
   ·simp only[ay,ae,ah,ai,aJ,aK];rfl
   refine aP (i:=12) (N:=ag 95) (v:= ?_) (a':= ?_) #[af,af,af,af,af,af,af,af,af,af,af,af,af,ac] rfl rfl (by kernel_rfl) (fun _ _ _ h=>h) (bc ⟨by rfl,?_⟩) ?_ ?_;rotate_left
   ·intro w';go_simp;with_reducible rfl
   rotate_left
   ·simp only[ay,ae,ah,ai,aJ,aK];rfl
   refine o4 (i:=13) (N:=ak) #[af,af,af,af,af,af,af,af,af,af,af,af,af,af] rfl rfl (by kernel_rfl) (by simp) (fun Kr hKr=> ?_);refine skip_ (w1:=w1.setCell ⟨c.mb,6,ak⟩ (.slice A1 (L.length+1) k1)) (by rfl) rfl (by first | (go_simp;done) | (go_simp;rfl)) ?_;refine hKr.out _ _ ?_;clear hKr Kr;refine iF (by kernel_rfl) ?_;clear y0 y1 m6 e1;have HG:=aa (HK.out.1.trans ((Kt.of_below gd.below _ _).trans (HE.out.2.1.more (by simp) (fun _ h=>h))));obtain⟨-,-,t12⟩:=HSK.out _ HG.out;go_wp2_with fail
   refine(IH.out _ _ s2.1 (L++[(x.f1,v)]) s2.2 A12 c12 HE.out.1 HK.out.2.1 (fun p hp=>by
    rcases fk.1 hp with hp | hp
    ·exact HH.out.2.2.lok p hp
    ·rw[List.mem_singleton.1 hp];exact HK.out.2.2.2) (HH.out.2.2.ld.push HNW.out.1 v) (fun z hz=>HH.out.2.2.tok.loop HN.out.2.2 v hz) SZ2.out HH.out.2.2.a12.2 HH.out.2.2.a12.1).mono ?_
   rintro _ w6 ⟨rfl,hd6⟩;clear t12;obtain⟨vl6,hd6b⟩:=hd6.1;obtain⟨g6,c6,e6,-⟩:=Kd.R_form hd6b.loops (by simp);rw[ba,bq]at e6;obtain⟨n5,h5⟩:∃n,n=L.length:=⟨_,rfl⟩;rw[e6]at hd6b
   have HPP:=aa (show ∀g:G w6,RAt c vr ts (.slice (ag ⟨g6,0,ak⟩) L.length c6) (eO c.wd c.ln c.ds x.f6 (L++[(x.f1,v)]) s2).1 L (eO c.wd c.ln c.ds x.f6 (L++[(x.f1,v)]) s2).2 (g.W.setCell ⟨c.mb,6,ak⟩ (.slice (ag ⟨g6,0,ak⟩) L.length c6))/\Kt [98,101,74,227] ak X (g.W.setCell ⟨c.mb,6,ak⟩ (.slice (ag ⟨g6,0,ak⟩) L.length c6)) from fun g=>by
    have h:=rloop_pop (hd6b.below g.below)
    exact⟨h.1,((HG.out.trans hd6.2.1).trans (Kt.of_below g.below _ _)).trans (h.2.1.more (by simp) (fun _ h=>h))⟩)
   have f66:∀g:G w6,g.W.frozen? ⟨c.mb,6,ak⟩=ac:=fun g=>(rloop_pop (hd6b.below g.below)).2.2;have m6:∀g:G w6,g.W.cell? ⟨c.mb,6,ak⟩=ag (.slice (ag ⟨g6,0,ak⟩) (L.length+1) c6):=fun g=>(hd6b.below g.below).cells.2.2.2.2;have i0:L.length+1<=c6:=(Kd.qM hd6b.loops).2.1;rw[←h5]at m6 HPP i0;have HRK:=aa hd6.2.2
   have i1:(n5:Int)<65:=by have:=HNW.out.2.2.1;omega
   have i2:(0:Int)<=(n5:Int):=by omega
   have i3:(n5:Int)<=(c6:Int):=by omega
   have i4:¬c6=0:=by omega
   have i5:0<c6:=by omega
   have i7:n5<=c6:=by omega
   have i6:wrap64 (n5:Int)=(n5:Int):=by unfold wrap64;omega
   clear hd6 hd6b e6 h5;go_wp2_with fail;refine aG ?_;intro gg;refine eP (n:=15) (S:=fun w'=>∃g':G _,w'=g'.W) (ds:=[14]) #[ac,ac,ac,ac,ac,ac,ac,ac,ac,ac,ac,ac,ac,ac,ac] (by kernel_rfl) rfl rfl ⟨mkG (gg.2.drew),rfl⟩ (fun hHeld=> ?_);obtain⟨gd,hgd⟩:=hHeld;rw[hgd];clear hgd;refine aP (i:=0) (N:=ag 100) (v:= ?_) (a':= ?_) #[af,ac,ac,ac,ac,ac,ac,ac,ac,ac,ac,ac,ac,ac,ac] rfl rfl (by kernel_rfl) (fun _ _ _ h=>h) (bc ⟨by rfl,?_⟩) ?_ ?_;rotate_left
   ·intro w';go_simp;with_reducible rfl
   rotate_left
   ·simp only[ay,ae,ah,ai,aJ,aK];rfl
   refine aP (i:=1) (N:=ag 101) (v:= ?_) (a':= ?_) #[af,af,ac,ac,ac,ac,ac,ac,ac,ac,ac,ac,ac,ac,ac] rfl rfl (by kernel_rfl) (fun _ _ _ h=>h) (bc ⟨by rfl,?_⟩) ?_ ?_;rotate_left
   ·intro w';go_simp;with_reducible rfl
   rotate_left
   ·simp only[ay,ae,ah,ai,aJ,aK];rfl
   refine aP (i:=2) (N:=ag 102) (v:= ?_) (a':= ?_) #[af,af,af,ac,ac,ac,ac,ac,ac,ac,ac,ac,ac,ac,ac] rfl rfl (by kernel_rfl) (fun _ _ _ h=>h) (bc ⟨by rfl,?_⟩) ?_ ?_;rotate_left
   ·intro w';go_simp;with_reducible rfl
   rotate_left
   ·simp only[ay,ae,ah,ai,aJ,aK];rfl
   refine aP (i:=3) (N:=ag 103) (v:= ?_) (a':= ?_) #[af,af,af,af,ac,ac,ac,ac,ac,ac,ac,ac,ac,ac,ac] rfl rfl (by kernel_rfl) (fun _ _ _ h=>h) (bc ⟨by rfl,?_⟩) ?_ ?_;rotate_left
   ·intro w';go_simp;with_reducible rfl
   rotate_left
   ·simp only[ay,ae,ah,ai,aJ,aK];rfl
   refine cY (i:=4) (N:=ag 104) (v:= ?_) (a':= ?_) #[af,af,af,af,af,ac,ac,ac,ac,ac,ac,ac,ac,ac,ac] rfl rfl (by kernel_rfl) (fun _ _ _ h=>h) (bc ⟨by rfl,?_⟩) ⟨gd,rfl⟩ ?_ ?_;rotate_left
   ·rintro w' ⟨g',rfl⟩;go_simp;with_reducible rfl
   rotate_left
   ·simp only[ay,ae,ah,ai,aJ,aK];rfl
   refine aP (i:=5) (N:=ag 105) (v:= ?_) (a':= ?_) #[af,af,af,af,af,af,ac,ac,ac,ac,ac,ac,ac,ac,ac] rfl rfl (by kernel_rfl) (fun _ _ _ h=>h) (bc ⟨by rfl,?_⟩) ?_ ?_;rotate_left
   ·intro w';go_simp;with_reducible rfl
   rotate_left
   ·simp only[ay,ae,ah,ai,aJ,aK];rfl
   refine aP (i:=6) (N:=ag 106) (v:= ?_) (a':= ?_) #[af,af,af,af,af,af,af,ac,ac,ac,ac,ac,ac,ac,ac] rfl rfl (by kernel_rfl) (fun _ _ _ h=>h) (bc ⟨by rfl,?_⟩) ?_ ?_;rotate_left
   ·intro w';go_simp;with_reducible rfl
   rotate_left
   ·simp only[ay,ae,ah,ai,aJ,aK];rfl
   refine aP (i:=7) (N:=ag 107) (v:= ?_) (a':= ?_) #[af,af,af,af,af,af,af,af,ac,ac,ac,ac,ac,ac,ac] rfl rfl (by kernel_rfl) (fun _ _ _ h=>h) (bc ⟨by rfl,?_⟩) ?_ ?_;rotate_left
   ·intro w';go_simp;with_reducible rfl
   rotate_left
   ·simp only[ay,ae,ah,ai,aJ,aK];rfl
   refine cY (i:=8) (N:=ag 108) (v:= ?_) (a':= ?_) #[af,af,af,af,af,af,af,af,af,ac,ac,ac,ac,ac,ac] rfl rfl (by kernel_rfl) (fun _ _ _ h=>h) (bc ⟨by rfl,?_⟩) ⟨gd,rfl⟩ ?_ ?_;rotate_left
   ·rintro w' ⟨g',rfl⟩;go_simp;with_reducible rfl
   rotate_left
   ·simp only[ay,ae,ah,ai,aJ,aK];rfl
   refine aP (i:=9) (N:=ag 109) (v:= ?_) (a':= ?_) #[af,af,af,af,af,af,af,af,af,af,ac,ac,ac,ac,ac] rfl rfl (by kernel_rfl) (fun _ _ _ h=>h) (bc ⟨by rfl,?_⟩) ?_ ?_;rotate_left
   ·intro w';go_simp;with_reducible rfl
   rotate_left
   ·simp only[ay,ae,ah,ai,aJ,aK];rfl
   refine aP (i:=10) (N:=ag 110) (v:= ?_) (a':= ?_) #[af,af,af,af,af,af,af,af,af,af,af,ac,ac,ac,ac] rfl rfl (by kernel_rfl) (fun _ _ _ h=>h) (bc ⟨by rfl,?_⟩) ?_ ?_;rotate_left
   ·intro w';go_simp;with_reducible rfl
   rotate_left
   ·simp only[ay,ae,ah,ai,aJ,aK];rfl
   refine aP (i:=11) (N:=ag 111) (v:= ?_) (a':= ?_) #[af,af,af,af,af,af,af,af,af,af,af,af,ac,ac,ac] rfl rfl (by kernel_rfl) (fun _ _ _ h=>h) (bc ⟨by rfl,?_⟩) ?_ ?_;rotate_left
   ·intro w';go_simp;with_reducible rfl
   rotate_left
   ·simp only[ay,ae,ah,ai,aJ,aK];rfl
   refine aP (i:=12) (N:=ag 112) (v:= ?_) (a':= ?_) #[af,af,af,af,af,af,af,af,af,af,af,af,af,ac,ac] rfl rfl (by kernel_rfl) (fun _ _ _ h=>h) (bc ⟨by rfl,?_⟩) ?_ ?_;rotate_left
   ·intro w';go_simp;with_reducible rfl
   rotate_left
   ·simp only[ay,ae,ah,ai,aJ,aK];rfl
   refine aP (i:=13) (N:=ag 113) (v:= ?_) (a':= ?_) #[af,af,af,af,af,af,af,af,af,af,af,af,af,af,ac] rfl rfl (by kernel_rfl) (fun _ _ _ h=>h) (bc ⟨by rfl,?_⟩) ?_ ?_;rotate_left
   ·intro w';go_simp;with_reducible rfl
   rotate_left
   ·simp only[ay,ae,ah,ai,aJ,aK];rfl
   refine o4 (i:=14) (N:=ak) #[af,af,af,af,af,af,af,af,af,af,af,af,af,af,af] rfl rfl (by kernel_rfl) (by simp) (fun Kr hKr=> ?_);refine skip_ (w1:=gd.W.setCell ⟨c.mb,6,ak⟩ (.slice (ag ⟨g6,0,ak⟩) n5 c6)) (by rfl) rfl (by first | (go_simp;done) | (go_simp;rfl)) ?_;refine hKr.out _ _ ?_;clear hKr Kr;refine iF (by kernel_rfl) ?_
   have HE:=aa (show ∃vl',RAt c vr ts vl' ((bu (q+1)).foldl (fun s (i:Nat)=>eO c.wd c.ln c.ds x.f6 (L++[(x.f1,x.f4+(i:Int))]) s) (R,T)).1 L ((bu (q+1)).foldl (fun s (i:Nat)=>eO c.wd c.ln c.ds x.f6 (L++[(x.f1,x.f4+(i:Int))]) s) (R,T)).2 (gd.W.setCell ⟨c.mb,6,ak⟩ (.slice (ag ⟨g6,0,ak⟩) n5 c6))/\Kt [98,101,74,227] ak X (gd.W.setCell ⟨c.mb,6,ak⟩ (.slice (ag ⟨g6,0,ak⟩) n5 c6))/\ROK c.ds ((bu (q+1)).foldl (fun s (i:Nat)=>eO c.wd c.ln c.ds x.f6 (L++[(x.f1,x.f4+(i:Int))]) s) (R,T)).1 from by
    rw[HS2.out]
    exact⟨_,(HPP.out gd).1,(HPP.out gd).2,HRK.out⟩)
   clear m6 f66 i0 i1 i2 i3 i4 i5 i6 i7;go_wp2_with fail
   have hqv:v+1=x.f4+((q+1:Nat):Int):=by have:=HK.out.2.2.1;rw[this,kz];omega
   refine⟨⟨q+1,by rw[hqv],by omega,HE⟩,?_⟩;rw[hqv];simp[intOf];omega
  ·have hqN':q=N:=by omega
   have HV:=aa (aj hv (aj hs2 hqN'))
   have hge:¬v<x.f5:=by have:=HN.out.2.1;omega
   obtain⟨vl2,hm,hk,hR'⟩:=HQ.out;have HE:=aa (aj hm (aj hk hR'));obtain⟨-,t11,-⟩:=HSK.out _ hk;clear hm hk hR' hs2 hsn hv hqN';go_wp2_with fail;go_end0;refine⟨rfl,?_⟩;rw[jB,if_neg (by have:=HH.out.2.1;omega),if_neg (by have:=HH.out.2.1;omega),if_neg (by have:=HH.out.2.1;omega),if_pos HH.out.2.1,←HN.out.1,←HV.out.2.2];exact⟨⟨_,HE.out.1⟩,HX.out.2.1.trans HE.out.2.1,HE.out.2.2⟩
end
section
set_option maxRecDepth 100000
variable {c:Cfg}{vr vl:Value}{ts:List (Nat × Nat × Nat)}{R:List (List Int)}{L:List (ByteArray × Int)}{T:List S101}{x:S119}{A5 A9 A12 A13:Option Addr}{c5 c9 c12 c13:Nat}{W W':World}
theorem st_calls (hs:SOK c.wd c.ln c.ds)(ih6:BoR c vr ts x.f6)(ih7:BoR c vr ts x.f7)(H:StIn c vr ts vl R L T x A5 A9 A12 A13 c5 c9 c12 c13 W):lC c vr ts R L T x A5 A9 A12 A13 c5 c9 c12 c13 W:=by
 have h1:=H.tok.own.1;have h2:=H.tok.own.2.1
 have hk:x.f0=1\/x.f0=2\/x.f0=3\/x.f0=4\/x.f0=5:=by omega
 rcases hk with hk | hk | hk | hk | hk
 ·exact st1 hs hk H
 ·exact st2 hs hk H
 ·exact st3 hs hk ih6 ih7 H
 ·exact st4 hs hk ih6 H
 ·exact st5 hs hk H
theorem does_walk (hs:SOK c.wd c.ln c.ds)(l:List S119)(ih:∀x∈l,BoR c vr ts x.f6/\BoR c vr ts x.f7):BoR c vr ts l:=by
 intro W vl R L T A cap hM hR hL hD hT hlen hC hcap;obtain⟨n,hn⟩:∃n,n=l.length:=⟨_,rfl⟩;rw[←hn]at hC hcap ⊢;have HS:=aa (aj hs (aj hL (aj hD (aj hT (aj hlen (aj hC hn))))));have IH:=aa ih
 have hnb:n<1073741824:=by have:=sizeB_len l;omega
 have HM0:=aa (show RGot c vr ts L (eO c.wd c.ln c.ds (l.take 0) L (R,T)) W W from by
  rw[jx,eO];exact⟨⟨vl,hM⟩,Kt.refl _ _ _,hR⟩)
 clear hM hR hL hD hT hlen hC hcap hs ih hn;go_enter Tryz.func69,Tryz.ntmps69;go_wp2_with fail
 go_loopw [4] (fun i W'=>∃j:Nat,i=.int .i64 j/\j<=n/\Aside0 (RGot c vr ts L (eO c.wd c.ln c.ds (l.take j) L (R,T)) W W')) (fun i _=>n - (intOf i).toNat)
 case atStart=>exact⟨0,rfl,bk _,HM0⟩
 case round=>
  obtain⟨j,rfl,hj,HK⟩:=hrel
  by_cases hlt:j<n
  ·have hlt2:(j:Int)<(n:Int):=by omega
   obtain⟨ad,A5,c5,A9,c9,A12,c12,A13,c13,e1,q0,q1,q2,q3,q4,q5,q6,q7,q8,q9,q10,q11,q12,q13,l5,g5,l9,g9,l12,g12,l13,g13⟩:=jX HS.out.2.2.2.2.2.1 (j:Int) (by omega) (by omega);cases e1;rw[ax]at q0 q1 q2 q3 q4 q5 q6 q7 q8 q9 q10 q11 q12 q13
   have hj0:j<l.length:=by rw[←HS.out.2.2.2.2.2.2];exact hlt
   have MEM:=j5 hj0;have TK:=e9 hj0;obtain⟨y,hy⟩:∃y,y=aR l (j:Int):=⟨_,rfl⟩;rw[←hy]at q0 q1 q2 q3 q4 q5 q6 q7 q8 q9 q10 q11 q12 q13 MEM TK l5 g5 l9 g9 l12 g12 l13 g13;obtain⟨⟨vl2,hm⟩,hk,hr⟩:=HK.out;have p0:=aE hm.low q0;have p1:=aE hm.low q1;have p2:=aE hm.low q2;have p3:=aE hm.low q3;have p4:=aE hm.low q4;have p5:=aE hm.low q5;have p6:=aE hm.low q6;have p7:=aE hm.low q7;have p8:=aE hm.low q8;have p9:=aE hm.low q9;have p10:=aE hm.low q10;have p11:=aE hm.low q11;have p12:=aE hm.low q12;have p13:=aE hm.low q13;have TK2:=congrArg (fun l=>eO c.wd c.ln c.ds l L (R,T)) TK;simp only[exSs_app,exSs_one]at TK2;have TW:=congrArg bS TK;rw[nT]at TW;have hsl:(eO c.wd c.ln c.ds (l.take j) L (R,T)).2.length<=T.length+bS (l.take j):=gZ c.wd c.ln c.ds (l.take j) L (R,T)
   have hlen:(eO c.wd c.ln c.ds (l.take j) L (R,T)).2.length+sizeT y<1073741824:=by
    have h1:=HS.out.2.2.2.2.1;have h2:=sizeB_take l (j+1);omega
   have HX:=aa (show lC c vr ts (eO c.wd c.ln c.ds (l.take j) L (R,T)).1 L (eO c.wd c.ln c.ds (l.take j) L (R,T)).2 y A5 A9 A12 A13 c5 c9 c12 c13 wr from st_calls HS.out.1 (IH.out y MEM).1 (IH.out y MEM).2 ⟨hm,hr,HS.out.2.1,HS.out.2.2.1,HS.out.2.2.2.1 y MEM,hlen,⟨l5,g5⟩,⟨l9,g9⟩,⟨l12,g12⟩,⟨l13,g13⟩⟩);have HT:=aa (aj hk TK2);clear q0 q1 q2 q3 q4 q5 q6 q7 q8 q9 q10 q11 q12 q13 l5 g5 l9 g9 l12 g12 l13 g13 hy TW hsl MEM TK TK2 hlen hj0 hm hk hr;go_wp2_with fail;refine HX.out.mono ?_;rintro _ w1 ⟨rfl,h1⟩
   have HE:=aa (show RGot c vr ts L (eO c.wd c.ln c.ds (l.take (j+1)) L (R,T)) W w1 from by
    rw[HT.out.2]
    exact⟨h1.1,HT.out.1.trans h1.2.1,h1.2.2⟩)
   clear h1 p0 p1 p2 p3 p4 p5 p6 p7 p8 p9 p10 p11 p12 p13;go_wp2_with fail
   first
   | (refine⟨⟨j+1,show _ =bh .i64 ((j+1:Nat):Int) from by go_num,by omega,HE⟩,by simp[intOf];omega⟩)
   | (go_roundw
      case measure=>simp[intOf];omega
      case rel=>exact⟨j+1,show _ =bh .i64 ((j+1:Nat):Int) from by go_num,by omega,HE⟩)
  ·have hge:¬(j:Int)<(n:Int):=by omega
   have hjn:j=l.length:=by have:=HS.out.2.2.2.2.2.2;omega
   have hK:=HK.out;rw[hjn,eu]at hK;have HE:=aa hK;clear hK;go_wp2_with fail
   first | go_end0 | skip
   exact⟨rfl,HE.out⟩
theorem does_calls (hs:SOK c.wd c.ln c.ds):∀(n:Nat) (l:List S119),cz l<=n->BoR c vr ts l:=by
 intro n
 induction n with
 |zero=>
  intro l h
  cases l with
  |nil=>exact does_walk hs [] (fun x hx=>by cases hx)
  |cons x r=>simp at h
 |succ n ih=>
  intro l h;refine does_walk hs l fun x hx=> ?_;have h1:=gq hx;obtain⟨a,s,e,f,lo,hi,th,el⟩:=x;simp only[S119.mk.sizeOf_spec]at h1;exact⟨ih th (by omega),ih el (by omega)⟩
end
section
set_option maxRecDepth 100000
theorem rI:Tryz.prog.underlying 30=ag (.slice 4):=by kernel_rfl
theorem dE (nm:ByteArray)(wd ln:Int)(ds:List S70)(bd:List S119):((bC nm wd ln ds bd).e=0->dH nm wd ln ds bd=(fI ds ds.length,0))/\(¬(bC nm wd ln ds bd).e=0->dH nm wd ln ds bd=([],(bC nm wd ln ds bd).e)):=by
 unfold dH;exact⟨fun h=>if_pos h,fun h=>if_neg h⟩
theorem jD (nm:ByteArray)(wd ln:Int)(ds:List S70)(bd:List S119)(A3:Option Addr)(c3:Nat)(A4:Option Addr)(c4:Nat)(W:World)(hp:ProgAt W ds bd A3 c3 A4 c4)(hg:PGood nm wd ln ds bd):
 Calls au 19 #[.agg #[.string nm,.int .i64 wd,.int .i64 ln,.slice A3 ds.length c3,.slice A4 bd.length c4]] W fun e W'=>∃v,e=.returned (.tuple #[v,.int .i64 (dH nm wd ln ds bd).2])/\Kd.bool.R 4 W' W.heap.size (fun _=>True) v (dH nm wd ln ds bd).1/\Below W.heap.size W W':=by
 obtain⟨xb,hxb⟩:∃b,b=W.heap.size:=⟨_,rfl⟩;obtain⟨n,hn⟩:∃n,n=ds.length:=⟨_,rfl⟩;obtain⟨X,hX⟩:∃X,X=W.alloc (.cells #[.string nm,.int .i64 wd,.int .i64 ln,.slice A3 ds.length c3,.slice A4 bd.length c4] 25):=⟨_,rfl⟩
 have hXB:Below W.heap.size W X:=by rw[hX];exact(ar _ _).alloc (aq _) _
 have hbx:X.heap[xb]? =ag (.cells #[.string nm,.int .i64 wd,.int .i64 ln,.slice A3 ds.length c3,.slice A4 bd.length c4] 25 (0,0)):=by rw[hX,hxb];exact aW _ _
 obtain⟨r,hr⟩:∃r,r=bC nm wd ln ds bd:=⟨_,rfl⟩;have HCK:=aa (refCheck_calls nm wd ln ds bd A3 c3 A4 c4 X (hp.below hXB) hg r hr)
 have hn1:n<=1048576:=by rw[hn];exact hg.sizes.1
 have hd:=hp.hd;rw[←hn]at HCK hbx hX hd ⊢;have HX:=aa (aj hXB (aj hbx (aj hd (aj hn (aj hr hxb)))));have HXE:=aa (aj hX hxb);have x0:X.cell? ⟨xb,0,ak⟩=ag (.string nm):=(aA hbx 0).trans rfl;have x1:X.cell? ⟨xb,1,ak⟩=ag (.int .i64 wd):=(aA hbx 1).trans rfl;have x2:X.cell? ⟨xb,2,ak⟩=ag (.int .i64 ln):=(aA hbx 2).trans rfl;have x3:X.cell? ⟨xb,3,ak⟩=ag (.slice A3 n c3):=(aA hbx 3).trans rfl;have x4:X.cell? ⟨xb,4,ak⟩=ag (.slice A4 bd.length c4):=(aA hbx 4).trans rfl;clear hp hg hX hxb hXB hbx hr hd hn;go_enter Tryz.func19,Tryz.ntmps19
 go_upto_region 1 with (fail)
 rw[←HXE.out.1,←HXE.out.2];go_wp2_with fail;refine HCK.out.mono ?_;rintro _ w1 ⟨rfl,hb1⟩;have H1:=aa hb1;clear x0 x1 x2 x3 x4 hb1
 by_cases he:r.e=0
 ·have HF:=aa (show(bC nm wd ln ds bd).e=0 from by rw[←HX.out.2.2.2.2.1];exact he);have he0:(r.e==0)=af:=beq_iff_eq.2 he;go_wp2_with fail
  go_loopw [5,6] (fun o i W'=>∃(k:Nat) (vo:Value),vo=o/\i=.int .i64 k/\k<=n/\Aside0 (Below X.heap.size X W'/\Kd.bool.R 4 W' X.heap.size (fun _=>True) vo (fI ds k))) (fun _ i _=>n - (intOf i).toNat)
  case atStart=>exact⟨0,_,rfl,rfl,bk _,⟨H1.out,Kd.iG _ _ _ _ _⟩⟩
  case round=>
   obtain⟨k,vo,rfl,rfl,hk,HB⟩:=hrel;have x3:wr.cell? ⟨xb,3,ak⟩=ag (.slice A3 n c3):=(aA (aB HX.out.2.1 HB.out.1) 3).trans rfl
   by_cases hlt:k<n
   ·have hlt2:(k:Int)<(n:Int):=by omega
    have hw0:=HX.out.1.trans (HB.out.1.mono HX.out.1.size);obtain⟨ad,A9,c9,e1,q0,q1,q2,q3,l9,g9⟩:=eD HX.out.2.2.1 (k:Int) (by omega) (by omega);cases e1;rw[ax]at q0 q1 q2 q3
    have hkd:k<ds.length:=by rw[←HX.out.2.2.2.1];exact hlt
    have RD:=cJ HF.out k hkd;have PL:=fU (fun i hi=>cJ HF.out i hi) k (Nat.le_of_lt hkd);obtain⟨d,hd⟩:∃d,d=aI ds (k:Int):=⟨_,rfl⟩
    have PS:fI ds (k+1)=fI ds k++pubD d:=by rw[hd];rfl
    rw[←hd]at q0 q1 q2 q3 l9 g9 RD;have p0:=aE hw0 q0;have p1:=aE hw0 q1;have p2:=aE hw0 q2;have p3:=aE hw0 q3;obtain⟨wn,w2,w3⟩:=iI RD.2;obtain⟨nw,hnw⟩:=ew (show 0<=cT d by omega);obtain⟨Wi,hWi⟩:∃Wi,Wi=wr.alloc (.cells #[.int .i64 d.f0,.string d.f1,.int .i64 d.f2,.slice A9 d.f3.length c9] 70):=⟨_,rfl⟩;obtain⟨gb,hgb⟩:∃b,b=wr.heap.size:=⟨_,rfl⟩
    have hWB:Below wr.heap.size wr Wi:=by rw[hWi];exact(ar _ _).alloc (aq _) _
    have hbw:Wi.heap[gb]? =ag (.cells #[.int .i64 d.f0,.string d.f1,.int .i64 d.f2,.slice A9 d.f3.length c9] 70 (0,0)):=by rw[hWi,hgb];exact aW _ _
    have hXW:=HB.out.1.trans (hWB.mono HB.out.1.size);have HW:=aa (aj hXW (aj hbw (aj (Kd.bF HB.out.2 hWB) (aj g9 (aj l9 (aj hnw.symm (aj RD.2 (aj PS PL))))))));have hk0:=RD.1
    have hnw1:nw<=256:=by omega
    have PLK:=aa (show(fI ds k).length<=268435456 by omega);clear q0 q1 q2 q3 l9 g9 hd hkd RD PS PL wn w2 w3 hnw hWB hbw hXW hw0
    go_upto_region 9 with (fail)
    rw[←hgb];rw[←hWi];clear hWi hgb p0 p1 p2 p3 x3;obtain⟨b,hbb⟩:∃b,(d.f0==1)=b:=⟨_,rfl⟩;have HBB:=aa hbb;go_wp2_with fail
    go_loopw [5,8] (fun o j W'=>∃(m:Nat) (vl:Value),vl=o/\j=.int .i64 m/\m<=nw/\Aside0 ((m=0\/d.f0<=2)/\Kt [4] ak Wi W'/\Below X.heap.size X W'/\Kd.bool.R 4 W' X.heap.size (fun _=>True) vl (fI ds k++bg m b))) (fun _ j _=>nw - (intOf j).toNat)
    case atStart=>exact⟨0,_,rfl,rfl,bk _,⟨.inl rfl,Kt.refl _ _ _,HW.out.1,by rw[List.replicate_zero,ed];exact HW.out.2.2.1⟩⟩
    case round=>
     obtain⟨m,vl,rfl,rfl,hm,HI⟩:=hrel;have HB2:=aa (show ∀g:G wr,g.W.heap[gb]? =ag (.cells #[.int .i64 d.f0,.string d.f1,.int .i64 d.f2,.slice A9 d.f3.length c9] 70 (0,0)) from fun g=>aB (HI.out.2.1.blk _ _ _ _ HW.out.2.1 (by simp)) g.below);have HB3:=aa (show ∀g:G wr,Below X.heap.size X g.W from fun g=>HI.out.2.2.1.trans (g.below.mono HI.out.2.2.1.size));have b0:∀g:G wr,g.W.cell? ⟨gb,0,ak⟩=ag (.int .i64 d.f0):=fun g=>(aA (HB2.out g) 0).trans rfl;have b1:∀g:G wr,g.W.cell? ⟨gb,1,ak⟩=ag (.string d.f1):=fun g=>(aA (HB2.out g) 1).trans rfl;have b2:∀g:G wr,g.W.cell? ⟨gb,2,ak⟩=ag (.int .i64 d.f2):=fun g=>(aA (HB2.out g) 2).trans rfl;have b3:∀g:G wr,g.W.cell? ⟨gb,3,ak⟩=ag (.slice A9 d.f3.length c9):=fun g=>(aA (HB2.out g) 3).trans rfl;refine aG ?_;intro gg;go_wp2_with fail;refine(aD (g:=gg) (refWords_v HW.out.2.2.2.2.2.2.1 HW.out.2.2.2.2.2.1 A9 c9 gg.W (Kd.aF HW.out.2.2.2.1 (HX.out.1.trans ((HB3.out gg).mono HX.out.1.size))) HW.out.2.2.2.2.1)).mono ?_;rintro _ _ ⟨rfl,gg,rfl⟩
     by_cases hmn:m<nw/\d.f0<=2
     ·have hm2:(m:Int)<(nw:Int):=by omega
      have k2:=hmn.2;have LEN:=aa (show((fI ds k++bg m b).length+1)*1<=140737488355328 by have:=PLK.out;simp;omega);have HM:=aa hmn;clear hmn
      go_wp2_with (at_builtin;refine Kd.cX Kd.bool (w0:=X) X.heap.size rfl (.tmp 37) (.tmp 41) 30 4 (.bool ac) 1 rfl rI info4 rfl (by decide) (by decide) vl (fI ds k++bg m b) b [.bool b] (fun _=>True) (fun _=>False) rfl rfl rfl (fun _ h=>h.elim) (fun _ _=>trivial) (Kd.bF HI.out.2.2.2 gg.below) (HB3.out gg) (HB3.out gg).size LEN.out ?_)
      intro v1 u1 hr1 hb1 hg1 hat1
      have HN:=aa (show(m+1=0\/d.f0<=2)/\Kt [4] ak Wi u1/\Below X.heap.size X u1/\Kd.bool.R 4 u1 X.heap.size (fun _=>True) v1 (fI ds k++bg (m+1) b) from⟨.inr HM.out.2,(HI.out.2.1.trans (Kt.of_below gg.below _ _)).grown hg1 (fun j hj=>by
       obtain⟨inner,ho⟩:=Kd.mH (Kd.bF HI.out.2.2.2 gg.below);obtain⟨cells,hc⟩:=dO ho j hj
       exact⟨cells,4,_,by simp,hc⟩),hb1,by rw[List.replicate_succ',←dr];first | exact hr1 | (rw[dr];exact hr1)⟩)
      clear hr1 hb1 hg1 hat1 b0 b1 b2 b3 hbb;go_wp2_with fail;go_roundw
      case measure=>simp[intOf];omega
      case rel=>exact⟨m+1,_,rfl,show _ =bh .i64 ((m+1:Nat):Int) from by go_num,by omega,HN⟩
     ·have HN:=aa (show Below X.heap.size X gg.W/\Kd.bool.R 4 gg.W X.heap.size (fun _=>True) vl (fI ds (k+1)) from⟨HB3.out gg,by
       have h1:=Kd.bF HI.out.2.2.2 gg.below;rw[HW.out.2.2.2.2.2.2.2.1,pubD,←HW.out.2.2.2.2.2.1,ax,HBB.out]
       by_cases k2:d.f0<=2
       ·rw[if_pos (by omega)]
        have:m=nw:=by omega
        rw[←this];exact h1
       ·rw[if_neg (by omega)]
        have:m=0:=by rcases HI.out.1 with h | h <;> omega
        rw[this,List.replicate_zero]at h1;exact h1⟩)
      have hc2:¬(m:Int)<(nw:Int)\/((m:Int)<(nw:Int)/\¬d.f0<=2):=by omega
      clear hmn
      rcases hc2 with hm2 | ⟨hm2,k2⟩
      all_goals(
       go_wp2_with fail;go_roundw
       case measure=>simp[intOf];omega
       case rel=>exact⟨k+1,_,rfl,show _ =bh .i64 ((k+1:Nat):Int) from by go_num,by omega,HN⟩)
   ·have hkn:k=n:=by omega
    have HKN:=aa hkn
    have hge:¬(k:Int)<(n:Int):=by omega
    clear hkn;go_wp2_with fail;go_ret2;have ha:=(dE nm wd ln ds bd).1 HF.out;refine⟨vo,?_,?_,HX.out.1.trans (HB.out.1.mono HX.out.1.size)⟩
    ·rw[ha];rfl
    ·rw[ha,←HX.out.2.2.2.1,←HKN.out];exact Kd.fK HB.out.2 HX.out.1.size
 ·have HF:=aa (show ¬(bC nm wd ln ds bd).e=0 from by rw[←HX.out.2.2.2.2.1];exact he);go_wp2_with fail;go_ret2;have ha:=(dE nm wd ln ds bd).2 HF.out;refine⟨.slice ak 0 0,?_,?_,HX.out.1.trans (H1.out.mono HX.out.1.size)⟩
  ·rw[ha,←HX.out.2.2.2.2.1];rfl
  ·rw[ha];exact Kd.iG _ _ _ _ _
section
attribute [local go_sem] G.cell
theorem sH (nm:ByteArray)(wd ln:Int)(ds:List S70)(bd:List S119)(A3:Option Addr)(c3:Nat)(A4:Option Addr)(c4:Nat)(W:World)(hp:ProgAt W ds bd A3 c3 A4 c4)(hg:PGood nm wd ln ds bd):
 Calls au 18 #[.agg #[.string nm,.int .i64 wd,.int .i64 ln,.slice A3 ds.length c3,.slice A4 bd.length c4]] W fun e W'=>e=.returned (.tuple #[.int .i64 ((dH nm wd ln ds bd).1.length:Int),.int .i64 (dH nm wd ln ds bd).2])/\Below W.heap.size W W':=by
 have gout:=@gA W;have HP:=aa (fun W' (h:Below W.heap.size W W')=>jD nm wd ln ds bd A3 c3 A4 c4 W' (hp.below h) hg);clear hp hg;go_enter Tryz.func18,Tryz.ntmps18
 go_upto_region 1 with (fail)
 refine aG ?_;intro gg;go_wp2_with fail;refine(HP.out gg.W (gout gg)).mono ?_;rintro _ w1 ⟨v,rfl,hR,hB⟩;obtain⟨Av,cv,hv⟩:=Kd.bN hR;subst hv;have HB:=aa ((gout gg).trans (hB.mono (gout gg).size));clear hR hB;go_wp2_with fail;go_ret2;exact⟨rfl,HB.out⟩
end
end
section
set_option maxRecDepth 100000
def endOf (wd ln:Int)(ds:List S70)(bd:List S119)(inp:List Int):Sta:=eO wd ln ds bd [] (gF wd ds inp ds.length,[])
def EndAt (w:World)(vS vT:Value)(S:List (List Int))(T:List S101):Prop:=(∃A c,vS=.slice A S.length c/\RowsAt w A S)/\∃A c,vT=.slice A T.length c/\lE.C w A T.length T
theorem EndAt.none (w:World):EndAt w (.slice ak 0 0) (.slice ak 0 0) [] []:=
 ⟨⟨Option.none,0,rfl,fun i hi=>absurd hi (da _)⟩,Option.none,0,rfl,(Kd.cO (Kd.iG lE 101 w 0 (fun _=>True))).elim fun A h=>by
   obtain⟨c,e,_,hC⟩:=h;injection e with e
   rw[e];exact hC⟩
def TrR (W:World)(v:Value)(T:List S101):Prop:=∃base ok,lE.R 101 W base ok v T
theorem TrR.none (W:World):TrR W (.slice ak 0 0) []:=⟨0,fun _=>True,Kd.iG _ _ _ _ _⟩
theorem TrR.below {W W':World}{v:Value}{T:List S101}(h:TrR W v T)(hb:Below W.heap.size W W'):TrR W' v T:=by
 obtain⟨b,ok,hr⟩:=h;exact⟨b,ok,Kd.bF hr hb⟩
noncomputable def cN (nm:ByteArray)(wd ln:Int)(ds:List S70)(bd:List S119)(inp:List Int):Int × List (List Int) × List S101:=
 if(bC nm wd ln ds bd).e=0 then if inp.length=(fI ds ds.length).length then(0,told ds (endOf wd ln ds bd inp).1,(endOf wd ln ds bd inp).2)else(170,[],[])else((bC nm wd ln ds bd).e,[],[])
theorem gL {fn:Func}(hf:fn.results= #[.cell 4 40,.tmp 5]){tmps:Array Value}{w:World}{b:Nat}{vS vT e:Value}(h4:tmps[4]?.getD undef=.pointer (ag ⟨b,0,ak⟩))(h5:tmps[5]?.getD undef=e)(c0:w.cell? ⟨b,0,ak⟩=ag vS)(c1:w.cell? ⟨b,1,ak⟩=ag vT):(results fn tmps).run au w=.ok (.tuple #[.agg #[vS,vT],e]) w:=by
 simp only[results,hf];simp[h4,h5];go_simp
theorem nO (nm:ByteArray)(wd ln:Int)(ds:List S70)(bd:List S119)(A3:Option Addr)(c3:Nat)(A4:Option Addr)(c4:Nat)(W:World)(hp:ProgAt W ds bd A3 c3 A4 c4)(hg:PGood nm wd ln ds bd)(inp:List Int)(A:Option Addr)(cI:Nat)(hI:bX W A inp)(hu:∀v∈inp,U64 v):
 Calls au 24 #[.agg #[.string nm,.int .i64 wd,.int .i64 ln,.slice A3 ds.length c3,.slice A4 bd.length c4],.slice A inp.length cI] W fun e W'=>∃vS vT,e=.returned (.tuple #[.agg #[vS,vT],.int .i64 (cN nm wd ln ds bd inp).1])/\EndAt W' vS vT (cN nm wd ln ds bd inp).2.1 (cN nm wd ln ds bd inp).2.2/\TrR W' vT (cN nm wd ln ds bd inp).2.2/\Below W.heap.size W W':=by
 obtain⟨X,hX⟩:∃X,X=(W.alloc (.cells #[.string nm,.int .i64 wd,.int .i64 ln,.slice A3 ds.length c3,.slice A4 bd.length c4] 25)).alloc (.cells #[.slice ak 0 0,.slice ak 0 0] 40):=⟨_,rfl⟩;have hX1:Below W.heap.size W (W.alloc (.cells #[.string nm,.int .i64 wd,.int .i64 ln,.slice A3 ds.length c3,.slice A4 bd.length c4] 25)):=(ar _ _).alloc (aq _) _
 have hXB:Below W.heap.size W X:=by rw[hX];exact hX1.alloc (by simp) _
 have hbx:X.heap[W.heap.size]? =ag (.cells #[.string nm,.int .i64 wd,.int .i64 ln,.slice A3 ds.length c3,.slice A4 bd.length c4] 25 (0,0)):=by
  rw[hX];exact aB (aW _ _) ((ar _ _).alloc (aq _) _)
 have hbr:X.heap[W.heap.size+1]? =ag (.cells #[.slice ak 0 0,.slice ak 0 0] 40 (0,0)):=by
  rw[hX];have:=aW (W.alloc (.cells #[.string nm,.int .i64 wd,.int .i64 ln,.slice A3 ds.length c3,.slice A4 bd.length c4] 25)) (.cells #[.slice ak 0 0,.slice ak 0 0] 40)
  simpa using this
 obtain⟨⟨l,er⟩,hle⟩:∃r,r=dH nm wd ln ds bd:=⟨_,rfl⟩
 have HL2:=aa (show Calls au 18 #[.agg #[.string nm,.int .i64 wd,.int .i64 ln,.slice A3 ds.length c3,.slice A4 bd.length c4]] X fun e W'=>e=.returned (.tuple #[.int .i64 (l.length:Int),.int .i64 er])/\Below X.heap.size X W' from by
  have h:=sH nm wd ln ds bd A3 c3 A4 c4 X (hp.below hXB) hg
  rw[←hle]at h;exact h)
 have HX:=aa (aj hXB (aj hbx (aj hbr (hp.below hXB))));have HI:=aa (aj (hI.below hXB) hu);have HG:=aa hg;have HLE:=aa hle;have x0:X.cell? ⟨W.heap.size,0,ak⟩=ag (.string nm):=(aA hbx 0).trans rfl;have x1:X.cell? ⟨W.heap.size,1,ak⟩=ag (.int .i64 wd):=(aA hbx 1).trans rfl;have x2:X.cell? ⟨W.heap.size,2,ak⟩=ag (.int .i64 ln):=(aA hbx 2).trans rfl;have x3:X.cell? ⟨W.heap.size,3,ak⟩=ag (.slice A3 ds.length c3):=(aA hbx 3).trans rfl;have x4:X.cell? ⟨W.heap.size,4,ak⟩=ag (.slice A4 bd.length c4):=(aA hbx 4).trans rfl;clear hp hg hI hu hXB hX1 hbx hbr hle;go_enter Tryz.func24,Tryz.ntmps24
 go_upto_region 1 with (fail)
 rw[←hX];clear hX;go_wp2_with fail;refine HL2.out.mono ?_;rintro _ w1 ⟨rfl,hb1⟩;have H1:=aa hb1
 by_cases he:er=0
 ·by_cases hn:inp.length=l.length
  ·have HE:=aa (show(bC nm wd ln ds bd).e=0/\l=fI ds ds.length from by
    have h:=HLE.out;unfold dH at h
    by_cases h0:(bC nm wd ln ds bd).e=0
    ·rw[if_pos h0]at h;injection h with h _;exact⟨h0,h⟩
    ·rw[if_neg h0]at h;injection h with _ h
     exact absurd (h.symm.trans he) h0)
   subst he;rw[hn];have HN:=aa hn;have HGX:=aa (show ∀g:G w1,Below X.heap.size X g.W from fun g=>H1.out.trans (g.below.mono H1.out.size));have HBG:=aa (fun g:G w1=>refBegin_calls nm wd ln ds bd A3 c3 A4 c4 g.W (HX.out.2.2.2.below (HGX.out g)) HG.out HE.out.1 inp A cI (HI.out.1.below (HGX.out g)) HI.out.2 (by rw[HN.out,HE.out.2]));rw[hn]at HBG;have XG:=aa (show ∀g:G w1,g.W.heap[W.heap.size]? =ag (.cells #[.string nm,.int .i64 wd,.int .i64 ln,.slice A3 ds.length c3,.slice A4 bd.length c4] 25 (0,0)) from fun g=>aB HX.out.2.1 (HGX.out g));clear x0 x1 x2 x3 x4 hb1 hn;have x0:∀g:G w1,g.W.cell? ⟨W.heap.size,0,ak⟩=ag (.string nm):=fun g=>(aA (XG.out g) 0).trans rfl;have x1:∀g:G w1,g.W.cell? ⟨W.heap.size,1,ak⟩=ag (.int .i64 wd):=fun g=>(aA (XG.out g) 1).trans rfl;have x2:∀g:G w1,g.W.cell? ⟨W.heap.size,2,ak⟩=ag (.int .i64 ln):=fun g=>(aA (XG.out g) 2).trans rfl;have x3:∀g:G w1,g.W.cell? ⟨W.heap.size,3,ak⟩=ag (.slice A3 ds.length c3):=fun g=>(aA (XG.out g) 3).trans rfl;have x4:∀g:G w1,g.W.cell? ⟨W.heap.size,4,ak⟩=ag (.slice A4 bd.length c4):=fun g=>(aA (XG.out g) 4).trans rfl
   go_upto_region 6 with (fail)
   refine aG ?_;intro gg;refine eP (n:=7) (S:=fun w'=>∃g':G _,w'=g'.W) (ds:=[]) #[ac,ac,ac,ac,ac,ac,ac] (by kernel_rfl) rfl rfl ⟨mkG (gg.2.drew),rfl⟩ (fun hHeld=> ?_);obtain⟨gd,hgd⟩:=hHeld;rw[hgd];clear hgd;refine cY (i:=0) (N:=ag 23) (v:= ?_) (a':= ?_) #[af,ac,ac,ac,ac,ac,ac] rfl rfl (by kernel_rfl) (fun _ _ _ h=>h) (bc ⟨by rfl,?_⟩) ⟨gd,rfl⟩ ?_ ?_;rotate_left
   ·rintro w' ⟨g',rfl⟩;go_simp;with_reducible rfl
   rotate_left
   ·simp only[ay,ae,ah,ai,aJ,aK];rfl
   refine cY (i:=1) (N:=ag 24) (v:= ?_) (a':= ?_) #[af,af,ac,ac,ac,ac,ac] rfl rfl (by kernel_rfl) (fun _ _ _ h=>h) (bc ⟨by rfl,?_⟩) ⟨gd,rfl⟩ ?_ ?_;rotate_left
   ·rintro w' ⟨g',rfl⟩;go_simp;with_reducible rfl
   rotate_left
   ·simp only[ay,ae,ah,ai,aJ,aK];rfl
   refine aP (i:=2) (N:=ag 25) (v:= ?_) (a':= ?_) #[af,af,af,ac,ac,ac,ac] rfl rfl (by kernel_rfl) (fun _ _ _ h=>h) (bc ⟨by rfl,?_⟩) ?_ ?_;rotate_left
   ·intro w';go_simp;with_reducible rfl
   rotate_left
   ·simp only[ay,ae,ah,ai,aJ,aK];rfl
   refine kH (i:=3) (N:=ag 26) #[af,af,af,af,ac,ac,ac] rfl rfl (by kernel_rfl) (by simp) (fun Kr hKr=> ?_);refine iP Tryz.func68 (by kernel_rfl) rfl #[.agg #[.string nm,.int .i64 wd,.int .i64 ln,.slice A3 ds.length c3,.slice A4 bd.length c4],.slice A l.length cI] (by rfl) rfl rfl (by(try simp only[cd,cg,db]);first | done | rfl) ?_;refine(HBG.out gd).mono ?_;rintro _ w9 ⟨vr,ts,rfl,hR2,hb⟩;refine⟨_,rfl,?_⟩;obtain⟨Ar,cr,hvr⟩:=Kd.bN hR2.out;subst hvr;have HR2:=aa (aj hR2 hb);obtain⟨gc,hgc⟩:∃g,g=gd:=⟨_,rfl⟩;rw[←hgc]at HR2;clear hR2 hgc;obtain⟨gd,rfl⟩:∃g':G _,w9=g'.W:=⟨mkG (gd.below.trans (hb.mono gd.below.size)),rfl⟩;clear hb;refine hKr.out _ _ ⟨gd,rfl⟩ (fun _=> ?_);clear hKr Kr;refine cW (a':= ?_) ?_ ?_;rotate_left
   ·show ay _ (ag 26) _ = _
    simp only[ay,ae,ah,ai,aJ,aK];rfl
   refine aP (i:=4) (N:=ag 27) (v:= ?_) (a':= ?_) #[af,af,af,af,af,ac,ac] rfl rfl (by kernel_rfl) (fun _ _ _ h=>h) (bc ⟨by rfl,?_⟩) ?_ ?_;rotate_left
   ·intro w';go_simp;with_reducible rfl
   rotate_left
   ·simp only[ay,ae,ah,ai,aJ,aK];rfl
   refine kH (i:=5) (N:=ag 28) #[af,af,af,af,af,af,ac] rfl rfl (by kernel_rfl) (by simp) (fun Kr hKr=> ?_);refine eC (v:=.pointer (ag ⟨gd.W.heap.size,0,ak⟩)) (w1:=gd.W.alloc (.cells #[.string nm,.int .i64 wd,.int .i64 ln,.slice A3 ds.length c3,.slice A4 bd.length c4,.slice Ar ts.length cr,.slice ak 0 0,.slice ak 0 0] 98)) (by rfl) (by first | (go_simp;done) | (go_simp;rfl)) ?_;refine hKr.out _ _ ⟨mkG (G.ball gd _),rfl⟩ (fun _=> ?_);clear hKr Kr;refine cW (a':= ?_) ?_ ?_;rotate_left
   ·show ay _ (ag 28) _ = _
    simp only[ay,ae,ah,ai,aJ,aK];rfl
   refine aP (i:=6) (N:=ag 8) (v:= ?_) (a':= ?_) #[af,af,af,af,af,af,af] rfl rfl (by kernel_rfl) (fun _ _ _ h=>h) (bc ⟨by rfl,?_⟩) ?_ ?_;rotate_left
   ·intro w';go_simp;with_reducible rfl
   rotate_left
   ·simp only[ay,ae,ah,ai,aJ,aK];rfl
   refine iF (by kernel_rfl) ?_
   go_upto_region 7 with (fail)
   obtain⟨mb,hmb⟩:∃b,b=gd.W.heap.size:=⟨_,rfl⟩;obtain⟨W3,hW3⟩:∃W3,W3=gd.W.alloc (.cells #[.string nm,.int .i64 wd,.int .i64 ln,.slice A3 ds.length c3,.slice A4 bd.length c4,.slice Ar ts.length cr,.slice ak 0 0,.slice ak 0 0] 98):=⟨_,rfl⟩;obtain⟨c,hc⟩:∃c:Cfg,c=⟨gc.W,nm,wd,ln,ds,bd,A3,c3,A4,c4,mb,0,0,0,0⟩:=⟨_,rfl⟩
   have hg3:Below gd.W.heap.size gd.W W3:=by rw[hW3];exact(ar _ _).alloc (aq _) _
   have hS:=cZ HE.out.1;have hC3:=aa (HX.out.2.2.2.below (HGX.out gc))
   have HM:=aa (show RAt c (.slice Ar ts.length cr) ts (.slice ak 0 0) (gF wd ds inp ds.length) [] [] W3 from by
    rw[hc]
    exact⟨HR2.out.2.trans (hg3.mono HR2.out.2.size),by rw[hmb];exact HR2.out.2.size,⟨.slice ak 0 0,by rw[hW3,hmb];exact aW _ _,Kd.iG _ _ _ _ _⟩,HR2.out.1.below hg3,Kd.iG _ _ _ _ _,hC3.out.hd,hC3.out.hld⟩)
   have h34:=Below.trans (HGX.out gd) (hg3.mono (HGX.out gd).size);have HX3:=aa (aj (aB HX.out.2.1 h34) (aB HX.out.2.2.1 h34));have hRK:=aa (rok_right (wd:=wd) HG.out HE.out.1 HI.out.2);have hTK:=aa (tok_right HG.out HE.out.1);have hSZ:=aa (size_le HE.out.1);have HB:=aa (show BoR c (.slice Ar ts.length cr) ts bd from does_calls (by rw[hc];exact hS) _ bd (aq _));have HCB:=aa (show dN.C c.w0 A4 bd.length bd/\bd.length<=c4/\ROK c.ds (gF wd ds inp ds.length)/\(∀x∈bd,TOK c.ds [] x) from by rw[hc];exact⟨hC3.out.hb,hC3.out.hlb,hRK.out,hTK.out⟩);have HC:=aa hc
   have hmb2:c.mb=mb:=by rw[hc]
   have HWC:=aa (show Below W.heap.size W c.w0/\W.heap.size<=c.w0.heap.size/\c.ds.length<=256 from by
    rw[hc]
    exact⟨HX.out.1.trans ((HGX.out gc).mono HX.out.1.size),(HX.out.1.trans ((HGX.out gc).mono HX.out.1.size)).size,hS.few⟩)
   rw[←hW3,←hmb,←hmb2];have x4':W3.cell? ⟨W.heap.size,4,ak⟩=ag (.slice A4 bd.length c4):=(aA HX3.out.1 4).trans rfl;clear x0 x1 x2 x3 x4 hW3 hmb hg3 h34 hS hmb2 hc;go_wp2_with fail;refine(HB.out W3 _ _ [] [] A4 c4 HM.out HCB.out.2.2.1 (fun p hp=>absurd hp List.not_mem_nil) List.Pairwise.nil HCB.out.2.2.2 (by rw[List.length_nil];have:=hSZ.out;omega) HCB.out.1 HCB.out.2.1).mono ?_;rintro _ w4 ⟨rfl,⟨vl4,hm4⟩,hk4,hr4⟩;have HEN:=aa (show eO c.wd c.ln c.ds bd [] (gF wd ds inp ds.length,[])=endOf wd ln ds bd inp from by rw[HC.out];rfl);rw[HEN.out]at hm4 hr4;obtain⟨E,hE⟩:∃E,E=endOf wd ln ds bd inp:=⟨_,rfl⟩;rw[←hE]at hm4 hr4;obtain⟨vt,hb98,hT⟩:=hm4.eye;obtain⟨At,ct,hvt⟩:=Kd.bN hT;subst hvt;have hx4:=hk4.blk _ _ _ _ HX3.out.1 (by simp);have hr40:=hk4.blk _ _ _ _ HX3.out.2 (by simp);have H4:=aa (aj hm4 (aj hr4 (aj hT (aj hr40 hE))));have X4:=aa (show ∀g:G w4,g.W.heap[W.heap.size]? =ag (.cells #[.string nm,.int .i64 wd,.int .i64 ln,.slice A3 ds.length c3,.slice A4 bd.length c4] 25 (0,0))/\g.W.heap[c.mb]? =ag (.cells (c.rc (.slice Ar ts.length cr) vl4 (.slice At E.2.length ct)) 98 (0,0))/\g.W.heap[W.heap.size+1]? =ag (.cells #[.slice ak 0 0,.slice ak 0 0] 40 (0,0)) from fun g=>⟨aB hx4 g.below,aB hb98 g.below,aB hr40 g.below⟩);have x0:∀g:G w4,g.W.cell? ⟨W.heap.size,0,ak⟩=ag (.string nm):=fun g=>(aA (X4.out g).1 0).trans rfl;have x1:∀g:G w4,g.W.cell? ⟨W.heap.size,1,ak⟩=ag (.int .i64 wd):=fun g=>(aA (X4.out g).1 1).trans rfl;have x2:∀g:G w4,g.W.cell? ⟨W.heap.size,2,ak⟩=ag (.int .i64 ln):=fun g=>(aA (X4.out g).1 2).trans rfl;have x3:∀g:G w4,g.W.cell? ⟨W.heap.size,3,ak⟩=ag (.slice A3 ds.length c3):=fun g=>(aA (X4.out g).1 3).trans rfl;have x4:∀g:G w4,g.W.cell? ⟨W.heap.size,4,ak⟩=ag (.slice A4 bd.length c4):=fun g=>(aA (X4.out g).1 4).trans rfl;have m5:∀g:G w4,g.W.cell? ⟨c.mb,5,ak⟩=ag (.slice Ar ts.length cr):=fun g=>(aA (X4.out g).2.1 5).trans rfl;have m7:∀g:G w4,g.W.cell? ⟨c.mb,7,ak⟩=ag (.slice At E.2.length ct):=fun g=>(aA (X4.out g).2.1 7).trans rfl;have f0:∀g:G w4,g.W.frozen? ⟨W.heap.size+1,0,ak⟩=ac:=fun g=>aH (X4.out g).2.2 0;have f1:∀g:G w4,g.W.frozen? ⟨W.heap.size+1,1,ak⟩=ac:=fun g=>aH (X4.out g).2.2 1;have r0:∀g:G w4,g.W.cell? ⟨W.heap.size+1,0,ak⟩=ag (.slice ak 0 0):=fun g=>(aA (X4.out g).2.2 0).trans rfl;have r1:∀g:G w4,g.W.cell? ⟨W.heap.size+1,1,ak⟩=ag (.slice ak 0 0):=fun g=>(aA (X4.out g).2.2 1).trans rfl
   have HTO:=aa (show ∀g:G w4,Calls au 70 #[.agg #[.string nm,.int .i64 wd,.int .i64 ln,.slice A3 ds.length c3,.slice A4 bd.length c4],.slice Ar ts.length cr] g.W fun e W'=>∃v,e=.returned v/\kSl.R 36 W' g.W.heap.size (fun _=>True) v (dA ds ts ds.length)/\Below g.W.heap.size g.W W' from fun g=>by
    have h1:k70.C g.W A3 ds.length ds:=Kd.aF hC3.out.hd ((HR2.out.2.trans (ar _ _)).trans (ar _ _) |>.trans (ar _ _) |> fun _=>by
     have:=(H4.out.1.below g.below).low;rw[HC.out]at this
     exact this)
    have h2:=H4.out.2.1.len;have h3:=HWC.out.2.2;rw[HC.out]at h2 h3
    exact refTold_calls nm wd ln ds bd A3 c3 A4 c4 g.W h1 h3 (H4.out.1.below g.below).rows h2)
   clear hx4 hb98 hr40 hk4 hm4 hr4 hT x4' hE
   go_upto_region 8 with (fail)
   refine aG ?_;intro gg;refine eP (n:=13) (S:=fun w'=>∃g':G _,w'=g'.W) (ds:=[11]) #[ac,ac,ac,ac,ac,ac,ac,ac,ac,ac,ac,ac,ac] (by kernel_rfl) rfl rfl ⟨mkG (gg.2.drew),rfl⟩ (fun hHeld=> ?_);obtain⟨gd,hgd⟩:=hHeld;rw[hgd];clear hgd;refine cY (i:=0) (N:=ag 33) (v:= ?_) (a':= ?_) #[af,ac,ac,ac,ac,ac,ac,ac,ac,ac,ac,ac,ac] rfl rfl (by kernel_rfl) (fun _ _ _ h=>h) (bc ⟨by rfl,?_⟩) ⟨gd,rfl⟩ ?_ ?_;rotate_left
   ·rintro w' ⟨g',rfl⟩;go_simp;with_reducible rfl
   rotate_left
   ·simp only[ay,ae,ah,ai,aJ,aK];rfl
   refine aP (i:=1) (N:=ag 34) (v:= ?_) (a':= ?_) #[af,af,ac,ac,ac,ac,ac,ac,ac,ac,ac,ac,ac] rfl rfl (by kernel_rfl) (fun _ _ _ h=>h) (bc ⟨by rfl,?_⟩) ?_ ?_;rotate_left
   ·intro w';go_simp;with_reducible rfl
   rotate_left
   ·simp only[ay,ae,ah,ai,aJ,aK];rfl
   refine aP (i:=2) (N:=ag 35) (v:= ?_) (a':= ?_) #[af,af,af,ac,ac,ac,ac,ac,ac,ac,ac,ac,ac] rfl rfl (by kernel_rfl) (fun _ _ _ h=>h) (bc ⟨by rfl,?_⟩) ?_ ?_;rotate_left
   ·intro w';go_simp;with_reducible rfl
   rotate_left
   ·simp only[ay,ae,ah,ai,aJ,aK];rfl
   refine aP (i:=3) (N:=ag 36) (v:= ?_) (a':= ?_) #[af,af,af,af,ac,ac,ac,ac,ac,ac,ac,ac,ac] rfl rfl (by kernel_rfl) (fun _ _ _ h=>h) (bc ⟨by rfl,?_⟩) ?_ ?_;rotate_left
   ·intro w';go_simp;with_reducible rfl
   rotate_left
   ·simp only[ay,ae,ah,ai,aJ,aK];rfl
   refine cY (i:=4) (N:=ag 37) (v:= ?_) (a':= ?_) #[af,af,af,af,af,ac,ac,ac,ac,ac,ac,ac,ac] rfl rfl (by kernel_rfl) (fun _ _ _ h=>h) (bc ⟨by rfl,?_⟩) ⟨gd,rfl⟩ ?_ ?_;rotate_left
   ·rintro w' ⟨g',rfl⟩;go_simp;with_reducible rfl
   rotate_left
   ·simp only[ay,ae,ah,ai,aJ,aK];rfl
   refine aP (i:=6) (N:=ag 39) (v:= ?_) (a':= ?_) #[af,af,af,af,af,ac,af,ac,ac,ac,ac,ac,ac] rfl rfl (by kernel_rfl) (fun _ _ _ h=>h) (bc ⟨by rfl,?_⟩) ?_ ?_;rotate_left
   ·intro w';go_simp;with_reducible rfl
   rotate_left
   ·simp only[ay,ae,ah,ai,aJ,aK];rfl
   refine aP (i:=7) (N:=ag 40) (v:= ?_) (a':= ?_) #[af,af,af,af,af,ac,af,af,ac,ac,ac,ac,ac] rfl rfl (by kernel_rfl) (fun _ _ _ h=>h) (bc ⟨by rfl,?_⟩) ?_ ?_;rotate_left
   ·intro w';go_simp;with_reducible rfl
   rotate_left
   ·simp only[ay,ae,ah,ai,aJ,aK];rfl
   refine aP (i:=8) (N:=ag 41) (v:= ?_) (a':= ?_) #[af,af,af,af,af,ac,af,af,af,ac,ac,ac,ac] rfl rfl (by kernel_rfl) (fun _ _ _ h=>h) (bc ⟨by rfl,?_⟩) ?_ ?_;rotate_left
   ·intro w';go_simp;with_reducible rfl
   rotate_left
   ·simp only[ay,ae,ah,ai,aJ,aK];rfl
   refine cY (i:=9) (N:=ag 42) (v:= ?_) (a':= ?_) #[af,af,af,af,af,ac,af,af,af,af,ac,ac,ac] rfl rfl (by kernel_rfl) (fun _ _ _ h=>h) (bc ⟨by rfl,?_⟩) ⟨gd,rfl⟩ ?_ ?_;rotate_left
   ·rintro w' ⟨g',rfl⟩;go_simp;with_reducible rfl
   rotate_left
   ·simp only[ay,ae,ah,ai,aJ,aK];rfl
   refine kH (i:=5) (N:=ag 38) #[af,af,af,af,af,af,af,af,af,af,ac,ac,ac] rfl rfl (by kernel_rfl) (by simp) (fun Kr hKr=> ?_);refine iP Tryz.func70 (by kernel_rfl) rfl #[.agg #[.string nm,.int .i64 wd,.int .i64 ln,.slice A3 ds.length c3,.slice A4 bd.length c4],.slice Ar ts.length cr] (by rfl) rfl rfl (by(try simp only[cd,cg,db]);first | done | rfl) ?_;refine(HTO.out gd).mono ?_;rintro _ w9 ⟨v,rfl,hv,hb⟩;refine⟨_,rfl,?_⟩;obtain⟨As,cs,hvs⟩:=Kd.bN hv;subst hvs;have HV:=aa (Kd.fK hv (bk _));clear hv;obtain⟨gd,rfl⟩:∃g':G _,w9=g'.W:=⟨mkG (gd.below.trans (hb.mono gd.below.size)),rfl⟩;clear hb;refine hKr.out _ _ ⟨gd,rfl⟩ (fun _=> ?_);clear hKr Kr;refine cW (a':= ?_) ?_ ?_;rotate_left
   ·show ay _ (ag 38) _ = _
    simp only[ay,ae,ah,ai,aJ,aK];rfl
   refine aP (i:=10) (N:=ag 43) (v:= ?_) (a':= ?_) #[af,af,af,af,af,af,af,af,af,af,af,ac,ac] rfl rfl (by kernel_rfl) (fun _ _ _ h=>h) (bc ⟨by rfl,?_⟩) ?_ ?_;rotate_left
   ·intro w';go_simp;with_reducible rfl
   rotate_left
   ·simp only[ay,ae,ah,ai,aJ,aK];rfl
   refine o4 (i:=11) (N:=ak) #[af,af,af,af,af,af,af,af,af,af,af,af,ac] rfl rfl (by kernel_rfl) (by simp) (fun Kr hKr=> ?_);refine skip_ (w1:=(gd.W.setCell ⟨W.heap.size+1,0,ak⟩ (.slice As (dA ds ts ds.length).length cs)).setCell ⟨W.heap.size+1,1,ak⟩ (.slice At E.2.length ct)) (by rfl) rfl (by first | (go_simp;done) | (go_simp;rfl)) ?_;refine hKr.out _ _ ?_;clear hKr Kr;refine aP (i:=12) (N:=ag 5) (v:= ?_) (a':= ?_) #[af,af,af,af,af,af,af,af,af,af,af,af,af] rfl rfl (by kernel_rfl) (fun _ _ _ h=>h) (bc ⟨by rfl,?_⟩) ?_ ?_;rotate_left
   ·intro w';go_simp;with_reducible rfl
   rotate_left
   ·simp only[ay,ae,ah,ai,aJ,aK];rfl
   refine iF (by kernel_rfl) ?_;have hkt:Kt [40] ak gd.W ((gd.W.setCell ⟨W.heap.size+1,0,ak⟩ (.slice As (dA ds ts ds.length).length cs)).setCell ⟨W.heap.size+1,1,ak⟩ (.slice At E.2.length ct)):=((Kt.refl _ _ _).set (X4.out gd).2.2 (by simp) 0 _).set (bU (X4.out gd).2.2 0 _) (by simp) 1 _;have h2:=H4.out.2.1.len;rw[HC.out]at h2
   obtain⟨A1,k1,e1,hra⟩:=told_rows ((H4.out.1.below gd.below).rows.kt hkt (by simp) (by simp)) h2 (ar _ _) (hkt.row HV.out (fun q hq=>by
    have:q=36:=by simpa[kSl,Kd.scalar]using hq
    rw[this];simp))
   have HTR:=aa (show TrR ((gd.W.setCell ⟨W.heap.size+1,0,ak⟩ (.slice As (dA ds ts ds.length).length cs)).setCell ⟨W.heap.size+1,1,ak⟩ (.slice At E.2.length ct)) (.slice At E.2.length ct) E.2 from⟨_,_,(hkt.row (Kd.bF H4.out.2.2.1 gd.below) (fun q hq=>by rw[E101 hq];simp))⟩);obtain⟨A2,k2,e2,-,hC2⟩:=Kd.cO (hkt.row (Kd.bF H4.out.2.2.1 gd.below) (fun q hq=>by rw[E101 hq];simp));have HEA:=aa (aj e1 (aj hra (aj e2 hC2)));have HA:=aa (show cN nm wd ln ds bd inp=(0,told ds E.1,E.2) from by unfold cN;rw[if_pos HE.out.1,if_pos (by rw[HN.out,HE.out.2]),H4.out.2.2.2.2])
   have HBE:=aa (show Below W.heap.size W ((gd.W.setCell ⟨W.heap.size+1,0,ak⟩ (.slice As (dA ds ts ds.length).length cs)).setCell ⟨W.heap.size+1,1,ak⟩ (.slice At E.2.length ct)) from
    ((HWC.out.1.trans ((H4.out.1.below gd.below).low.mono HWC.out.2.1)).setCell (p:=⟨W.heap.size+1,0,ak⟩) (jj _) _).setCell (p:=⟨W.heap.size+1,1,ak⟩) (jj _) _)
   obtain⟨wE,hwE⟩:∃w,w=(gd.W.setCell ⟨W.heap.size+1,0,ak⟩ (.slice As (dA ds ts ds.length).length cs)).setCell ⟨W.heap.size+1,1,ak⟩ (.slice At E.2.length ct):=⟨_,rfl⟩
   have z0:wE.cell? ⟨W.heap.size+1,0,ak⟩=ag (.slice As (dA ds ts ds.length).length cs):=by rw[hwE];exact(aA (bU (bU (X4.out gd).2.2 0 _) 1 _) 0).trans rfl
   have z1:wE.cell? ⟨W.heap.size+1,1,ak⟩=ag (.slice At E.2.length ct):=by rw[hwE];exact(aA (bU (bU (X4.out gd).2.2 0 _) 1 _) 1).trans rfl
   rw[←hwE]at HEA HBE HTR ⊢;clear hkt h2 e1 hra e2 hC2 hwE x0 x1 x2 x3 x4 m5 m7 f0 f1 r0 r1;go_wp2_with fail;refine bodyPost_ret (gL rfl rfl rfl z0 z1) rfl ?_;refine⟨.slice As (dA ds ts ds.length).length cs,.slice At E.2.length ct,?_,?_,?_,?_⟩
   ·rw[HA.out];rfl
   ·rw[HA.out];exact⟨⟨A1,k1,HEA.out.1,HEA.out.2.1⟩,A2,k2,HEA.out.2.2.1,HEA.out.2.2.2⟩
   ·rw[HA.out];exact HTR.out
   ·exact HBE.out
  ·have hx:=aB HX.out.2.2.1 H1.out;have HXX:=aa hx;have r0:w1.cell? ⟨W.heap.size+1,0,ak⟩=ag (.slice ak 0 0):=(aA hx 0).trans rfl;have r1:w1.cell? ⟨W.heap.size+1,1,ak⟩=ag (.slice ak 0 0):=(aA hx 1).trans rfl;have f0:w1.frozen? ⟨W.heap.size+1,0,ak⟩=ac:=aH hx 0;have f1:w1.frozen? ⟨W.heap.size+1,1,ak⟩=ac:=aH hx 1;have hn2:¬(inp.length:Int)=(l.length:Int):=fun h=>hn (by omega)
   have HA:=aa (show cN nm wd ln ds bd inp=(170,[],[]) from by
    have h:=HLE.out;unfold dH at h
    by_cases h0:(bC nm wd ln ds bd).e=0
    ·rw[if_pos h0]at h;injection h with h _;unfold cN;rw[if_pos h0,if_neg (by rw[←h];exact hn)]
    ·rw[if_neg h0]at h;injection h with _ h
     exact absurd (h.symm.trans he) h0)
   subst he;clear hx x0 x1 x2 x3 x4 hb1;go_wp2_with fail;refine bodyPost_ret (gL (b:=W.heap.size+1) (vS:=.slice ak 0 0) (vT:=.slice ak 0 0) rfl rfl rfl ((aA (bU (bU HXX.out 0 (.slice ak 0 0)) 1 (.slice ak 0 0)) 0).trans rfl) ((aA (bU (bU HXX.out 0 (.slice ak 0 0)) 1 (.slice ak 0 0)) 1).trans rfl)) rfl ?_;refine⟨.slice ak 0 0,.slice ak 0 0,?_,?_,?_,?_⟩
   ·rw[HA.out];rfl
   ·rw[HA.out];exact EndAt.none _
   ·rw[HA.out];exact TrR.none _
   ·exact((HX.out.1.trans (H1.out.mono HX.out.1.size)).setCell (p:=⟨W.heap.size+1,0,ak⟩) (jj _) _).setCell (p:=⟨W.heap.size+1,1,ak⟩) (jj _) _
 ·have hx:=aB HX.out.2.2.1 H1.out;have HXX:=aa hx;have r0:w1.cell? ⟨W.heap.size+1,0,ak⟩=ag (.slice ak 0 0):=(aA hx 0).trans rfl;have r1:w1.cell? ⟨W.heap.size+1,1,ak⟩=ag (.slice ak 0 0):=(aA hx 1).trans rfl;have f0:w1.frozen? ⟨W.heap.size+1,0,ak⟩=ac:=aH hx 0;have f1:w1.frozen? ⟨W.heap.size+1,1,ak⟩=ac:=aH hx 1
  have HA:=aa (show cN nm wd ln ds bd inp=(er,[],[]) from by
   have h:=HLE.out;unfold dH at h
   by_cases h0:(bC nm wd ln ds bd).e=0
   ·rw[if_pos h0]at h;injection h with _ h;exact absurd h he
   ·rw[if_neg h0]at h;injection h with _ h
    unfold cN;rw[if_neg h0,h])
  clear hx x0 x1 x2 x3 x4 hb1;go_wp2_with fail;refine bodyPost_ret (gL (b:=W.heap.size+1) (vS:=.slice ak 0 0) (vT:=.slice ak 0 0) rfl rfl rfl ((aA (bU (bU HXX.out 0 (.slice ak 0 0)) 1 (.slice ak 0 0)) 0).trans rfl) ((aA (bU (bU HXX.out 0 (.slice ak 0 0)) 1 (.slice ak 0 0)) 1).trans rfl)) rfl ?_;refine⟨.slice ak 0 0,.slice ak 0 0,?_,?_,?_,?_⟩
  ·rw[HA.out];rfl
  ·rw[HA.out];exact EndAt.none _
  ·rw[HA.out];exact TrR.none _
  ·exact((HX.out.1.trans (H1.out.mono HX.out.1.size)).setCell (p:=⟨W.heap.size+1,0,ak⟩) (jj _) _).setCell (p:=⟨W.heap.size+1,1,ak⟩) (jj _) _
theorem refRun_calls (nm:ByteArray)(wd ln:Int)(ds:List S70)(bd:List S119)(A3:Option Addr)(c3:Nat)(A4:Option Addr)(c4:Nat)(W:World)(hp:ProgAt W ds bd A3 c3 A4 c4)(hg:PGood nm wd ln ds bd)(inp:List Int)(A:Option Addr)(cI:Nat)(hI:bX W A inp)(hu:∀v∈inp,U64 v):
 Calls au 24 #[.agg #[.string nm,.int .i64 wd,.int .i64 ln,.slice A3 ds.length c3,.slice A4 bd.length c4],.slice A inp.length cI] W fun e W'=>∃vS vT,e=.returned (.tuple #[.agg #[vS,vT],.int .i64 (cN nm wd ln ds bd inp).1])/\EndAt W' vS vT (cN nm wd ln ds bd inp).2.1 (cN nm wd ln ds bd inp).2.2/\Below W.heap.size W W':=by
 refine(nO nm wd ln ds bd A3 c3 A4 c4 W hp hg inp A cI hI hu).mono ?_;rintro e W' ⟨vS,vT,he,h1,_,h2⟩;exact⟨vS,vT,he,h1,h2⟩
end
section
def cutA (A:Option Addr)(c m:Nat):Option Addr:=if c=m then A else A.map (·.add m)
theorem slice_from (A:Option Addr){n c m:Nat}(h1:m<=n)(h2:n<=c)(X:World):(Instr.slice 36 (.slice A n c) (ag (.int .i64 (m:Int))) ak ak).run au X=.ok (.slice (cutA A c m) (n - m) (c - m)) X:=by
 have i1:(m:Int)<=(n:Int):=by omega
 have i0:(0:Int)<=(m:Int):=by omega
 unfold cutA;go_simp
 try simp
theorem bX.cut {W:World}{A:Option Addr}{l:List Int}(h:bX W A l){c m:Nat}(hc:l.length<=c):bX W (cutA A c m) (l.drop m):=fun k hk=>by
 rw[fj]at hk;obtain⟨ad,e,q⟩:=h (m+k) (by omega);refine⟨ad.add m,by unfold cutA;rw[if_neg (by omega),e];rfl,?_⟩;rw[Addr.add_add,q];simp[aw]
def tA (ds:List S70)(k:Nat)(D:DU):Prop:=∀j:Nat,j<k->∀z,D.atKey (rP (aI ds (j:Int)).f1) z=.lit (.int .i64 (j:Int))
theorem tA.put {ds:List S70}{k:Nat}{D:DU}(h:tA ds k D)(ht:Tidy D)(hd:∀j:Nat,j<k->eqS (aI ds (j:Int)).f1 (aI ds (k:Int)).f1=ac):tA ds (k+1) (D.put (rP (aI ds (k:Int)).f1) (.lit (.int .i64 (k:Int)))):=by
 intro j hj z
 have hk:WideAt.IsKeyLit (rP (aI ds (k:Int)).f1):=by unfold rP;trivial
 by_cases e:j=k
 ·subst e;exact atKey_put_same ht.isMap hk _ z
 ·rw[atKey_put_other (key_ne (hd j (by omega)))];exact h j (by omega) z
theorem tA.ok {ds:List S70}{D:DU}(h:tA ds ds.length D):AtOK ds D:=by
 intro nm i hi z;unfold cG at hi
 rcases dK ds.length (fun i:Nat=>eqS (aI ds (i:Int)).f1 nm)with ⟨h1,_⟩ | ⟨j,h0,h1,h2,_⟩
 ·rw[h1]at hi;cases hi
 ·rw[h1]at hi;injection hi with hi;subst hi;rw[←eqS_key h2];exact h j h0 z
theorem names_apart {nm:ByteArray}{wd ln:Int}{ds:List S70}{bd:List S119}(h:(bC nm wd ln ds bd).e=0){k:Nat}(hk:k<ds.length):∀j:Nat,j<k->eqS (aI ds (j:Int)).f1 (aI ds (k:Int)).f1=ac:=by
 have h1:=kE (aV (lI h 4 (by decide))) k hk;unfold dL at h1
 rcases dK k (fun j:Nat=>eqS (aI ds (j:Int)).f1 (aI ds (k:Int)).f1)with ⟨_,h2⟩ | ⟨i,_,h2,_⟩
 ·exact h2
 ·rw[h2]at h1;cases h1
structure Sm (c:Cfg)(k:Nat)(vo:Value)(ts:List (Nat × Nat × Nat))(R:List (List Int))(W:World):Prop where
 low:Below c.w0.heap.size c.w0 W
 m:W.heap[c.mb]? =ag (.cells (c.cells vo) 93 (0,0))
 rows:RowsT W c.w0.heap.size vo ts R
 eye:EyeAt c W []
 ha:∃D:DU,W.ownsMap au 9 (plainElem au 3) c.ab k D/\tA c.ds k D
 hl:∃D:DU,W.ownsMap au 9 (plainElem au 74) c.lb (Maps.size D) D/\LoOK [] D
variable {c:Cfg}{k:Nat}{vo:Value}{ts:List (Nat × Nat × Nat)}{R:List (List Int)}{W W':World}
theorem Sm.below (h:Sm c k vo ts R W)(hb:Below W.heap.size W W'):Sm c k vo ts R W':=by
 obtain⟨D,a1,a2⟩:=h.ha;obtain⟨E,l1,l2⟩:=h.hl;have hk:=Kt.of_below hb [] ak;exact⟨h.low.trans (hb.mono h.low.size),aB h.m hb,h.rows.below hb,h.eye.below hb,⟨D,hk.own a1 (by simp),a2⟩,⟨E,hk.own l1 (by simp),l2⟩⟩
theorem Sm.name (h:Sm c k vo ts R W)(hab:c.w0.heap.size<=c.ab)(hne:c.ab≠c.lb)(hk:k<c.ds.length)(hk2:k<1000000)(hnm:(aI c.ds (k:Int)).f1.size<=maxLen)(hd:∀j:Nat,j<k->eqS (aI c.ds (j:Int)).f1 (aI c.ds (k:Int)).f1=ac):
 ∃W',(Instr.mapUpdate 88 (.map (ag c.ab)) (.string (aI c.ds (k:Int)).f1) (.int .i64 (k:Int))).run au W=.ok () W'/\Sm c (k+1) vo ts R W'/\Kt [] (ag c.ab) W W':=by
 obtain⟨D,a1,a2⟩:=h.ha;obtain⟨E,l1,l2⟩:=h.hl;obtain⟨vt,t1,t2⟩:=h.eye;obtain⟨W',hr,ho,hg⟩:=a1.update lJ Tryz.underlying88 (by unfold maxLen;omega) (kw jo hnm) (plainElem_int kg (WalkArith.wf_i64 (n:=(k:Int)) (by omega)));obtain⟨es,clock,hb,_⟩:=id a1;have hkt:=Kt.of_map hb hg;refine⟨W',hr,⟨h.low.grown hg h.low.size (fun j e=>by injection e with e;subst e;exact hab),hkt.blk _ _ _ _ h.m (by simp),h.rows.kt hkt (by simp) (by simp),⟨vt,hkt.blk _ _ _ _ t1 (by simp),hkt.row t2 (fun q _=>by simp)⟩,⟨_,ho,a2.put (a1.tidy lJ) hd⟩,⟨E,hkt.own l1 (fun e=>hne (by injection e with e;exact e.symm)),l2⟩⟩,hkt⟩
theorem Sm.row {W1:World}{v1:Value}{b cap:Nat}{l:List Int}(h:Sm c k vo ts R W)(hg:W.grownBy W1 vo.ownBlock)(h1:kSl.R 36 W1 c.w0.heap.size (fun _=>True) v1 (ts++[(b,l.length,cap)]))(hl:jI W b l)(hbase:c.w0.heap.size<=b)(hne:∀i,i<R.length->(ts.getD i zSl).1<b)(hB:Below c.w0.heap.size c.w0 W1)(hmb:c.w0.heap.size<=c.mb):
 Sm c k v1 (ts++[(b,l.length,cap)]) (R++[l]) (W1.setCell ⟨c.mb,6,ak⟩ v1)/\W1.heap[c.mb]? =ag (.cells (c.cells vo) 93 (0,0)):=by
 obtain⟨D,a1,a2⟩:=h.ha;obtain⟨E,l1,l2⟩:=h.hl;obtain⟨vt,t1,t2⟩:=h.eye;have hne2:ag c.mb≠vo.ownBlock:=Kd.R_ne h.rows.out h.m (by decide);have hb1:=fV h.m hg hne2
 have hk:Kt [36,93] ak W W1:=(Kt.refl _ _ _).grown hg fun k hk=>by
  obtain⟨inner,ho⟩:=Kd.mH h.rows.out;obtain⟨cells,hc⟩:=dO ho k hk;exact⟨cells,36,_,by simp,hc⟩
 have hk2:=hk.set hb1 (by simp) 6 v1;have hr1:=h.rows.push hg h1 hl hbase hne;have hk3:Kt [93] ak W1 (W1.setCell ⟨c.mb,6,ak⟩ v1):=(Kt.refl _ _ _).set hb1 (by simp) 6 v1;exact⟨⟨hB.setCell (p:=⟨c.mb,6,ak⟩) hmb _,by simpa using bU hb1 6 v1,hr1.kt hk3 (by simp) (by simp),⟨vt,hk2.blk _ _ _ _ t1 (by simp),hk2.row t2 (fun q hq=>by rw[E101 hq];simp)⟩,⟨D,hk2.own a1 (by simp),a2⟩,⟨E,hk2.own l1 (by simp),l2⟩⟩,hb1⟩
end
section
set_option maxRecDepth 100000
theorem words_v {d:S70}{n:Nat}(h:d.f2=0\/dJ d.f2=af)(hn:(n:Int)=cT d)(A:Option Addr)(c:Nat)(W:World)(ha:(Kd.int .u64).C W A d.f3.length d.f3)(hc:d.f3.length<=c):
 Calls au 63 #[.agg #[.int .i64 d.f0,.string d.f1,.int .i64 d.f2,.slice A d.f3.length c]] W fun e W'=>e=.returned (.int .i64 (n:Int))/\Below W.heap.size W W':=
 run_words.calls d.f0 d.f1 d.f2 A c d.f3 n W ha hc (by rw[hn,←(iI h).1];rfl)
theorem input_v {d:S70}{b:Bool}(hb:b=decide (d.f0=1\/d.f0=2))(A:Option Addr)(c:Nat)(W:World)(ha:(Kd.int .u64).C W A d.f3.length d.f3)(hc:d.f3.length<=c):
 Calls au 61 #[.agg #[.int .i64 d.f0,.string d.f1,.int .i64 d.f2,.slice A d.f3.length c]] W fun e W'=>e=.returned (.bool b)/\Below W.heap.size W W':=
 run_input.calls d.f0 d.f1 d.f2 A c d.f3 b W ha hc (by
  unfold run_input.f;rw[hb]
  by_cases h1:d.f0=1
  ·simp[h1]
  ·rw[if_neg h1]
   congr 1
   by_cases h2:d.f0=2 <;> simp[h1,h2])
def mid0 (wd:Int)(d:S70)(inp:List Int)(o n m:Nat):List Int:=(bu n).map fun k=>if k<m then lF wd d inp o k else 0
theorem mid0_len (wd:Int)(d:S70)(inp:List Int)(o n m:Nat):(mid0 wd d inp o n m).length=n:=by unfold mid0;simp
theorem mid0_zero (wd:Int)(d:S70)(inp:List Int)(o n:Nat):mid0 wd d inp o n 0=bg n 0:=by
 unfold mid0
 refine List.ext_getElem (by simp) fun i h1 h2=>by simp
theorem mid0_succ (wd:Int)(d:S70)(inp:List Int)(o n m:Nat):(mid0 wd d inp o n m).set m (lF wd d inp o m)=mid0 wd d inp o n (m+1):=by
 unfold mid0;refine List.ext_getElem (by simp) fun i h1 h2=> ?_;rw[List.getElem_set];simp only[List.getElem_map,List.getElem_range]
 by_cases e:m=i
 ·subst e;simp
 ·rw[if_neg e]
  by_cases h:i<m
  ·rw[if_pos h,if_pos (by omega)]
  ·rw[if_neg h,if_neg (by omega)]
theorem mid0_full (wd:Int)(d:S70)(inp:List Int)(o n:Nat):mid0 wd d inp o n n=iE wd d inp o n:=by
 unfold mid0 iE;refine List.map_congr_left fun k hk=>if_pos (jg.1 hk)
theorem start_calls (nm:ByteArray)(wd ln:Int)(ds:List S70)(bd:List S119)(A3:Option Addr)(c3:Nat)(A4:Option Addr)(c4:Nat)(w0 W:World)(eb:Nat)(most:Int)(hp:ProgAt w0 ds bd A3 c3 A4 c4)(hg:PGood nm wd ln ds bd)(h:(bC nm wd ln ds bd).e=0)(inp:List Int)(A:Option Addr)(cI:Nat)(hI:bX w0 A inp)(hc:inp.length<=cI)(hu:∀v∈inp,U64 v)(hl:inp.length=(fI ds ds.length).length)(hw:Below w0.heap.size w0 W)(he0:w0.heap.size<=eb)
 (he:∃vt,W.heap[eb]? =ag (.cells #[vt,.int .i64 most] 84 (0,0))/\lE.R 101 W w0.heap.size (fun _=>True) vt []):
 Calls au 66 #[.agg #[.string nm,.int .i64 wd,.int .i64 ln,.slice A3 ds.length c3,.slice A4 bd.length c4],.slice A inp.length cI,.iface 80 (.pointer (ag ⟨eb,0,ak⟩))] W fun e W'=>∃mb ab lb,e=.returned (.pointer (ag ⟨mb,0,ak⟩))/\MAt ⟨w0,nm,wd,ln,ds,bd,A3,c3,A4,c4,mb,eb,ab,lb,most⟩ (gF wd ds inp ds.length) [] [] W'/\Kt [36,74,93] (ag ab) W W':=by
 obtain⟨n,hn⟩:∃n,n=ds.length:=⟨_,rfl⟩;obtain⟨ni,hni⟩:∃n,n=inp.length:=⟨_,rfl⟩;have hmm:=@run_makeMap au;have hS:=cZ h
 have w1:1<=wd:=by
  obtain⟨m,e,hm⟩:=hS.wd;have:=hm.le;omega
 obtain⟨xb,hxb⟩:∃b,b=W.heap.size:=⟨_,rfl⟩;obtain⟨X0,hX0⟩:∃X,X=W.alloc (.cells #[.string nm,.int .i64 wd,.int .i64 ln,.slice A3 ds.length c3,.slice A4 bd.length c4] 25):=⟨_,rfl⟩;obtain⟨X1,hX1⟩:∃X,X=X0.alloc (.map #[] 0):=⟨_,rfl⟩;obtain⟨X2,hX2⟩:∃X,X=X1.alloc (.map #[] 0):=⟨_,rfl⟩
 have hS0:X0.heap.size=W.heap.size+1:=by rw[hX0];simp
 have hS1:X1.heap.size=W.heap.size+2:=by rw[hX1];simp[hS0]
 have hS2:X2.heap.size=W.heap.size+3:=by rw[hX2];simp[hS1]
 obtain⟨c,hcc⟩:∃c:Cfg,c=⟨w0,nm,wd,ln,ds,bd,A3,c3,A4,c4,W.heap.size+3,eb,W.heap.size+1,W.heap.size+2,most⟩:=⟨_,rfl⟩;obtain⟨X,hX⟩:∃X,X=X2.alloc (.cells (c.cells (.slice ak 0 0)) 93):=⟨_,rfl⟩
 have b0:Below W.heap.size W X0:=by rw[hX0];exact(ar _ _).alloc (aq _) _
 have b1:Below X0.heap.size X0 X1:=by rw[hX1];exact(ar _ _).alloc (aq _) _
 have b2:Below X1.heap.size X1 X2:=by rw[hX2];exact(ar _ _).alloc (aq _) _
 have b3:Below X2.heap.size X2 X:=by rw[hX];exact(ar _ _).alloc (aq _) _
 have hXB:Below W.heap.size W X:=b0.trans ((b1.trans ((b2.trans (b3.mono b2.size)).mono b1.size)).mono b0.size)
 have hbx:X.heap[W.heap.size]? =ag (.cells #[.string nm,.int .i64 wd,.int .i64 ln,.slice A3 ds.length c3,.slice A4 bd.length c4] 25 (0,0)):=by
  have h1:X0.heap[W.heap.size]? =ag (.cells #[.string nm,.int .i64 wd,.int .i64 ln,.slice A3 ds.length c3,.slice A4 bd.length c4] 25 (0,0)):=by rw[hX0];exact aW _ _
  exact aB (aB (aB h1 b1) b2) b3
 have HSM:=aa (show Sm c 0 (.slice ak 0 0) [] [] X from by
  have e0:c.w0=w0:=by rw[hcc]
  have e1:c.mb=X2.heap.size:=by rw[hcc,hS2]
  have e2:c.ab=X0.heap.size:=by rw[hcc,hS0]
  have e3:c.lb=X1.heap.size:=by rw[hcc,hS1]
  have e4:c.eb=eb:=by rw[hcc]
  have e5:c.most=most:=by rw[hcc]
  obtain⟨vt,t1,t2⟩:=he;refine⟨by rw[e0];exact hw.trans (hXB.mono hw.size),by rw[e1,hX];exact aW _ _,RowsT.nil _ _,⟨vt,by rw[e4,e5];exact aB t1 hXB,by rw[e0];exact Kd.bF t2 hXB⟩,⟨.map [],?_,fun j hj=>absurd hj (da _)⟩,⟨.map [],?_,aq _,fun s=>⟨rfl,fun v hv=>by cases hv⟩⟩⟩
  ·rw[e2];have h1:=World.ownsMap_made (H:=Unit) X0 au 9 (plainElem au 3);rw[←hX1]at h1;exact(Kt.of_below b3 [] ak).own ((Kt.of_below b2 [] ak).own h1 (by simp)) (by simp)
  ·rw[e3];have h1:=World.ownsMap_made (H:=Unit) X1 au 9 (plainElem au 74);rw[←hX2]at h1
   exact(Kt.of_below b3 [] ak).own h1 (by simp))
 have hp3:=hp.hd;have HC:=aa hcc
 have HB:=aa (show c.w0.heap.size<=c.mb/\c.w0.heap.size<=c.eb/\c.w0.heap.size<=c.ab/\c.w0.heap.size<=c.lb/\c.ab≠c.lb/\Below c.w0.heap.size c.w0 W/\c.ds=ds from by
  rw[hcc];have:=hw.size
  exact⟨by show w0.heap.size<=W.heap.size+3;omega,he0,by show w0.heap.size<=W.heap.size+1;omega,by show w0.heap.size<=W.heap.size+2;omega,by show W.heap.size+1≠W.heap.size+2;omega,hw,rfl⟩)
 have HXE:=aa (show((((W.alloc (.cells #[.string nm,.int .i64 wd,.int .i64 ln,.slice A3 n c3,.slice A4 bd.length c4] 25)).alloc (.map #[] 0)).alloc (.map #[] 0)).alloc (.cells #[.string nm,.int .i64 wd,.int .i64 ln,.slice A3 n c3,.slice A4 bd.length c4,.map (ag (W.heap.size+1)),.slice ak 0 0,.map (ag (W.heap.size+1+1)),.iface 80 (.pointer (ag ⟨eb,0,ak⟩))] 93))=X/\W.heap.size+1+1+1=c.mb from by
  rw[hX,hX2,hX1,hX0,hcc,hn];exact⟨rfl,rfl⟩)
 rw[←hn]at hbx hp3 ⊢;rw[←hni]at hl hc ⊢;have HH:=aa (aj hg (aj h (aj hu (aj hl (aj hn (aj hni (aj hS hXB)))))));have HX:=aa (aj hp3 (aj (hxb ▸ hbx) (aj hI hc)))
 have hn256:n<=256:=by rw[hn];exact hS.few
 clear hp hp3 hg h hu hl hI hXB hS hn hni hbx hw he0 he hS0 hS1 hS2 hcc b0 b1 b2 b3 hc hX hX0 hX1 hX2;go_enter Tryz.func66,Tryz.ntmps66
 go_upto_region 1 with (fail)
 go_upto_region 2 with (fail)
 rw[HXE.out.1,HXE.out.2];rw[←hxb];have x3:X.cell? ⟨xb,3,ak⟩=ag (.slice A3 n c3):=(aA HX.out.2.1 3).trans rfl;clear hxb;go_wp2_with fail;clear x3
 go_loopw [1,21] (fun v i W'=>∃(k:Nat) (Ai:Option Addr) (ti ci:Nat) (vo:Value) (ts:List (Nat × Nat × Nat)),v=.slice Ai ti ci/\i=.int .i64 k/\k<=n/\Aside0 (Kt [36,74,93] (ag c.ab) X W'/\Sm c k vo ts (gF wd ds inp k) W'/\bX c.w0 Ai (inp.drop (fI ds k).length)/\ti=(inp.drop (fI ds k).length).length/\ti<=ci)) (fun _ i _=>n - (intOf i).toNat)
 case atStart=>
  refine⟨0,_,_,_,_,[],rfl,rfl,bk _,⟨Kt.refl _ _ _,HSM.out,?_,?_,HX.out.2.2.2⟩⟩
  ·rw[HC.out];exact HX.out.2.2.1
  ·exact HH.out.2.2.2.2.2.1
 case round=>
  obtain⟨k,Ai,ti,ci,vo,ts,rfl,rfl,hk,HI⟩:=hrel
  by_cases hlt:k<n
  ·have hlt2:(k:Int)<(n:Int):=by omega
   have hw0:Below w0.heap.size w0 wr:=by have:=HI.out.2.1.low;rwa [HC.out]at this
   obtain⟨ad,A9,c9,e1,q0,q1,q2,q3,l9,g9⟩:=eD HX.out.1 (k:Int) (by omega) (by omega);cases e1;rw[ax]at q0 q1 q2 q3;obtain⟨d,hd⟩:∃d,d=aI ds (k:Int):=⟨_,rfl⟩
   have hkd:k<ds.length:=by rw[←HH.out.2.2.2.2.1];exact hlt
   have RD:=aa (aj (cJ HH.out.2.1 k hkd) (fun h3=>vals_right HH.out.2.1 hkd h3));have RS:=rows0_succ wd ds inp k;have PS:=rT ds k;have PM:=pubs_mono ds (show k+1<=ds.length from hkd);rw[←hd]at q0 q1 q2 q3 l9 g9 RD RS PS;have p0:=aE hw0 q0;have p1:=aE hw0 q1;have p2:=aE hw0 q2;have p3:=aE hw0 q3;obtain⟨wn,w2,w3⟩:=iI RD.out.1.2;obtain⟨nw,hnw⟩:=ew (show 0<=cT d by omega);rw[hnw,ax]at PS;obtain⟨o,ho⟩:∃o,o=(fI ds k).length:=⟨_,rfl⟩;rw[←ho]at PS RS HI;obtain⟨Wi,hWi⟩:∃Wi,Wi=wr.alloc (.cells #[.int .i64 d.f0,.string d.f1,.int .i64 d.f2,.slice A9 d.f3.length c9] 70):=⟨_,rfl⟩
   have hWB:Below wr.heap.size wr Wi:=by rw[hWi];exact(ar _ _).alloc (aq _) _
   obtain⟨gb,hgb⟩:∃b,b=wr.heap.size:=⟨_,rfl⟩
   have hbw:Wi.heap[gb]? =ag (.cells #[.int .i64 d.f0,.string d.f1,.int .i64 d.f2,.slice A9 d.f3.length c9] 70 (0,0)):=by rw[hWi,hgb];exact aW _ _
   have hS:=(HI.out.2.1.below hWB).below (ar _ _).drew;have hgd:=(HH.out.1.good.ds d (by rw[hd];exact eJ hkd));obtain⟨w5,hr5,hs5,hk5⟩:=hS.name HB.out.2.2.1 HB.out.2.2.2.2.1 (by rw[HB.out.2.2.2.2.2.2];exact hkd) (by omega) (by rw[HB.out.2.2.2.2.2.2,←hd];exact bi hgd.2.1 (by unfold maxLen;omega)) (by rw[HB.out.2.2.2.2.2.2];exact names_apart HH.out.2.1 hkd);rw[HB.out.2.2.2.2.2.2,←hd]at hr5;have hk6:Kt [36,74,93] (ag c.ab) X w5:=(HI.out.1.trans ((Kt.of_below hWB _ _).trans (Kt.of_below (ar _ _).drew _ _))).trans (hk5.more (by simp) (fun _ h=>h));have HSK:=aa (show ∀w1,Kt [] (ag c.ab) Wi.drew w1->w1.cell? ⟨c.mb,5,ak⟩=ag (.map (ag c.ab))/\w1.cell? ⟨gb,1,ak⟩=ag (.string d.f1) from fun w1 hkk=>⟨(aA (hkk.blk _ _ _ _ hS.m (by simp)) 5).trans rfl,(aA (hkk.blk _ _ _ _ hbw (by simp)) 1).trans rfl⟩);have HW:=aa (aj hk6 (aj (hk5.blk _ _ _ _ hbw (by simp)) (aj hnw.symm (aj RS (aj PS (aj PM (aj hkd (aj g9 (aj l9 hs5)))))))))
   have hnw1:1<=nw/\nw<=256:=by omega
   have hk0:=RD.out.1.1;have HK5:=aa hk5;obtain⟨s5,s1⟩:=HSK.out _ (Kt.refl _ _ _);clear q0 q1 q2 q3 l9 g9 RS PS PM wn w2 w3 hnw hd hkd hbw hWB ho hS hgd hs5 hk5 hk6 hw0
   go_upto_region 5 with (fail)
   rw[←hgb];rw[←hWi];clear hWi hgb p0 p1 p2 p3
   go_region_held3 (fun w'=>w'.cell? ⟨c.mb,5,ak⟩=ag (.map (ag c.ab))/\w'.cell? ⟨gb,1,ak⟩=ag (.string d.f1))
    (first | exact HSK.out _ (Kt.refl _ _ _) | exact HSK.out _ HK5.out | go_keep)
    (fail)
   clear s5 s1 hr5 HK5 HSK;have b0:∀g:G w5,g.W.cell? ⟨gb,0,ak⟩=ag (.int .i64 d.f0):=fun g=>(aA (aB HW.out.2.1 g.below) 0).trans rfl;have b1:∀g:G w5,g.W.cell? ⟨gb,1,ak⟩=ag (.string d.f1):=fun g=>(aA (aB HW.out.2.1 g.below) 1).trans rfl;have b2:∀g:G w5,g.W.cell? ⟨gb,2,ak⟩=ag (.int .i64 d.f2):=fun g=>(aA (aB HW.out.2.1 g.below) 2).trans rfl;have b3:∀g:G w5,g.W.cell? ⟨gb,3,ak⟩=ag (.slice A9 d.f3.length c9):=fun g=>(aA (aB HW.out.2.1 g.below) 3).trans rfl
   go_upto_region 6 with (fail)
   refine aG ?_;intro gg
   have H3:=aa (show ∀g:G w5,(Kd.int .u64).C g.W A9 d.f3.length d.f3 from fun g=>by
    have h1:=(HW.out.2.2.2.2.2.2.2.2.2.below g.below).low;rw[HC.out]at h1
    exact Kd.aF HW.out.2.2.2.2.2.2.2.1 h1)
   go_wp2_with fail;refine(aD (g:=gg) (words_v RD.out.1.2 HW.out.2.2.1 A9 c9 gg.W (H3.out gg) HW.out.2.2.2.2.2.2.2.2.1)).mono ?_;rintro _ _ ⟨rfl,gg,rfl⟩
   have hw8:(nw:Int).toNat*8<=281474976710656:=by omega
   have hw9:(0:Int)<=(nw:Int):=by omega
   go_wp2_with (at_make;refine Kd.R_make (Kd.int .u64) (w0:=gg.W) gg.W.heap.size 74 rfl rfl 36 (.tmp 34) (.tmp 34) rfl (nw:Int) rfl rfl gM (.int .u64 0) 8 mL rfl (by decide) (by decide) (0:Int) (ok:=fun _=>True) (okp:=fun _=>False) rfl (fun _ h=>h.elim) trivial hw9 hw8 (ar _ _) (aq _) ?_)
   intro v1 u1 hr1 hb1 hg1 bq1 hat1 hat2;obtain⟨b,cap,cs,hv1,hcs,hcells⟩:=qQ hr1 (by rw[dx];omega);rw[dx]at hv1;subst hv1;have hbV:gg.W.heap.size<=b:=Kd.R_base hr1 b (by simp[ee])
   have HVS:=aa (show ∀W',Below gg.W.heap.size gg.W W'->Sm c (k+1) vo ts (gF wd ds inp k) W'/\W'.heap[gb]? =ag (.cells #[.int .i64 d.f0,.string d.f1,.int .i64 d.f2,.slice A9 d.f3.length c9] 70 (0,0))/\W'.heap[xb]? =ag (.cells #[.string nm,.int .i64 wd,.int .i64 ln,.slice (ag ad) n c3,.slice A4 bd.length c4] 25 (0,0)) from fun W' h=>
    ⟨(HW.out.2.2.2.2.2.2.2.2.2.below gg.below).below h,aB (aB HW.out.2.1 gg.below) h,aB (aB (HW.out.1.blk _ _ _ _ HX.out.2.1 (by simp)) gg.below) h⟩)
   have HBB:=aa (show c.w0.heap.size<=b/\∀i,i<(gF wd ds inp k).length->(ts.getD i zSl).1<b from⟨bi (HVS.out _ (ar _ _)).1.low.size hbV,fun i hi=>br ((HVS.out _ (ar _ _)).1.rows.lt hi) hbV⟩);have HKV:=aa (HW.out.1.trans (Kt.of_below gg.below _ _));have HU:=aa (show Below gg.W.heap.size gg.W u1/\jI u1 b (mid0 wd d inp o nw 0)/\(Kd.int .u64).R 74 u1 gg.W.heap.size (fun _=>True) (.slice (ag ⟨b,0,ak⟩) nw cap) (bg nw 0)/\gg.W.heap.size<=b from⟨hb1,by rw[mid0_zero];exact⟨cs,hcs,hcells⟩,hr1,hbV⟩);have HPL:=aa (show(iE wd d inp o nw).length=nw from by unfold iE;simp);have TL:=aa (show(ts.length+1)*24<=140737488355328 by rw[(HVS.out _ (ar _ _)).1.rows.len];simp[gF];omega);clear hr1 hb1 hg1 hat1 hat2 hcs hcells hbV b0 b1 b2 b3 H3 hw8 hw9;have d0:u1.cell? ⟨gb,0,ak⟩=ag (.int .i64 d.f0):=(aA (HVS.out _ HU.out.1).2.1 0).trans rfl;have d1:u1.cell? ⟨gb,1,ak⟩=ag (.string d.f1):=(aA (HVS.out _ HU.out.1).2.1 1).trans rfl;have d2:u1.cell? ⟨gb,2,ak⟩=ag (.int .i64 d.f2):=(aA (HVS.out _ HU.out.1).2.1 2).trans rfl;have d3:u1.cell? ⟨gb,3,ak⟩=ag (.slice A9 d.f3.length c9):=(aA (HVS.out _ HU.out.1).2.1 3).trans rfl;have HS6:=aa (show ∀W',Below gg.W.heap.size gg.W W'->W'.cell? ⟨c.mb,6,ak⟩=ag vo from fun W' h=>(aA (HVS.out _ h).1.m 6).trans rfl)
   have HC9:=aa (show ∀W',Below gg.W.heap.size gg.W W'->(Kd.int .u64).C W' A9 d.f3.length d.f3 from fun W' h=>by
    have h1:=(HVS.out _ h).1.low;rw[HC.out]at h1
    exact Kd.aF HW.out.2.2.2.2.2.2.2.1 h1)
   have hkk:(d.f0=1\/d.f0=2)\/d.f0=3\/4<=d.f0:=by omega
   rcases hkk with hk1 | hk3 | hk4
   ·have k3:¬d.f0=3:=by omega
    have HK:=aa hk1;clear hk1;go_wp2_with fail;refine(input_v (b:=af) (by rw[decide_eq_true HK.out]) A9 c9 u1 (HC9.out _ HU.out.1) HW.out.2.2.2.2.2.2.2.2.1).mono ?_;rintro _ u3 ⟨rfl,hb3⟩;have HU3:=aa (show Below gg.W.heap.size gg.W u3/\jI u3 b (mid0 wd d inp o nw 0) from⟨HU.out.1.trans (hb3.mono HU.out.1.size),HU.out.2.1.imp fun cs h=>⟨aB h.1 hb3,h.2⟩⟩);clear hb3 d0 d1 d2 d3;go_wp2_with fail
    go_loopw [49] (fun i W'=>∃m:Nat,i=.int .i64 m/\m<=nw/\Aside0 (Below gg.W.heap.size gg.W W'/\jI W' b (mid0 wd d inp o nw m))) (fun i _=>nw - (intOf i).toNat)
    case atStart=>exact⟨0,rfl,bk _,HU3⟩
    case round=>
     obtain⟨m,rfl,hm,HM⟩:=hrel
     by_cases hmn:m<nw
     ·have hm2:(m:Int)<(nw:Int):=by omega
      have hti:m<ti:=by
       have h1:=HW.out.2.2.2.2.1;have h2:=HW.out.2.2.2.2.2.1;have h3:=HH.out.2.2.2.1;have h4:=HI.out.2.2.2.1;have h5:=HH.out.2.2.2.2.2.1;rw[fj]at h4;rw[if_pos HK.out]at h1;omega
      have hti2:(m:Int)<(ti:Int):=by omega
      obtain⟨adI,eA,qI⟩:=HI.out.2.2.1 m (by rw[←HI.out.2.2.2.1];exact hti);subst eA;obtain⟨xv,hxv⟩:∃x,x=(inp.drop o).getD m 0:=⟨_,rfl⟩;rw[←hxv]at qI
      have hxv2:xv=inp.getD (o+m) 0:=by rw[hxv];simp[aw]
      have XU:=aa (show U64 xv from hxv2 ▸ lX HH.out.2.2.1 (o+m));have W0:=aa (show lF wd d inp o m=qO wd xv from by unfold lF;rw[if_neg k3,if_pos HK.out,hxv2]);obtain⟨cs,hcs,hcells⟩:=HM.out.2;have hcm:=hcells m (by rw[mid0_len];exact hmn);obtain⟨ov,hov⟩:∃v,v=(mid0 wd d inp o nw m).getD m 0:=⟨_,rfl⟩;rw[←hov]at hcm;have HG:=aa (show ∀g:G wr,Below gg.W.heap.size gg.W g.W from fun g=>HM.out.1.trans (g.below.mono HM.out.1.size));have x1:∀g:G wr,g.W.cell? ⟨xb,1,ak⟩=ag (.int .i64 wd):=fun g=>(aA (HVS.out _ (HG.out g)).2.2 1).trans rfl;have xi:∀g:G wr,g.W.cell? (adI.add m)=ag (.int .u64 xv):=fun g=>aE (HVS.out _ (HG.out g)).1.low qI;have rf:∀g:G wr,g.W.frozen? ⟨b,m,ak⟩=ac:=fun g=>aH (aB hcs g.below) m;have rc:∀g:G wr,g.W.cell? ⟨b,m,ak⟩=ag (.int .u64 ov):=fun g=>(aA (aB hcs g.below) m).trans hcm;clear hxv hxv2 qI hcs hcells hcm hov hti;go_wp2_with fail;refine aG ?_;intro g4;refine eP (n:=11) (S:=fun w'=>∃g':G _,w'=g'.W) (ds:=[10]) #[ac,ac,ac,ac,ac,ac,ac,ac,ac,ac,ac] (by kernel_rfl) rfl rfl ⟨mkG (g4.2.drew),rfl⟩ (fun hHeld=> ?_);obtain⟨gd,hgd⟩:=hHeld;rw[hgd];clear hgd;refine aP (i:=0) (N:=ag 52) (v:= ?_) (a':= ?_) #[af,ac,ac,ac,ac,ac,ac,ac,ac,ac,ac] rfl rfl (by kernel_rfl) (fun _ _ _ h=>h) (bc ⟨by rfl,?_⟩) ?_ ?_;rotate_left
      ·intro w';go_simp;with_reducible rfl
      rotate_left
      ·simp only[ay,ae,ah,ai,aJ,aK];rfl
      refine aP (i:=1) (N:=ag 53) (v:= ?_) (a':= ?_) #[af,af,ac,ac,ac,ac,ac,ac,ac,ac,ac] rfl rfl (by kernel_rfl) (fun _ _ _ h=>h) (bc ⟨by rfl,?_⟩) ?_ ?_;rotate_left
      ·intro w';go_simp;with_reducible rfl
      rotate_left
      ·simp only[ay,ae,ah,ai,aJ,aK];rfl
      refine aP (i:=2) (N:=ag 54) (v:= ?_) (a':= ?_) #[af,af,af,ac,ac,ac,ac,ac,ac,ac,ac] rfl rfl (by kernel_rfl) (fun _ _ _ h=>h) (bc ⟨by rfl,?_⟩) ?_ ?_;rotate_left
      ·intro w';go_simp;with_reducible rfl
      rotate_left
      ·simp only[ay,ae,ah,ai,aJ,aK];rfl
      refine cY (i:=3) (N:=ag 55) (v:= ?_) (a':= ?_) #[af,af,af,af,ac,ac,ac,ac,ac,ac,ac] rfl rfl (by kernel_rfl) (fun _ _ _ h=>h) (bc ⟨by rfl,?_⟩) ⟨gd,rfl⟩ ?_ ?_;rotate_left
      ·rintro w' ⟨g',rfl⟩;go_simp;with_reducible rfl
      rotate_left
      ·simp only[ay,ae,ah,ai,aJ,aK];rfl
      refine aP (i:=4) (N:=ag 56) (v:= ?_) (a':= ?_) #[af,af,af,af,af,ac,ac,ac,ac,ac,ac] rfl rfl (by kernel_rfl) (fun _ _ _ h=>h) (bc ⟨by rfl,?_⟩) ?_ ?_;rotate_left
      ·intro w';go_simp;with_reducible rfl
      rotate_left
      ·simp only[ay,ae,ah,ai,aJ,aK];rfl
      refine aP (i:=5) (N:=ag 57) (v:= ?_) (a':= ?_) #[af,af,af,af,af,af,ac,ac,ac,ac,ac] rfl rfl (by kernel_rfl) (fun _ _ _ h=>h) (bc ⟨by rfl,?_⟩) ?_ ?_;rotate_left
      ·intro w';go_simp;with_reducible rfl
      rotate_left
      ·simp only[ay,ae,ah,ai,aJ,aK];rfl
      refine aP (i:=6) (N:=ag 58) (v:= ?_) (a':= ?_) #[af,af,af,af,af,af,af,ac,ac,ac,ac] rfl rfl (by kernel_rfl) (fun _ _ _ h=>h) (bc ⟨by rfl,?_⟩) ?_ ?_;rotate_left
      ·intro w';go_simp;with_reducible rfl
      rotate_left
      ·simp only[ay,ae,ah,ai,aJ,aK];rfl
      refine cY (i:=7) (N:=ag 59) (v:= ?_) (a':= ?_) #[af,af,af,af,af,af,af,af,ac,ac,ac] rfl rfl (by kernel_rfl) (fun _ _ _ h=>h) (bc ⟨by rfl,?_⟩) ⟨gd,rfl⟩ ?_ ?_;rotate_left
      ·rintro w' ⟨g',rfl⟩;go_simp;with_reducible rfl
      rotate_left
      ·simp only[ay,ae,ah,ai,aJ,aK];rfl
      refine kH (i:=8) (N:=ag 60) #[af,af,af,af,af,af,af,af,af,ac,ac] rfl rfl (by kernel_rfl) (by simp) (fun Kr hKr=> ?_);refine iP Tryz.func72 (by kernel_rfl) rfl #[.int .i64 wd,.int .u64 xv] (by rfl) rfl rfl (by(try simp only[cd,cg,db]);first | done | rfl) ?_;refine(trimI w1 XU.out gd.W).mono ?_;rintro _ w9 ⟨rfl,hb⟩;refine⟨_,rfl,?_⟩;obtain⟨gd,rfl⟩:∃g':G _,w9=g'.W:=⟨mkG (gd.below.trans (hb.mono gd.below.size)),rfl⟩;clear hb;refine hKr.out _ _ ⟨gd,rfl⟩ (fun _=> ?_);clear hKr Kr;refine cW (a':= ?_) ?_ ?_;rotate_left
      ·show ay _ (ag 60) _ = _
       simp only[ay,ae,ah,ai,aJ,aK];rfl
      refine aP (i:=9) (N:=ag 61) (v:= ?_) (a':= ?_) #[af,af,af,af,af,af,af,af,af,af,ac] rfl rfl (by kernel_rfl) (fun _ _ _ h=>h) (bc ⟨by rfl,?_⟩) ?_ ?_;rotate_left
      ·intro w';go_simp;with_reducible rfl
      rotate_left
      ·simp only[ay,ae,ah,ai,aJ,aK];rfl
      refine o4 (i:=10) (N:=ak) #[af,af,af,af,af,af,af,af,af,af,af] rfl rfl (by kernel_rfl) (by simp) (fun Kr hKr=> ?_);refine skip_ (w1:=gd.W.setCell ⟨b,m,ak⟩ (.int .u64 (qO wd xv))) (by rfl) rfl (by first | (go_simp;done) | (go_simp;rfl)) ?_;refine hKr.out _ _ ?_;clear hKr Kr;refine iF (by kernel_rfl) ?_
      have HN:=aa (show Below gg.W.heap.size gg.W (gd.W.setCell ⟨b,m,ak⟩ (.int .u64 (qO wd xv)))/\jI (gd.W.setCell ⟨b,m,ak⟩ (.int .u64 (qO wd xv))) b (mid0 wd d inp o nw (m+1)) from⟨(HG.out gd).setCell (p:=⟨b,m,ak⟩) HU.out.2.2.2 _,by
       rw[←mid0_succ,W0.out]
       exact jI.set (HM.out.2.imp fun cs h=>⟨aB h.1 gd.below,h.2⟩) (by rw[mid0_len];exact hmn) _⟩)
      clear x1 xi rf rc;go_wp2_with fail;go_roundw
      case measure=>simp[intOf];omega
      case rel=>exact⟨m+1,show _ =bh .i64 ((m+1:Nat):Int) from by go_num,by omega,HN⟩
     ·have hmn2:nw=m:=by omega
      subst hmn2
      have hm2:¬(nw:Int)<(nw:Int):=by omega
      have hti:nw<=ti:=by
       have h1:=HW.out.2.2.2.2.1;have h2:=HW.out.2.2.2.2.2.1;have h3:=HH.out.2.2.2.1;have h4:=HI.out.2.2.2.1;have h5:=HH.out.2.2.2.2.2.1;rw[fj]at h4;rw[if_pos HK.out]at h1;omega
      have hsl:=slice_from Ai hti HI.out.2.2.2.2;obtain⟨Aj,hAj⟩:∃x,x=cutA Ai ci nw:=⟨_,rfl⟩;obtain⟨tj,htj⟩:∃x,x=ti - nw:=⟨_,rfl⟩;obtain⟨cj,hcj⟩:∃x,x=ci - nw:=⟨_,rfl⟩;rw[←hAj,←htj,←hcj]at hsl
      have HIN:=aa (show bX c.w0 Aj (inp.drop (fI ds (k+1)).length)/\tj=(inp.drop (fI ds (k+1)).length).length/\tj<=cj from by
       have h1:=HW.out.2.2.2.2.1;rw[if_pos HK.out]at h1;have h4:=HI.out.2.2.2.1;have h6:=HI.out.2.2.2.2;rw[h1,←List.drop_drop,hAj,htj,hcj];refine⟨bX.cut HI.out.2.2.1 (by rw[←h4];exact h6),?_,by omega⟩
       rw[fj,←h4])
      have HWC:=aa (show Below gg.W.heap.size gg.W wr/\jI wr b (iE wd d inp o nw) from⟨HM.out.1,by rw[←mid0_full];exact HM.out.2⟩);have s6:=HS6.out _ HM.out.1;clear hAj htj hcj hti
      go_wp2_with (at_builtin;refine Kd.cX kSl (w0:=c.w0) c.w0.heap.size rfl (.tmp 71) (.tmp 73) 37 36 (.slice ak 0 0) 24 rfl oY info36 rfl (by decide) (by decide) vo ts (b,nw,cap) [.slice (ag ⟨b,0,ak⟩) nw cap] (fun _=>True) (fun _=>False) rfl rfl rfl (fun _ h=>h.elim) (fun _ _=>trivial) (HVS.out _ HWC.out.1).1.rows.out (HVS.out _ HWC.out.1).1.low (HVS.out _ HWC.out.1).1.low.size TL.out ?_)
      intro v2 u2 hr2 hb2 hg2 hat2;have HSR:=aa ((HVS.out _ HWC.out.1).1.row hg2 (b:=b) (cap:=cap) (l:=iE wd d inp o nw) (by rw[HPL.out];exact hr2) HWC.out.2 HBB.out.1 HBB.out.2 hb2 HB.out.1);obtain⟨A2,k2,hv2⟩:=Kd.bN hr2;subst hv2;have y0:u2.cell? ⟨c.mb,6,ak⟩=ag vo:=(aA HSR.out.2 6).trans rfl;have y1:u2.frozen? ⟨c.mb,6,ak⟩=ac:=aH HSR.out.2 6
      have HN:=aa (show Kt [36,74,93] (ag c.ab) X (u2.setCell ⟨c.mb,6,ak⟩ (.slice A2 (ts++[(b,nw,cap)]).length k2))/\Sm c (k+1) (.slice A2 (ts++[(b,nw,cap)]).length k2) (ts++[(b,nw,cap)]) (gF wd ds inp (k+1)) (u2.setCell ⟨c.mb,6,ak⟩ (.slice A2 (ts++[(b,nw,cap)]).length k2)) from⟨(((HKV.out.trans (Kt.of_below HWC.out.1 _ _))).grown hg2 (fun j hj=>by
       obtain⟨inner,ho⟩:=Kd.mH (HVS.out _ HWC.out.1).1.rows.out;obtain⟨cells,hc⟩:=dO ho j hj
       exact⟨cells,36,_,by simp,hc⟩)).set HSR.out.2 (by simp) 6 _,by
       have h1:=HSR.out.1;rw[HPL.out]at h1;rw[HW.out.2.2.2.1,show row0 wd d inp o=iE wd d inp o nw from by unfold row0 iE;rw[←HW.out.2.2.1,ax]]
       exact h1⟩)
      rw[show(ts++[(b,nw,cap)]).length=ts.length+1 from by simp]at HN ⊢;clear hr2 hb2 hg2 hat2;go_wp2_with fail;clear s6 y0 y1 hsl;go_roundw
      case measure=>simp[intOf];omega
      case rel=>exact⟨k+1,Aj,tj,cj,_,_,rfl,show _ =bh .i64 ((k+1:Nat):Int) from by go_num,by omega,⟨HN.out.1,HN.out.2,HIN.out⟩⟩
   ·have hln:d.f3.length=nw:=by have:=RD.out.2 hk3;have:=HW.out.2.2.1;omega
    have HK3:=aa hk3;have k3:(d.f0==3)=af:=beq_iff_eq.2 hk3
    have HIN:=aa (show bX c.w0 Ai (inp.drop (fI ds (k+1)).length)/\ti=(inp.drop (fI ds (k+1)).length).length/\ti<=ci from by
     have h1:=HW.out.2.2.2.2.1;rw[if_neg (by omega),gm]at h1;rw[h1]
     exact⟨HI.out.2.2.1,HI.out.2.2.2.1,HI.out.2.2.2.2⟩)
    have HC3:=aa (show(Kd.int .u64).C u1 A9 nw d.f3 from hln ▸ HC9.out _ HU.out.1);have HL3:=aa hln;rw[hln]at d3;clear hk3 hln
    go_wp2_with (refine Kd.R_copy (enc:=fun x:Int=>.int .u64 x) (h1:=fun _=>rfl) (0:Int) (w0:=gg.W) gg.W.heap.size rfl (.tmp 40) (.tmp 42) 36 36 74 rfl gM (by kernel_rfl) (.slice (ag ⟨b,0,ak⟩) nw cap) (bg nw (0:Int)) d.f3 A9 nw c9 (fun _=>True) rfl rfl HU.out.2.2.1 HC3.out HU.out.1 HU.out.1.size ?_)
    intro u3 hr3 hb3 hg3
    have HWC:=aa (show Below gg.W.heap.size gg.W u3/\jI u3 b (iE wd d inp o nw) from⟨hb3,by
     have e:iE wd d inp o nw=d.f3:=by
      unfold iE;refine List.ext_getElem (by simp[HL3.out]) fun i h1 h2=> ?_;rw[List.getElem_map,List.getElem_range];unfold lF;rw[if_pos HK3.out,aw,az h2];rfl
     have hr4:(Kd.int .u64).R 74 u3 gg.W.heap.size (fun _=>True) (.slice (ag ⟨b,0,ak⟩) nw cap) (List.take nw d.f3):=hr3;rw[List.take_of_length_le (by rw[HL3.out];exact aq _)]at hr4;rw[e];obtain⟨b',cap',cs,hv,hcs,hcells⟩:=qQ hr4 (by rw[HL3.out];omega);injection hv with hv;injection hv with hv;injection hv with hv;subst hv
     exact⟨cs,hcs,hcells⟩⟩)
    have s6:=HS6.out _ hb3;clear hr3 hb3 hg3 d0 d1 d2 d3
    go_wp2_with (at_builtin;refine Kd.cX kSl (w0:=c.w0) c.w0.heap.size rfl (.tmp 71) (.tmp 73) 37 36 (.slice ak 0 0) 24 rfl oY info36 rfl (by decide) (by decide) vo ts (b,nw,cap) [.slice (ag ⟨b,0,ak⟩) nw cap] (fun _=>True) (fun _=>False) rfl rfl rfl (fun _ h=>h.elim) (fun _ _=>trivial) (HVS.out _ HWC.out.1).1.rows.out (HVS.out _ HWC.out.1).1.low (HVS.out _ HWC.out.1).1.low.size TL.out ?_)
    intro v2 u2 hr2 hb2 hg2 hat2;have HSR:=aa ((HVS.out _ HWC.out.1).1.row hg2 (b:=b) (cap:=cap) (l:=iE wd d inp o nw) (by rw[HPL.out];exact hr2) HWC.out.2 HBB.out.1 HBB.out.2 hb2 HB.out.1);obtain⟨A2,k2,hv2⟩:=Kd.bN hr2;subst hv2;have y0:u2.cell? ⟨c.mb,6,ak⟩=ag vo:=(aA HSR.out.2 6).trans rfl;have y1:u2.frozen? ⟨c.mb,6,ak⟩=ac:=aH HSR.out.2 6
    have HN:=aa (show Kt [36,74,93] (ag c.ab) X (u2.setCell ⟨c.mb,6,ak⟩ (.slice A2 (ts++[(b,nw,cap)]).length k2))/\Sm c (k+1) (.slice A2 (ts++[(b,nw,cap)]).length k2) (ts++[(b,nw,cap)]) (gF wd ds inp (k+1)) (u2.setCell ⟨c.mb,6,ak⟩ (.slice A2 (ts++[(b,nw,cap)]).length k2)) from⟨(((HKV.out.trans (Kt.of_below HWC.out.1 _ _))).grown hg2 (fun j hj=>by
     obtain⟨inner,ho⟩:=Kd.mH (HVS.out _ HWC.out.1).1.rows.out;obtain⟨cells,hc⟩:=dO ho j hj
     exact⟨cells,36,_,by simp,hc⟩)).set HSR.out.2 (by simp) 6 _,by
     have h1:=HSR.out.1;rw[HPL.out]at h1;rw[HW.out.2.2.2.1,show row0 wd d inp o=iE wd d inp o nw from by unfold row0 iE;rw[←HW.out.2.2.1,ax]]
     exact h1⟩)
    rw[show(ts++[(b,nw,cap)]).length=ts.length+1 from by simp]at HN ⊢;clear hr2 hb2 hg2 hat2;go_wp2_with fail;clear s6 y0 y1;go_roundw
    case measure=>simp[intOf];omega
    case rel=>exact⟨k+1,_,_,_,_,_,rfl,show _ =bh .i64 ((k+1:Nat):Int) from by go_num,by omega,⟨HN.out.1,HN.out.2,HIN.out⟩⟩
   ·have k3:¬d.f0=3:=by omega
    have HK4:=aa (show ¬(d.f0=1\/d.f0=2) by omega)
    have HIN:=aa (show bX c.w0 Ai (inp.drop (fI ds (k+1)).length)/\ti=(inp.drop (fI ds (k+1)).length).length/\ti<=ci from by
     have h1:=HW.out.2.2.2.2.1;rw[if_neg (by omega),gm]at h1;rw[h1]
     exact⟨HI.out.2.2.1,HI.out.2.2.2.1,HI.out.2.2.2.2⟩)
    go_wp2_with fail;refine(input_v (b:=ac) (by rw[decide_eq_false HK4.out]) A9 c9 u1 (HC9.out _ HU.out.1) HW.out.2.2.2.2.2.2.2.2.1).mono ?_;rintro _ u3 ⟨rfl,hb3⟩;have hb4:=HU.out.1.trans (hb3.mono HU.out.1.size)
    have HWC:=aa (show Below gg.W.heap.size gg.W u3/\jI u3 b (iE wd d inp o nw) from⟨hb4,by
     have e:iE wd d inp o nw=mid0 wd d inp o nw 0:=by
      unfold iE mid0;refine List.map_congr_left fun i hi=> ?_;rw[if_neg (da _)];unfold lF;rw[if_neg k3,if_neg HK4.out]
     rw[e]
     exact HU.out.2.1.imp fun cs h=>⟨aB h.1 hb3,h.2⟩⟩)
    have s6:=HS6.out _ hb4;clear hb3 hb4 d0 d1 d2 d3
    go_wp2_with (at_builtin;refine Kd.cX kSl (w0:=c.w0) c.w0.heap.size rfl (.tmp 71) (.tmp 73) 37 36 (.slice ak 0 0) 24 rfl oY info36 rfl (by decide) (by decide) vo ts (b,nw,cap) [.slice (ag ⟨b,0,ak⟩) nw cap] (fun _=>True) (fun _=>False) rfl rfl rfl (fun _ h=>h.elim) (fun _ _=>trivial) (HVS.out _ HWC.out.1).1.rows.out (HVS.out _ HWC.out.1).1.low (HVS.out _ HWC.out.1).1.low.size TL.out ?_)
    intro v2 u2 hr2 hb2 hg2 hat2;have HSR:=aa ((HVS.out _ HWC.out.1).1.row hg2 (b:=b) (cap:=cap) (l:=iE wd d inp o nw) (by rw[HPL.out];exact hr2) HWC.out.2 HBB.out.1 HBB.out.2 hb2 HB.out.1);obtain⟨A2,k2,hv2⟩:=Kd.bN hr2;subst hv2;have y0:u2.cell? ⟨c.mb,6,ak⟩=ag vo:=(aA HSR.out.2 6).trans rfl;have y1:u2.frozen? ⟨c.mb,6,ak⟩=ac:=aH HSR.out.2 6
    have HN:=aa (show Kt [36,74,93] (ag c.ab) X (u2.setCell ⟨c.mb,6,ak⟩ (.slice A2 (ts++[(b,nw,cap)]).length k2))/\Sm c (k+1) (.slice A2 (ts++[(b,nw,cap)]).length k2) (ts++[(b,nw,cap)]) (gF wd ds inp (k+1)) (u2.setCell ⟨c.mb,6,ak⟩ (.slice A2 (ts++[(b,nw,cap)]).length k2)) from⟨(((HKV.out.trans (Kt.of_below HWC.out.1 _ _))).grown hg2 (fun j hj=>by
     obtain⟨inner,ho⟩:=Kd.mH (HVS.out _ HWC.out.1).1.rows.out;obtain⟨cells,hc⟩:=dO ho j hj
     exact⟨cells,36,_,by simp,hc⟩)).set HSR.out.2 (by simp) 6 _,by
     have h1:=HSR.out.1;rw[HPL.out]at h1;rw[HW.out.2.2.2.1,show row0 wd d inp o=iE wd d inp o nw from by unfold row0 iE;rw[←HW.out.2.2.1,ax]]
     exact h1⟩)
    rw[show(ts++[(b,nw,cap)]).length=ts.length+1 from by simp]at HN ⊢;clear hr2 hb2 hg2 hat2;go_wp2_with fail;clear s6 y0 y1;go_roundw
    case measure=>simp[intOf];omega
    case rel=>exact⟨k+1,_,_,_,_,_,rfl,show _ =bh .i64 ((k+1:Nat):Int) from by go_num,by omega,⟨HN.out.1,HN.out.2,HIN.out⟩⟩
  ·have hkn:k=n:=by omega
   have HKN:=aa hkn
   have hge:¬(k:Int)<(n:Int):=by omega
   clear hkn;go_wp2_with fail;go_ret
   have hdn:c.ds.length=k:=by rw[HB.out.2.2.2.2.2.2,←HH.out.2.2.2.2.1,HKN.out]
   obtain⟨D,a1,a2⟩:=HI.out.2.1.ha;have h6:=HI.out.2.1;have hM:MAt c (gF wd ds inp k) [] [] wr:=⟨h6.low,⟨HB.out.1,HB.out.2.1,HB.out.2.2.1,HB.out.2.2.2.1,HB.out.2.2.2.2.1⟩,⟨_,h6.m,_,h6.rows⟩,h6.eye,⟨D,by rw[hdn];exact a1,tA.ok (by rw[hdn];exact a2)⟩,h6.hl⟩;have hK:=(Kt.of_below HH.out.2.2.2.2.2.2.2 [36,74,93] (ag c.ab)).trans HI.out.1;rw[HKN.out]at hM;rw[HC.out]at hM hK ⊢;exact⟨_,rfl,_,⟨_,hM⟩,hK⟩
end
end Go.Proofs.YtfigjpehecibeaaGreat.L
