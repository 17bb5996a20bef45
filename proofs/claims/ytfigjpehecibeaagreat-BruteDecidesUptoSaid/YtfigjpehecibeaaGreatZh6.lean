/- Texts joined by a program of mine: Ud Ui Uj Uk Lt Ul Um Un Uo Up Ue Uf Ug Uh. -/
import Derived.Test.YtfigjpehecibeaaGreatZh4
import Derived.Test.YtfigjpehecibeaaGreatZh5
set_option maxRecDepth 100000
open And renaming intro -> aj
open Bool renaming true -> af, false -> ac, true_and -> ku, false_and -> jk, false_eq_true -> kn
open Decidable renaming em -> gy
open Go.Act renaming put -> ay
open Go.Ending renaming returned -> gj
open Go.IntKind renaming bits -> jf, signed -> js
open Go.Proofs.Tryz renaming prog -> au
open Go.Proofs.YtfigjpehecibeaaGreatW.PrintWords.Aside0 renaming mk -> aa
open Go.RowKit.Below renaming refl -> ar
open Go.World renaming block_lt_of_cell? -> av
open Int renaming natCast_nonneg -> bo, toNat_natCast -> ax, lt_or_le -> dh
open List renaming mem_cons -> iv, setIfInBounds_toArray -> ae, set_cons_zero -> ah, set_cons_succ -> ai, map_toArray -> cd, map_cons -> cg, map_nil -> db, take_length -> eu, sizeOf_lt_of_mem -> gq, getD_eq_getElem?_getD -> aw, getElem?_take -> ke, getElem_of_mem -> gr, getElem?_eq_getElem -> az
open Nat renaming le_refl -> aq, add_zero -> gm, le_trans -> bi, zero_le -> bk, not_lt_zero -> da, eq_zero_or_pos -> cq, min_eq_left -> di, min_eq_right -> iz, mul_one -> ib
open Option renaming some -> ag, none -> ak
open Or renaming inl -> bc
open SizeOf renaming sizeOf -> cz
set_option linter.unusedVariables false
set_option linter.unusedSimpArgs false
set_option maxHeartbeats 8000000
namespace Go.Proofs.YtfigjpehecibeaaGreat.L
open Go.RowKit Go.Proofs.YtfigjpehecibeaaGreatW.PrintWords Go.Proofs.YtfigjpehecibeaaGreatW.PrintLast Go.Proofs.YtfigjpehecibeaaGreatW.PrintMore Go.Proofs.YtfigjpehecibeaaGreat.Gr
section
attribute [local go_sem] G.cell
def qOf (A3:Option Addr)(ds:List S70)(s:ByteArray):Option Addr:=match cG ds s,A3 with
 |some i,ag ad=>ag (ad.add (i*4))
 |_,_=>ak
theorem find_q (nm:ByteArray)(wd ln:Int)(ds:List S70)(A3:Option Addr)(c3:Nat)(A4:Option Addr)(n4 c4:Nat)(s:ByteArray)(w:World)(hd:k70.C w A3 ds.length ds)(hld:ds.length<=c3):
 Calls au 181 #[.agg #[.string nm,.int .i64 wd,.int .i64 ln,.slice A3 ds.length c3,.slice A4 n4 c4],.string s] w fun e w'=>e=.returned (.pointer (qOf A3 ds s))/\Below w.heap.size w w':=by
 refine(find_calls nm wd ln ds A3 c3 A4 n4 c4 s w hd hld).mono ?_;rintro _ w' ⟨q,rfl,⟨h1,h2⟩,hb⟩;refine⟨?_,hb⟩;unfold qOf
 cases hf:cG ds s with
 |none=>
  rw[hf]at h1
  cases q with
  |none=>rfl
  |some a=>simp at h1
 |some i=>
  obtain⟨ad,rfl,rfl⟩:=h2 i hf;rfl
theorem qOf_none {A3:Option Addr}{ds:List S70}{s:ByteArray}(h:(cG ds s).isNone=af):qOf A3 ds s=ak:=by
 unfold qOf
 cases hf:cG ds s with
 |none=>rfl
 |some i=>rw[hf]at h;cases h
theorem qOf_some {w:World}{A3:Option Addr}{ds:List S70}{s:ByteArray}(hd:k70.C w A3 ds.length ds)(h:(cG ds s).isNone=ac):∃a,qOf A3 ds s=ag a:=by
 unfold qOf
 cases hf:cG ds s with
 |none=>rw[hf]at h;cases h
 |some i=>
  have hlt:=findB_lt hf;obtain⟨ad,_,_,e,_⟩:=eD hd (0:Int) (Int.le_refl _) (by omega);subst e;exact⟨_,rfl⟩
def RW (t:Th):Prop:=RT t/\match t with
 | .expr e _=>aM e<=8388608
 |_=>True
theorem cl10_calls {Wb:World}(nm:ByteArray)(wd ln:Int)(ds:List S70)(bd:List S119)(A3:Option Addr)(c3:Nat)(A4:Option Addr)(c4:Nat)(W:World)(n:Nat)(dp sp ep:Value)(dI:Int)(lp:Value)(t:Th)(hR:RW t)(hB:Below Wb.heap.size Wb W)(ht:ThP Wb W dp sp ep dI lp t)(b:Bool)(hb:b=qX t):
 Calls au 191 #[.agg #[.string nm,.int .i64 wd,.int .i64 ln,.slice A3 ds.length c3,.slice A4 bd.length c4],.agg #[.int .i64 n,dp,sp,ep,.int .i64 dI,lp]] W fun e w'=>e=.returned (.bool b)/\Below W.heap.size W w':=by
 have gout:∀{o o':Obj} (g:G ((W.alloc o).alloc o')),Below W.heap.size W g.W:=fun g=>(((ar _ _).alloc (aq _) _).alloc (by simp) _).trans (g.below.mono (by simp;omega));have HB:=aa hB;have HR:=aa hb;clear hb hB;go_enter Tryz.func191,Tryz.ntmps191
 go_upto_region 1 with (fail)
 refine aG ?_;intro gg;have goutW:∀(g:G (gw0 gg)),Below W.heap.size W g.W:=fun g=>gout g;have goutB:∀(g:G (gw0 gg)),Below Wb.heap.size Wb g.W:=fun g=>HB.out.trans ((goutW g).mono HB.out.size)
 cases t with
 |decl i=>
  obtain⟨⟨a,rfl⟩,rfl,rfl,rfl,rfl⟩:=ht;clear hR;go_wp2_with fail;go_ret;exact⟨aC (by rw[HR.out];rfl),goutW _⟩
 |stmt s d lo=>
  obtain⟨rfl,⟨a,A5,c5,A9,c9,A12,c12,A13,c13,rfl,hr,_⟩,rfl,rfl,hsc⟩:=ht;clear hr hsc hR
  by_cases h:64<d
  ·have h':(64:Int)<(d:Int):=by omega
   have H:=aa h;clear h;go_wp2_with fail;go_ret;exact⟨aC (by rw[HR.out];simp[qX,H.out]),goutW _⟩
  ·have h':¬(64:Int)<(d:Int):=by omega
   have H:=aa h;clear h;go_wp2_with fail;go_ret;exact⟨aC (by rw[HR.out];have:=H.out;simp[qX];omega),goutW _⟩
 |expr x lo=>
  obtain⟨rfl,rfl,⟨a,A,c,rfl,hr,hl,hC⟩,rfl,hsc⟩:=ht;have HC:=aa (aj hl hC);have q0:gg.W.cell? ⟨a.block,a.off,ak⟩=ag (.int .i64 x.f0):=aE (goutB gg) (by have:=hr 0 _ rfl;rwa [gm]at this);have q1:gg.W.cell? ⟨a.block,a.off+1,ak⟩=ag (.int .u64 x.f1):=aE (goutB gg) (hr 1 _ rfl);have q2:gg.W.cell? ⟨a.block,a.off+2,ak⟩=ag (.string x.f2):=aE (goutB gg) (hr 2 _ rfl);have q3:gg.W.cell? ⟨a.block,a.off+3,ak⟩=ag (.slice A x.f3.length c):=aE (goutB gg) (hr 3 _ rfl);have HW:=aa (show gH x<=8388608 from bi (mW x) hR.2);clear hr hsc hl hC hR;go_wp2_with fail;refine(aD (g:=gg) (depth_calls _ x (aq _) (by have:=HW.out;omega) A c gg.W (Kd.aF HC.out.2 (goutB gg)) HC.out.1)).mono ?_;rintro _ _ ⟨rfl,gg,rfl⟩
  by_cases h:64<gH x
  ·have h':(64:Int)<(gH x:Int):=by omega
   have H:=aa h;clear h;go_wp2_with fail;go_ret;exact⟨aC (by rw[HR.out];simp[qX,H.out]),goutW _⟩
  ·have h':¬(64:Int)<(gH x:Int):=by omega
   have H:=aa h;clear h;go_wp2_with fail;go_ret;exact⟨aC (by rw[HR.out];have:=H.out;simp[qX];omega),goutW _⟩
theorem cl11_calls {Wb:World}(nm:ByteArray)(wd ln:Int)(ds:List S70)(bd:List S119)(A3:Option Addr)(c3:Nat)(A4:Option Addr)(c4:Nat)(hp:ProgAt Wb ds bd A3 c3 A4 c4)(W:World)(n:Nat)(dp sp ep:Value)(dI:Int)(lp:Value)(t:Th)(hR:RT t)(hB:Below Wb.heap.size Wb W)(ht:ThP Wb W dp sp ep dI lp t)(b:Bool)(hb:b=lG ds t):
 Calls au 193 #[.agg #[.string nm,.int .i64 wd,.int .i64 ln,.slice A3 ds.length c3,.slice A4 bd.length c4],.agg #[.int .i64 n,dp,sp,ep,.int .i64 dI,lp]] W fun e w'=>e=.returned (.bool b)/\Below W.heap.size W w':=by
 have gout:∀{o o':Obj} (g:G ((W.alloc o).alloc o')),Below W.heap.size W g.W:=fun g=>(((ar _ _).alloc (aq _) _).alloc (by simp) _).trans (g.below.mono (by simp;omega));have HB:=aa hB;have HP:=aa hp;have HR:=aa hb;have HT:=aa ht;have HRT:=aa hR;clear hb hB hp ht hR;go_enter Tryz.func193,Tryz.ntmps193
 go_upto_region 1 with (fail)
 refine aG ?_;intro gg;have goutW:∀(g:G (gw0 gg)),Below W.heap.size W g.W:=fun g=>gout g;have goutB:∀(g:G (gw0 gg)),Below Wb.heap.size Wb g.W:=fun g=>HB.out.trans ((goutW g).mono HB.out.size);obtain⟨r1,h1⟩:∃r,r=(jS t).getD ⟨#[]⟩:=⟨_,rfl⟩;obtain⟨r2,h2⟩:∃r,r=(jS t).isSome:=⟨_,rfl⟩;have HU:=aa (show(r1,r2)=((jS t).getD ⟨#[]⟩,(jS t).isSome) by rw[h1,h2]);have HV:=aa (aj h1 h2);clear h1 h2;go_wp2_with fail;refine(aD (g:=gg) (use_calls gg.W n dp sp ep dI lp t HRT.out (goutB gg) (HT.out.below (goutW gg)) r1 r2 HU.out)).mono ?_;rintro _ _ ⟨rfl,gg,rfl⟩
 cases hu:jS t with
 |none=>
  have e2:r2=ac:=by rw[HV.out.2,hu];rfl
  have HE:=aa (show b=ac by rw[HR.out];unfold lG;rw[hu]);clear hu;subst e2;go_wp2_with fail;go_ret;exact⟨aC HE.out.symm,goutW _⟩
 |some s=>
  have e2:r2=af:=by rw[HV.out.2,hu];rfl
  have e1:r1=s:=by rw[HV.out.1,hu];rfl
  have HE:=aa (show b=(!iL (gN t) s&&(cG ds s).isNone) by rw[HR.out];unfold lG;rw[hu]);clear hu;subst e2 e1;go_wp2_with fail
  rcases aL (iL (gN t) r1)with hh | hh
  ·refine(aD (g:=gg) (has_v (HT.out.scope.below (goutW gg)) hh)).mono ?_;rintro _ _ ⟨rfl,gg,rfl⟩;have HH:=aa hh;clear hh;go_wp2_with fail;go_ret;exact⟨aC (by rw[HE.out,HH.out];rfl),goutW _⟩
  ·refine(aD (g:=gg) (has_v (HT.out.scope.below (goutW gg)) hh)).mono ?_;rintro _ _ ⟨rfl,gg,rfl⟩;have HH:=aa hh;clear hh;go_wp2_with fail;refine(aD (g:=gg) (find_q nm wd ln ds A3 c3 A4 bd.length c4 r1 gg.W (Kd.aF HP.out.hd (goutB gg)) HP.out.hld)).mono ?_;rintro _ _ ⟨rfl,gg,rfl⟩
   rcases aL ((cG ds r1).isNone)with hn | hn
   ·rw[qOf_none hn];have HN:=aa hn;clear hn;go_wp2_with fail;go_ret;exact⟨aC (by rw[HE.out,HH.out,HN.out];rfl),goutW _⟩
   ·obtain⟨qa,hq⟩:=qOf_some HP.out.hd hn;rw[hq];have HN:=aa hn;clear hn hq;go_wp2_with fail;go_ret;exact⟨aC (by rw[HE.out,HH.out,HN.out];rfl),goutW _⟩
end
section
attribute [local go_sem] G.cell
def oJ (K:FuncId)(W0:World)(nm:ByteArray)(wd ln:Int)(ds:List S70)(bd:List S119)(A3:Option Addr)(c3:Nat)(A4:Option Addr)(c4:Nat)(R:Th->Prop)(f:Th->Bool):Prop:=
 ∀(Wb W:World) (n:Nat) (dp sp ep:Value) (dI:Int) (lp:Value) (t:Th),R t->Below W0.heap.size W0 Wb->Below Wb.heap.size Wb W->ThP Wb W dp sp ep dI lp t->
 Calls au K #[.agg #[.string nm,.int .i64 wd,.int .i64 ln,.slice A3 ds.length c3,.slice A4 bd.length c4],.agg #[.int .i64 n,dp,sp,ep,.int .i64 dI,lp]] W fun e w'=>e=.returned (.bool (f t))/\Below W.heap.size W w'
theorem wrong61_ok {W0:World}{b1 b2:Nat}{nm:ByteArray}{wd ln:Int}{ds:List S70}{bd:List S119}{A3:Option Addr}{c3:Nat}{A4:Option Addr}{c4:Nat}{R:Th->Prop}{f:Th->Bool}(hc:oJ 191 W0 nm wd ln ds bd A3 c3 A4 c4 R f)
 (h1:W0.heap[b1]? =ag (.cells #[.func (.func 191) #[] #[]] 240 (0,0))) (h2:W0.heap[b2]? =ag (.cells #[.string nm,.int .i64 wd,.int .i64 ln,.slice A3 ds.length c3,.slice A4 bd.length c4] 25 (0,0))):kW W0 (.pointer (ag ⟨b1,0,ak⟩)) (.pointer (ag ⟨b2,0,ak⟩)) R f:=by
 intro Wb W n dp sp ep dI lp t hR h0 hB ht;have gout:=@gA W;have hBW:=h0.trans (hB.mono h0.size);have k1:=(hBW.block b1 (aX h1)).trans h1;have k2:=(hBW.block b2 (aX h2)).trans h2;have l1:=aX k1;have l2:=aX k2;have y0:W.cell? ⟨b1,0,ak⟩=ag (.func (.func 191) #[] #[]):=(aA k1 0).trans rfl;have z0:W.cell? ⟨b2,0,ak⟩=ag (.string nm):=(aA k2 0).trans rfl;have z1:W.cell? ⟨b2,1,ak⟩=ag (.int .i64 wd):=(aA k2 1).trans rfl;have z2:W.cell? ⟨b2,2,ak⟩=ag (.int .i64 ln):=(aA k2 2).trans rfl;have z3:W.cell? ⟨b2,3,ak⟩=ag (.slice A3 ds.length c3):=(aA k2 3).trans rfl;have z4:W.cell? ⟨b2,4,ak⟩=ag (.slice A4 bd.length c4):=(aA k2 4).trans rfl;have HX:=aa (aj hR (aj h0 (aj hB ht)));have HC:=aa hc;clear hR h0 hB ht hc k1 k2 h1 h2 hBW;go_enter Tryz.func251,Tryz.ntmps251
 go_upto_region 1 with (fail)
 refine aG ?_;intro gg;go_wp2_with fail;refine(aD (g:=gg) (HC.out Wb gg.W n dp sp ep dI lp t HX.out.1 HX.out.2.1 (HX.out.2.2.1.trans ((gout gg).mono HX.out.2.2.1.size)) (HX.out.2.2.2.below (gout gg)))).mono ?_;rintro _ _ ⟨rfl,gg,rfl⟩;go_wp2_with fail;go_ret;exact⟨rfl,gout _⟩
theorem wrong63_ok {W0:World}{b1 b2:Nat}{nm:ByteArray}{wd ln:Int}{ds:List S70}{bd:List S119}{A3:Option Addr}{c3:Nat}{A4:Option Addr}{c4:Nat}{R:Th->Prop}{f:Th->Bool}(hc:oJ 193 W0 nm wd ln ds bd A3 c3 A4 c4 R f)
 (h1:W0.heap[b1]? =ag (.cells #[.func (.func 193) #[] #[]] 240 (0,0))) (h2:W0.heap[b2]? =ag (.cells #[.string nm,.int .i64 wd,.int .i64 ln,.slice A3 ds.length c3,.slice A4 bd.length c4] 25 (0,0))):kW W0 (.pointer (ag ⟨b1,0,ak⟩)) (.pointer (ag ⟨b2,0,ak⟩)) R f:=by
 intro Wb W n dp sp ep dI lp t hR h0 hB ht;have gout:=@gA W;have hBW:=h0.trans (hB.mono h0.size);have k1:=(hBW.block b1 (aX h1)).trans h1;have k2:=(hBW.block b2 (aX h2)).trans h2;have l1:=aX k1;have l2:=aX k2;have y0:W.cell? ⟨b1,0,ak⟩=ag (.func (.func 193) #[] #[]):=(aA k1 0).trans rfl;have z0:W.cell? ⟨b2,0,ak⟩=ag (.string nm):=(aA k2 0).trans rfl;have z1:W.cell? ⟨b2,1,ak⟩=ag (.int .i64 wd):=(aA k2 1).trans rfl;have z2:W.cell? ⟨b2,2,ak⟩=ag (.int .i64 ln):=(aA k2 2).trans rfl;have z3:W.cell? ⟨b2,3,ak⟩=ag (.slice A3 ds.length c3):=(aA k2 3).trans rfl;have z4:W.cell? ⟨b2,4,ak⟩=ag (.slice A4 bd.length c4):=(aA k2 4).trans rfl;have HX:=aa (aj hR (aj h0 (aj hB ht)));have HC:=aa hc;clear hR h0 hB ht hc k1 k2 h1 h2 hBW;go_enter Tryz.func251,Tryz.ntmps251
 go_upto_region 1 with (fail)
 refine aG ?_;intro gg;go_wp2_with fail;refine(aD (g:=gg) (HC.out Wb gg.W n dp sp ep dI lp t HX.out.1 HX.out.2.1 (HX.out.2.2.1.trans ((gout gg).mono HX.out.2.2.1.size)) (HX.out.2.2.2.below (gout gg)))).mono ?_;rintro _ _ ⟨rfl,gg,rfl⟩;go_wp2_with fail;go_ret;exact⟨rfl,gout _⟩
theorem wrong66_ok {W0:World}{b1 b2:Nat}{nm:ByteArray}{wd ln:Int}{ds:List S70}{bd:List S119}{A3:Option Addr}{c3:Nat}{A4:Option Addr}{c4:Nat}{R:Th->Prop}{f:Th->Bool}(hc:oJ 196 W0 nm wd ln ds bd A3 c3 A4 c4 R f)
 (h1:W0.heap[b1]? =ag (.cells #[.func (.func 196) #[] #[]] 240 (0,0))) (h2:W0.heap[b2]? =ag (.cells #[.string nm,.int .i64 wd,.int .i64 ln,.slice A3 ds.length c3,.slice A4 bd.length c4] 25 (0,0))):kW W0 (.pointer (ag ⟨b1,0,ak⟩)) (.pointer (ag ⟨b2,0,ak⟩)) R f:=by
 intro Wb W n dp sp ep dI lp t hR h0 hB ht;have gout:=@gA W;have hBW:=h0.trans (hB.mono h0.size);have k1:=(hBW.block b1 (aX h1)).trans h1;have k2:=(hBW.block b2 (aX h2)).trans h2;have l1:=aX k1;have l2:=aX k2;have y0:W.cell? ⟨b1,0,ak⟩=ag (.func (.func 196) #[] #[]):=(aA k1 0).trans rfl;have z0:W.cell? ⟨b2,0,ak⟩=ag (.string nm):=(aA k2 0).trans rfl;have z1:W.cell? ⟨b2,1,ak⟩=ag (.int .i64 wd):=(aA k2 1).trans rfl;have z2:W.cell? ⟨b2,2,ak⟩=ag (.int .i64 ln):=(aA k2 2).trans rfl;have z3:W.cell? ⟨b2,3,ak⟩=ag (.slice A3 ds.length c3):=(aA k2 3).trans rfl;have z4:W.cell? ⟨b2,4,ak⟩=ag (.slice A4 bd.length c4):=(aA k2 4).trans rfl;have HX:=aa (aj hR (aj h0 (aj hB ht)));have HC:=aa hc;clear hR h0 hB ht hc k1 k2 h1 h2 hBW;go_enter Tryz.func251,Tryz.ntmps251
 go_upto_region 1 with (fail)
 refine aG ?_;intro gg;go_wp2_with fail;refine(aD (g:=gg) (HC.out Wb gg.W n dp sp ep dI lp t HX.out.1 HX.out.2.1 (HX.out.2.2.1.trans ((gout gg).mono HX.out.2.2.1.size)) (HX.out.2.2.2.below (gout gg)))).mono ?_;rintro _ _ ⟨rfl,gg,rfl⟩;go_wp2_with fail;go_ret;exact⟨rfl,gout _⟩
theorem wrong68_ok {W0:World}{b1 b2:Nat}{nm:ByteArray}{wd ln:Int}{ds:List S70}{bd:List S119}{A3:Option Addr}{c3:Nat}{A4:Option Addr}{c4:Nat}{R:Th->Prop}{f:Th->Bool}(hc:oJ 198 W0 nm wd ln ds bd A3 c3 A4 c4 R f)
 (h1:W0.heap[b1]? =ag (.cells #[.func (.func 198) #[] #[]] 240 (0,0))) (h2:W0.heap[b2]? =ag (.cells #[.string nm,.int .i64 wd,.int .i64 ln,.slice A3 ds.length c3,.slice A4 bd.length c4] 25 (0,0))):kW W0 (.pointer (ag ⟨b1,0,ak⟩)) (.pointer (ag ⟨b2,0,ak⟩)) R f:=by
 intro Wb W n dp sp ep dI lp t hR h0 hB ht;have gout:=@gA W;have hBW:=h0.trans (hB.mono h0.size);have k1:=(hBW.block b1 (aX h1)).trans h1;have k2:=(hBW.block b2 (aX h2)).trans h2;have l1:=aX k1;have l2:=aX k2;have y0:W.cell? ⟨b1,0,ak⟩=ag (.func (.func 198) #[] #[]):=(aA k1 0).trans rfl;have z0:W.cell? ⟨b2,0,ak⟩=ag (.string nm):=(aA k2 0).trans rfl;have z1:W.cell? ⟨b2,1,ak⟩=ag (.int .i64 wd):=(aA k2 1).trans rfl;have z2:W.cell? ⟨b2,2,ak⟩=ag (.int .i64 ln):=(aA k2 2).trans rfl;have z3:W.cell? ⟨b2,3,ak⟩=ag (.slice A3 ds.length c3):=(aA k2 3).trans rfl;have z4:W.cell? ⟨b2,4,ak⟩=ag (.slice A4 bd.length c4):=(aA k2 4).trans rfl;have HX:=aa (aj hR (aj h0 (aj hB ht)));have HC:=aa hc;clear hR h0 hB ht hc k1 k2 h1 h2 hBW;go_enter Tryz.func251,Tryz.ntmps251
 go_upto_region 1 with (fail)
 refine aG ?_;intro gg;go_wp2_with fail;refine(aD (g:=gg) (HC.out Wb gg.W n dp sp ep dI lp t HX.out.1 HX.out.2.1 (HX.out.2.2.1.trans ((gout gg).mono HX.out.2.2.1.size)) (HX.out.2.2.2.below (gout gg)))).mono ?_;rintro _ _ ⟨rfl,gg,rfl⟩;go_wp2_with fail;go_ret;exact⟨rfl,gout _⟩
theorem wrong69_ok {W0:World}{b1 b2:Nat}{nm:ByteArray}{wd ln:Int}{ds:List S70}{bd:List S119}{A3:Option Addr}{c3:Nat}{A4:Option Addr}{c4:Nat}{R:Th->Prop}{f:Th->Bool}(hc:oJ 199 W0 nm wd ln ds bd A3 c3 A4 c4 R f)
 (h1:W0.heap[b1]? =ag (.cells #[.func (.func 199) #[] #[]] 240 (0,0))) (h2:W0.heap[b2]? =ag (.cells #[.string nm,.int .i64 wd,.int .i64 ln,.slice A3 ds.length c3,.slice A4 bd.length c4] 25 (0,0))):kW W0 (.pointer (ag ⟨b1,0,ak⟩)) (.pointer (ag ⟨b2,0,ak⟩)) R f:=by
 intro Wb W n dp sp ep dI lp t hR h0 hB ht;have gout:=@gA W;have hBW:=h0.trans (hB.mono h0.size);have k1:=(hBW.block b1 (aX h1)).trans h1;have k2:=(hBW.block b2 (aX h2)).trans h2;have l1:=aX k1;have l2:=aX k2;have y0:W.cell? ⟨b1,0,ak⟩=ag (.func (.func 199) #[] #[]):=(aA k1 0).trans rfl;have z0:W.cell? ⟨b2,0,ak⟩=ag (.string nm):=(aA k2 0).trans rfl;have z1:W.cell? ⟨b2,1,ak⟩=ag (.int .i64 wd):=(aA k2 1).trans rfl;have z2:W.cell? ⟨b2,2,ak⟩=ag (.int .i64 ln):=(aA k2 2).trans rfl;have z3:W.cell? ⟨b2,3,ak⟩=ag (.slice A3 ds.length c3):=(aA k2 3).trans rfl;have z4:W.cell? ⟨b2,4,ak⟩=ag (.slice A4 bd.length c4):=(aA k2 4).trans rfl;have HX:=aa (aj hR (aj h0 (aj hB ht)));have HC:=aa hc;clear hR h0 hB ht hc k1 k2 h1 h2 hBW;go_enter Tryz.func251,Tryz.ntmps251
 go_upto_region 1 with (fail)
 refine aG ?_;intro gg;go_wp2_with fail;refine(aD (g:=gg) (HC.out Wb gg.W n dp sp ep dI lp t HX.out.1 HX.out.2.1 (HX.out.2.2.1.trans ((gout gg).mono HX.out.2.2.1.size)) (HX.out.2.2.2.below (gout gg)))).mono ?_;rintro _ _ ⟨rfl,gg,rfl⟩;go_wp2_with fail;go_ret;exact⟨rfl,gout _⟩
theorem wrong70_ok {W0:World}{b1 b2:Nat}{nm:ByteArray}{wd ln:Int}{ds:List S70}{bd:List S119}{A3:Option Addr}{c3:Nat}{A4:Option Addr}{c4:Nat}{R:Th->Prop}{f:Th->Bool}(hc:oJ 200 W0 nm wd ln ds bd A3 c3 A4 c4 R f)
 (h1:W0.heap[b1]? =ag (.cells #[.func (.func 200) #[] #[]] 240 (0,0))) (h2:W0.heap[b2]? =ag (.cells #[.string nm,.int .i64 wd,.int .i64 ln,.slice A3 ds.length c3,.slice A4 bd.length c4] 25 (0,0))):kW W0 (.pointer (ag ⟨b1,0,ak⟩)) (.pointer (ag ⟨b2,0,ak⟩)) R f:=by
 intro Wb W n dp sp ep dI lp t hR h0 hB ht;have gout:=@gA W;have hBW:=h0.trans (hB.mono h0.size);have k1:=(hBW.block b1 (aX h1)).trans h1;have k2:=(hBW.block b2 (aX h2)).trans h2;have l1:=aX k1;have l2:=aX k2;have y0:W.cell? ⟨b1,0,ak⟩=ag (.func (.func 200) #[] #[]):=(aA k1 0).trans rfl;have z0:W.cell? ⟨b2,0,ak⟩=ag (.string nm):=(aA k2 0).trans rfl;have z1:W.cell? ⟨b2,1,ak⟩=ag (.int .i64 wd):=(aA k2 1).trans rfl;have z2:W.cell? ⟨b2,2,ak⟩=ag (.int .i64 ln):=(aA k2 2).trans rfl;have z3:W.cell? ⟨b2,3,ak⟩=ag (.slice A3 ds.length c3):=(aA k2 3).trans rfl;have z4:W.cell? ⟨b2,4,ak⟩=ag (.slice A4 bd.length c4):=(aA k2 4).trans rfl;have HX:=aa (aj hR (aj h0 (aj hB ht)));have HC:=aa hc;clear hR h0 hB ht hc k1 k2 h1 h2 hBW;go_enter Tryz.func251,Tryz.ntmps251
 go_upto_region 1 with (fail)
 refine aG ?_;intro gg;go_wp2_with fail;refine(aD (g:=gg) (HC.out Wb gg.W n dp sp ep dI lp t HX.out.1 HX.out.2.1 (HX.out.2.2.1.trans ((gout gg).mono HX.out.2.2.1.size)) (HX.out.2.2.2.below (gout gg)))).mono ?_;rintro _ _ ⟨rfl,gg,rfl⟩;go_wp2_with fail;go_ret;exact⟨rfl,gout _⟩
end
section
attribute [local go_sem] G.cell
theorem pP {a c:Int}{b d:Bool}(h1:a=c)(h2:b=d):gj (.tuple #[.int .i64 a,.bool b])=.returned (.tuple #[.int .i64 c,.bool d]):=by rw[h1,h2]
theorem e8 {R:Th->Prop}{f:Th->Bool}(nm:ByteArray)(wd ln:Int)(ds:List S70)(bd:List S119)(A3:Option Addr)(c3:Nat)(A4:Option Addr)(c4:Nat)(b1:Nat)(W:World)(hp:ProgAt W ds bd A3 c3 A4 c4)(hform:bdB bd=af)(hdl:ds.length<=1048576)(hbb:Ot.cK bd<=1048576)(hR:∀t∈things ds bd,R t)
 (hW:∀X b2,Below W.heap.size W X->X.heap[b2]? =ag (.cells #[.string nm,.int .i64 wd,.int .i64 ln,.slice A3 ds.length c3,.slice A4 bd.length c4] 25 (0,0))->kW X (.pointer (ag ⟨b1,0,ak⟩)) (.pointer (ag ⟨b2,0,ak⟩)) R f) (r:Int × Bool) (hr:r=fW f (things ds bd)):
 Calls au 249 #[.agg #[.string nm,.int .i64 wd,.int .i64 ln,.slice A3 ds.length c3,.slice A4 bd.length c4],.pointer (ag ⟨b1,0,ak⟩)] W fun e w'=>e=.returned (.tuple #[.int .i64 r.1,.bool r.2])/\Below W.heap.size W w':=by
 have hmf:∀(fn:Fn) (first cap:Array Value) (w:World),(Instr.makeFunc fn first cap).run au w=.ok (.func fn first cap) w:=fun _ _ _ _=>rfl;have gout:=@gA W;have HP:=aa hp;have HR:=aa hr;have HZ:=aa (aj hform (aj hdl (aj hbb hR)));have HW:=aa hW;clear hp hr hform hdl hbb hR hW;go_enter Tryz.func249,Tryz.ntmps249
 go_upto_region 1 with (fail)
 refine aG ?_;intro gg;have HBX:=aa (show gg.W.heap[W.heap.size]? =ag (.cells #[.string nm,.int .i64 wd,.int .i64 ln,.slice A3 ds.length c3,.slice A4 bd.length c4] 25 (0,0)) from aB (aW _ _) gg.below);go_wp2_with fail
 have F:=first_calls (HW.out gg.W W.heap.size (gout gg) HBX.out) nm wd ln ds bd A3 c3 A4 c4 gg.W (HP.out.below (gout gg)) HZ.out.1 HZ.out.2.1 HZ.out.2.2.1 HZ.out.2.2.2 (ar _ _)
 rw[←HR.out]at F;refine(aD (g:=gg) F).mono ?_;clear F;rintro _ _ ⟨rfl,gg,rfl⟩;go_wp2_with fail;go_ret2;exact⟨rfl,gout _⟩
theorem whole44_calls (nm:ByteArray)(wd ln:Int)(ds:List S70)(bd:List S119)(A3:Option Addr)(c3:Nat)(A4:Option Addr)(c4:Nat)(b1:Nat)(W:World)(hb1:W.heap[b1]? =ag (.cells #[.func (.func 75) #[] #[]] 33 (0,0)))(b:Bool)
 (hc:∀X,Below W.heap.size W X->Calls au 75 #[.agg #[.string nm,.int .i64 wd,.int .i64 ln,.slice A3 ds.length c3,.slice A4 bd.length c4]] X fun e w'=>e=.returned (.bool b)/\Below X.heap.size X w'):
 Calls au 246 #[.agg #[.string nm,.int .i64 wd,.int .i64 ln,.slice A3 ds.length c3,.slice A4 bd.length c4],.pointer (ag ⟨b1,0,ak⟩)] W fun e w'=>e=.returned (.tuple #[.int .i64 (-1),.bool (!b)])/\Below W.heap.size W w':=by
 have gout:=@gA W;have HC:=aa hc;have l1:=aX hb1;have y0:W.cell? ⟨b1,0,ak⟩=ag (.func (.func 75) #[] #[]):=(aA hb1 0).trans rfl;clear hc hb1;go_enter Tryz.func246,Tryz.ntmps246
 go_upto_region 1 with (fail)
 refine aG ?_;intro gg;go_wp2_with fail;refine(aD (g:=gg) (HC.out gg.W (gout gg))).mono ?_;rintro _ _ ⟨rfl,gg,rfl⟩;go_wp2_with fail;go_ret2;exact⟨rfl,gout _⟩
theorem whole45_calls (nm:ByteArray)(wd ln:Int)(ds:List S70)(bd:List S119)(A3:Option Addr)(c3:Nat)(A4:Option Addr)(c4:Nat)(b1:Nat)(W:World)(hb1:W.heap[b1]? =ag (.cells #[.func (.func 175) #[] #[]] 33 (0,0)))(b:Bool)
 (hc:∀X,Below W.heap.size W X->Calls au 175 #[.agg #[.string nm,.int .i64 wd,.int .i64 ln,.slice A3 ds.length c3,.slice A4 bd.length c4]] X fun e w'=>e=.returned (.bool b)/\Below X.heap.size X w'):
 Calls au 246 #[.agg #[.string nm,.int .i64 wd,.int .i64 ln,.slice A3 ds.length c3,.slice A4 bd.length c4],.pointer (ag ⟨b1,0,ak⟩)] W fun e w'=>e=.returned (.tuple #[.int .i64 (-1),.bool (!b)])/\Below W.heap.size W w':=by
 have gout:=@gA W;have HC:=aa hc;have l1:=aX hb1;have y0:W.cell? ⟨b1,0,ak⟩=ag (.func (.func 175) #[] #[]):=(aA hb1 0).trans rfl;clear hc hb1;go_enter Tryz.func246,Tryz.ntmps246
 go_upto_region 1 with (fail)
 refine aG ?_;intro gg;go_wp2_with fail;refine(aD (g:=gg) (HC.out gg.W (gout gg))).mono ?_;rintro _ _ ⟨rfl,gg,rfl⟩;go_wp2_with fail;go_ret2;exact⟨rfl,gout _⟩
theorem whole47_calls (nm:ByteArray)(wd ln:Int)(ds:List S70)(bd:List S119)(A3:Option Addr)(c3:Nat)(A4:Option Addr)(c4:Nat)(b1:Nat)(W:World)(hb1:W.heap[b1]? =ag (.cells #[.func (.func 177) #[] #[]] 33 (0,0)))(b:Bool)
 (hc:∀X,Below W.heap.size W X->Calls au 177 #[.agg #[.string nm,.int .i64 wd,.int .i64 ln,.slice A3 ds.length c3,.slice A4 bd.length c4]] X fun e w'=>e=.returned (.bool b)/\Below X.heap.size X w'):
 Calls au 246 #[.agg #[.string nm,.int .i64 wd,.int .i64 ln,.slice A3 ds.length c3,.slice A4 bd.length c4],.pointer (ag ⟨b1,0,ak⟩)] W fun e w'=>e=.returned (.tuple #[.int .i64 (-1),.bool (!b)])/\Below W.heap.size W w':=by
 have gout:=@gA W;have HC:=aa hc;have l1:=aX hb1;have y0:W.cell? ⟨b1,0,ak⟩=ag (.func (.func 177) #[] #[]):=(aA hb1 0).trans rfl;clear hc hb1;go_enter Tryz.func246,Tryz.ntmps246
 go_upto_region 1 with (fail)
 refine aG ?_;intro gg;go_wp2_with fail;refine(aD (g:=gg) (HC.out gg.W (gout gg))).mono ?_;rintro _ _ ⟨rfl,gg,rfl⟩;go_wp2_with fail;go_ret2;exact⟨rfl,gout _⟩
theorem whole48_calls (nm:ByteArray)(wd ln:Int)(ds:List S70)(bd:List S119)(A3:Option Addr)(c3:Nat)(A4:Option Addr)(c4:Nat)(b1:Nat)(W:World)(hb1:W.heap[b1]? =ag (.cells #[.func (.func 178) #[] #[]] 33 (0,0)))(b:Bool)
 (hc:∀X,Below W.heap.size W X->Calls au 178 #[.agg #[.string nm,.int .i64 wd,.int .i64 ln,.slice A3 ds.length c3,.slice A4 bd.length c4]] X fun e w'=>e=.returned (.bool b)/\Below X.heap.size X w'):
 Calls au 246 #[.agg #[.string nm,.int .i64 wd,.int .i64 ln,.slice A3 ds.length c3,.slice A4 bd.length c4],.pointer (ag ⟨b1,0,ak⟩)] W fun e w'=>e=.returned (.tuple #[.int .i64 (-1),.bool (!b)])/\Below W.heap.size W w':=by
 have gout:=@gA W;have HC:=aa hc;have l1:=aX hb1;have y0:W.cell? ⟨b1,0,ak⟩=ag (.func (.func 178) #[] #[]):=(aA hb1 0).trans rfl;clear hc hb1;go_enter Tryz.func246,Tryz.ntmps246
 go_upto_region 1 with (fail)
 refine aG ?_;intro gg;go_wp2_with fail;refine(aD (g:=gg) (HC.out gg.W (gout gg))).mono ?_;rintro _ _ ⟨rfl,gg,rfl⟩;go_wp2_with fail;go_ret2;exact⟨rfl,gout _⟩
theorem whole58_calls (nm:ByteArray)(wd ln:Int)(ds:List S70)(bd:List S119)(A3:Option Addr)(c3:Nat)(A4:Option Addr)(c4:Nat)(b1:Nat)(W:World)(hb1:W.heap[b1]? =ag (.cells #[.func (.func 188) #[] #[]] 33 (0,0)))(b:Bool)
 (hc:∀X,Below W.heap.size W X->Calls au 188 #[.agg #[.string nm,.int .i64 wd,.int .i64 ln,.slice A3 ds.length c3,.slice A4 bd.length c4]] X fun e w'=>e=.returned (.bool b)/\Below X.heap.size X w'):
 Calls au 246 #[.agg #[.string nm,.int .i64 wd,.int .i64 ln,.slice A3 ds.length c3,.slice A4 bd.length c4],.pointer (ag ⟨b1,0,ak⟩)] W fun e w'=>e=.returned (.tuple #[.int .i64 (-1),.bool (!b)])/\Below W.heap.size W w':=by
 have gout:=@gA W;have HC:=aa hc;have l1:=aX hb1;have y0:W.cell? ⟨b1,0,ak⟩=ag (.func (.func 188) #[] #[]):=(aA hb1 0).trans rfl;clear hc hb1;go_enter Tryz.func246,Tryz.ntmps246
 go_upto_region 1 with (fail)
 refine aG ?_;intro gg;go_wp2_with fail;refine(aD (g:=gg) (HC.out gg.W (gout gg))).mono ?_;rintro _ _ ⟨rfl,gg,rfl⟩;go_wp2_with fail;go_ret2;exact⟨rfl,gout _⟩
theorem whole71_calls (nm:ByteArray)(wd ln:Int)(ds:List S70)(bd:List S119)(A3:Option Addr)(c3:Nat)(A4:Option Addr)(c4:Nat)(b1:Nat)(W:World)(hb1:W.heap[b1]? =ag (.cells #[.func (.func 201) #[] #[]] 33 (0,0)))(b:Bool)
 (hc:∀X,Below W.heap.size W X->Calls au 201 #[.agg #[.string nm,.int .i64 wd,.int .i64 ln,.slice A3 ds.length c3,.slice A4 bd.length c4]] X fun e w'=>e=.returned (.bool b)/\Below X.heap.size X w'):
 Calls au 246 #[.agg #[.string nm,.int .i64 wd,.int .i64 ln,.slice A3 ds.length c3,.slice A4 bd.length c4],.pointer (ag ⟨b1,0,ak⟩)] W fun e w'=>e=.returned (.tuple #[.int .i64 (-1),.bool (!b)])/\Below W.heap.size W w':=by
 have gout:=@gA W;have HC:=aa hc;have l1:=aX hb1;have y0:W.cell? ⟨b1,0,ak⟩=ag (.func (.func 201) #[] #[]):=(aA hb1 0).trans rfl;clear hc hb1;go_enter Tryz.func246,Tryz.ntmps246
 go_upto_region 1 with (fail)
 refine aG ?_;intro gg;go_wp2_with fail;refine(aD (g:=gg) (HC.out gg.W (gout gg))).mono ?_;rintro _ _ ⟨rfl,gg,rfl⟩;go_wp2_with fail;go_ret2;exact⟨rfl,gout _⟩
end
section
attribute [local go_sem] G.cell
def fB (f:Nat->Bool)(n:Nat):Int × Bool:=match bB n f with
 |some i=>((i:Int),af)
 |none=>(0,ac)
theorem decls50_calls (nm:ByteArray)(wd ln:Int)(ds:List S70)(bd:List S119)(A3:Option Addr)(c3:Nat)(A4:Option Addr)(c4:Nat)(b1:Nat)(W:World)(hlm:ds.length<=1048576)(hb1:W.heap[b1]? =ag (.cells #[.func (.func 180) #[] #[]] 55 (0,0)))(f:Nat->Bool)
 (hc:∀X i,Below W.heap.size W X->i<ds.length->Calls au 180 #[.agg #[.string nm,.int .i64 wd,.int .i64 ln,.slice A3 ds.length c3,.slice A4 bd.length c4],.int .i64 (i:Int)] X fun e w'=>e=.returned (.bool (f i))/\Below X.heap.size X w') (r:Int × Bool) (hr:r=fB f ds.length):
 Calls au 247 #[.agg #[.string nm,.int .i64 wd,.int .i64 ln,.slice A3 ds.length c3,.slice A4 bd.length c4],.pointer (ag ⟨b1,0,ak⟩)] W fun e w'=>e=.returned (.tuple #[.int .i64 r.1,.bool r.2])/\Below W.heap.size W w':=by
 have gout:=@gA W;have HC:=aa hc;have HR:=aa hr;have l1:=aX hb1;have y0:W.cell? ⟨b1,0,ak⟩=ag (.func (.func 180) #[] #[]):=(aA hb1 0).trans rfl;clear hc hb1 hr;go_enter Tryz.func247,Tryz.ntmps247
 go_upto_region 1 with (fail)
 refine aG ?_;intro gg;have goutW:∀(g:G (gw0 gg)),Below W.heap.size W g.W:=fun g=>gout g;go_wp2_with fail
 go_loopw [9] (fun i X=>∃(k:Nat) (g:G (gw0 gg)),i=.int .i64 k/\X=g.W/\k<=ds.length/\Aside0 (∀j,j<k->f j=ac)) (fun i _=>ds.length - (intOf i).toNat)
 case atStart=>exact⟨0,gg,rfl,rfl,bk _,⟨fun j hj=>absurd hj (da _)⟩⟩
 case round=>
  obtain⟨k,gx,rfl,rfl,hk,HK⟩:=hrel
  by_cases hlt:k<ds.length
  ·have hk1:(k:Int)<(ds.length:Int):=by omega
   go_wp2_with fail;refine(aD (g:=gx) (HC.out gx.W k (goutW gx) hlt)).mono ?_;rintro _ _ ⟨rfl,g2,rfl⟩
   cases hf:f k
   ·have HF:=aa hf;clear hf;go_wp2_with fail;exact⟨⟨k+1,g2,by go_num,rfl,by omega,⟨fun j hj=>(gy (j=k)).elim (fun h=>h ▸ HF.out) (fun h=>HK.out j (by omega))⟩⟩,by simp[intOf];omega⟩
   ·have HF:=aa hf;clear hf;go_wp2_with fail;go_ret2
    have e:r=((k:Int),af):=by rw[HR.out];unfold fB;rw[cD hlt HF.out HK.out]
    exact⟨pP (by rw[e]) (by rw[e]),goutW _⟩
  ·have hk1:¬(k:Int)<(ds.length:Int):=by omega
   go_wp2_with fail;go_ret2
   have e:r=(0,ac):=by rw[HR.out];unfold fB;rw[bI fun j hj=>HK.out j (by omega)]
   exact⟨pP (by rw[e]) (by rw[e]),goutW _⟩
theorem decls52_calls (nm:ByteArray)(wd ln:Int)(ds:List S70)(bd:List S119)(A3:Option Addr)(c3:Nat)(A4:Option Addr)(c4:Nat)(b1:Nat)(W:World)(hlm:ds.length<=1048576)(hb1:W.heap[b1]? =ag (.cells #[.func (.func 182) #[] #[]] 55 (0,0)))(f:Nat->Bool)
 (hc:∀X i,Below W.heap.size W X->i<ds.length->Calls au 182 #[.agg #[.string nm,.int .i64 wd,.int .i64 ln,.slice A3 ds.length c3,.slice A4 bd.length c4],.int .i64 (i:Int)] X fun e w'=>e=.returned (.bool (f i))/\Below X.heap.size X w') (r:Int × Bool) (hr:r=fB f ds.length):
 Calls au 247 #[.agg #[.string nm,.int .i64 wd,.int .i64 ln,.slice A3 ds.length c3,.slice A4 bd.length c4],.pointer (ag ⟨b1,0,ak⟩)] W fun e w'=>e=.returned (.tuple #[.int .i64 r.1,.bool r.2])/\Below W.heap.size W w':=by
 have gout:=@gA W;have HC:=aa hc;have HR:=aa hr;have l1:=aX hb1;have y0:W.cell? ⟨b1,0,ak⟩=ag (.func (.func 182) #[] #[]):=(aA hb1 0).trans rfl;clear hc hb1 hr;go_enter Tryz.func247,Tryz.ntmps247
 go_upto_region 1 with (fail)
 refine aG ?_;intro gg;have goutW:∀(g:G (gw0 gg)),Below W.heap.size W g.W:=fun g=>gout g;go_wp2_with fail
 go_loopw [9] (fun i X=>∃(k:Nat) (g:G (gw0 gg)),i=.int .i64 k/\X=g.W/\k<=ds.length/\Aside0 (∀j,j<k->f j=ac)) (fun i _=>ds.length - (intOf i).toNat)
 case atStart=>exact⟨0,gg,rfl,rfl,bk _,⟨fun j hj=>absurd hj (da _)⟩⟩
 case round=>
  obtain⟨k,gx,rfl,rfl,hk,HK⟩:=hrel
  by_cases hlt:k<ds.length
  ·have hk1:(k:Int)<(ds.length:Int):=by omega
   go_wp2_with fail;refine(aD (g:=gx) (HC.out gx.W k (goutW gx) hlt)).mono ?_;rintro _ _ ⟨rfl,g2,rfl⟩
   cases hf:f k
   ·have HF:=aa hf;clear hf;go_wp2_with fail;exact⟨⟨k+1,g2,by go_num,rfl,by omega,⟨fun j hj=>(gy (j=k)).elim (fun h=>h ▸ HF.out) (fun h=>HK.out j (by omega))⟩⟩,by simp[intOf];omega⟩
   ·have HF:=aa hf;clear hf;go_wp2_with fail;go_ret2
    have e:r=((k:Int),af):=by rw[HR.out];unfold fB;rw[cD hlt HF.out HK.out]
    exact⟨pP (by rw[e]) (by rw[e]),goutW _⟩
  ·have hk1:¬(k:Int)<(ds.length:Int):=by omega
   go_wp2_with fail;go_ret2
   have e:r=(0,ac):=by rw[HR.out];unfold fB;rw[bI fun j hj=>HK.out j (by omega)]
   exact⟨pP (by rw[e]) (by rw[e]),goutW _⟩
theorem decls53_calls (nm:ByteArray)(wd ln:Int)(ds:List S70)(bd:List S119)(A3:Option Addr)(c3:Nat)(A4:Option Addr)(c4:Nat)(b1:Nat)(W:World)(hlm:ds.length<=1048576)(hb1:W.heap[b1]? =ag (.cells #[.func (.func 183) #[] #[]] 55 (0,0)))(f:Nat->Bool)
 (hc:∀X i,Below W.heap.size W X->i<ds.length->Calls au 183 #[.agg #[.string nm,.int .i64 wd,.int .i64 ln,.slice A3 ds.length c3,.slice A4 bd.length c4],.int .i64 (i:Int)] X fun e w'=>e=.returned (.bool (f i))/\Below X.heap.size X w') (r:Int × Bool) (hr:r=fB f ds.length):
 Calls au 247 #[.agg #[.string nm,.int .i64 wd,.int .i64 ln,.slice A3 ds.length c3,.slice A4 bd.length c4],.pointer (ag ⟨b1,0,ak⟩)] W fun e w'=>e=.returned (.tuple #[.int .i64 r.1,.bool r.2])/\Below W.heap.size W w':=by
 have gout:=@gA W;have HC:=aa hc;have HR:=aa hr;have l1:=aX hb1;have y0:W.cell? ⟨b1,0,ak⟩=ag (.func (.func 183) #[] #[]):=(aA hb1 0).trans rfl;clear hc hb1 hr;go_enter Tryz.func247,Tryz.ntmps247
 go_upto_region 1 with (fail)
 refine aG ?_;intro gg;have goutW:∀(g:G (gw0 gg)),Below W.heap.size W g.W:=fun g=>gout g;go_wp2_with fail
 go_loopw [9] (fun i X=>∃(k:Nat) (g:G (gw0 gg)),i=.int .i64 k/\X=g.W/\k<=ds.length/\Aside0 (∀j,j<k->f j=ac)) (fun i _=>ds.length - (intOf i).toNat)
 case atStart=>exact⟨0,gg,rfl,rfl,bk _,⟨fun j hj=>absurd hj (da _)⟩⟩
 case round=>
  obtain⟨k,gx,rfl,rfl,hk,HK⟩:=hrel
  by_cases hlt:k<ds.length
  ·have hk1:(k:Int)<(ds.length:Int):=by omega
   go_wp2_with fail;refine(aD (g:=gx) (HC.out gx.W k (goutW gx) hlt)).mono ?_;rintro _ _ ⟨rfl,g2,rfl⟩
   cases hf:f k
   ·have HF:=aa hf;clear hf;go_wp2_with fail;exact⟨⟨k+1,g2,by go_num,rfl,by omega,⟨fun j hj=>(gy (j=k)).elim (fun h=>h ▸ HF.out) (fun h=>HK.out j (by omega))⟩⟩,by simp[intOf];omega⟩
   ·have HF:=aa hf;clear hf;go_wp2_with fail;go_ret2
    have e:r=((k:Int),af):=by rw[HR.out];unfold fB;rw[cD hlt HF.out HK.out]
    exact⟨pP (by rw[e]) (by rw[e]),goutW _⟩
  ·have hk1:¬(k:Int)<(ds.length:Int):=by omega
   go_wp2_with fail;go_ret2
   have e:r=(0,ac):=by rw[HR.out];unfold fB;rw[bI fun j hj=>HK.out j (by omega)]
   exact⟨pP (by rw[e]) (by rw[e]),goutW _⟩
theorem decls54_calls (nm:ByteArray)(wd ln:Int)(ds:List S70)(bd:List S119)(A3:Option Addr)(c3:Nat)(A4:Option Addr)(c4:Nat)(b1:Nat)(W:World)(hlm:ds.length<=1048576)(hb1:W.heap[b1]? =ag (.cells #[.func (.func 184) #[] #[]] 55 (0,0)))(f:Nat->Bool)
 (hc:∀X i,Below W.heap.size W X->i<ds.length->Calls au 184 #[.agg #[.string nm,.int .i64 wd,.int .i64 ln,.slice A3 ds.length c3,.slice A4 bd.length c4],.int .i64 (i:Int)] X fun e w'=>e=.returned (.bool (f i))/\Below X.heap.size X w') (r:Int × Bool) (hr:r=fB f ds.length):
 Calls au 247 #[.agg #[.string nm,.int .i64 wd,.int .i64 ln,.slice A3 ds.length c3,.slice A4 bd.length c4],.pointer (ag ⟨b1,0,ak⟩)] W fun e w'=>e=.returned (.tuple #[.int .i64 r.1,.bool r.2])/\Below W.heap.size W w':=by
 have gout:=@gA W;have HC:=aa hc;have HR:=aa hr;have l1:=aX hb1;have y0:W.cell? ⟨b1,0,ak⟩=ag (.func (.func 184) #[] #[]):=(aA hb1 0).trans rfl;clear hc hb1 hr;go_enter Tryz.func247,Tryz.ntmps247
 go_upto_region 1 with (fail)
 refine aG ?_;intro gg;have goutW:∀(g:G (gw0 gg)),Below W.heap.size W g.W:=fun g=>gout g;go_wp2_with fail
 go_loopw [9] (fun i X=>∃(k:Nat) (g:G (gw0 gg)),i=.int .i64 k/\X=g.W/\k<=ds.length/\Aside0 (∀j,j<k->f j=ac)) (fun i _=>ds.length - (intOf i).toNat)
 case atStart=>exact⟨0,gg,rfl,rfl,bk _,⟨fun j hj=>absurd hj (da _)⟩⟩
 case round=>
  obtain⟨k,gx,rfl,rfl,hk,HK⟩:=hrel
  by_cases hlt:k<ds.length
  ·have hk1:(k:Int)<(ds.length:Int):=by omega
   go_wp2_with fail;refine(aD (g:=gx) (HC.out gx.W k (goutW gx) hlt)).mono ?_;rintro _ _ ⟨rfl,g2,rfl⟩
   cases hf:f k
   ·have HF:=aa hf;clear hf;go_wp2_with fail;exact⟨⟨k+1,g2,by go_num,rfl,by omega,⟨fun j hj=>(gy (j=k)).elim (fun h=>h ▸ HF.out) (fun h=>HK.out j (by omega))⟩⟩,by simp[intOf];omega⟩
   ·have HF:=aa hf;clear hf;go_wp2_with fail;go_ret2
    have e:r=((k:Int),af):=by rw[HR.out];unfold fB;rw[cD hlt HF.out HK.out]
    exact⟨pP (by rw[e]) (by rw[e]),goutW _⟩
  ·have hk1:¬(k:Int)<(ds.length:Int):=by omega
   go_wp2_with fail;go_ret2
   have e:r=(0,ac):=by rw[HR.out];unfold fB;rw[bI fun j hj=>HK.out j (by omega)]
   exact⟨pP (by rw[e]) (by rw[e]),goutW _⟩
theorem c45_calls (nm:ByteArray)(wd ln:Int)(ds:List S70)(bd:List S119)(A3:Option Addr)(c3:Nat)(A4:Option Addr)(c4:Nat)(W:World)(b:Bool)(hb:b=dB wd):
 Calls au 175 #[.agg #[.string nm,.int .i64 wd,.int .i64 ln,.slice A3 ds.length c3,.slice A4 bd.length c4]] W fun e w'=>e=.returned (.bool b)/\Below W.heap.size W w':=by
 have gout:=@gA W;have HR:=aa hb;clear hb;go_enter Tryz.func175,Tryz.ntmps175
 go_upto_region 1 with (fail)
 refine aG ?_;intro gg
 by_cases h:wd ≥ 4
 ·have H:=aa h;go_wp2_with fail;refine(aD (g:=gg) (lW wd 64 gg.W (by decide) _ rfl)).mono ?_;rintro _ _ ⟨rfl,gg,rfl⟩;go_wp2_with fail;go_ret;refine⟨aC ?_,gout _⟩;rw[HR.out];have h4:=H.out
  by_cases h64:wd<=64
  ·rw[decide_eq_true h64,ku];unfold dJ dB
   have e1:(wd==1)=ac:=by simp;omega
   have e2:(wd==2)=ac:=by simp;omega
   have e3:(wd==128)=ac:=by simp;omega
   have e4:(wd==256)=ac:=by simp;omega
   rw[e1,e2,e3,e4]
   simp
  ·rw[decide_eq_false h64,jk];unfold dB
   have e1:(wd==4)=ac:=by simp;omega
   have e2:(wd==8)=ac:=by simp;omega
   have e3:(wd==16)=ac:=by simp;omega
   have e4:(wd==32)=ac:=by simp;omega
   have e5:(wd==64)=ac:=by simp;omega
   rw[e1,e2,e3,e4,e5];rfl
 ·have H:=aa h;go_wp2_with fail;go_ret;refine⟨aC ?_,gout _⟩;rw[HR.out];have h4:=H.out;unfold dB
  have e1:(wd==4)=ac:=by simp;omega
  have e2:(wd==8)=ac:=by simp;omega
  have e3:(wd==16)=ac:=by simp;omega
  have e4:(wd==32)=ac:=by simp;omega
  have e5:(wd==64)=ac:=by simp;omega
  rw[e1,e2,e3,e4,e5];rfl
theorem c47_calls (nm:ByteArray)(wd ln:Int)(ds:List S70)(bd:List S119)(A3:Option Addr)(c3:Nat)(A4:Option Addr)(c4:Nat)(W:World)(b:Bool)(hb:b=dJ ln):
 Calls au 177 #[.agg #[.string nm,.int .i64 wd,.int .i64 ln,.slice A3 ds.length c3,.slice A4 bd.length c4]] W fun e w'=>e=.returned (.bool b)/\Below W.heap.size W w':=by
 have gout:=@gA W;have HR:=aa hb;clear hb;go_enter Tryz.func177,Tryz.ntmps177
 go_upto_region 1 with (fail)
 refine aG ?_;intro gg;go_wp2_with fail
 refine(aD (g:=gg) (lW ln 256 gg.W (by decide) b (by
  rw[HR.out]
  by_cases h:ln<=256
  ·rw[decide_eq_true h,ku]
  ·rw[decide_eq_false h,jk,pow_out (.inr (by omega))]))).mono ?_
 rintro _ _ ⟨rfl,gg,rfl⟩;go_wp2_with fail;go_ret;exact⟨rfl,gout _⟩
theorem c48_calls (nm:ByteArray)(wd ln:Int)(ds:List S70)(bd:List S119)(A3:Option Addr)(c3:Nat)(A4:Option Addr)(c4:Nat)(W:World)(hlm:ds.length<=1048576)(b:Bool)(hb:b=decide (ds.length<=256)):
 Calls au 178 #[.agg #[.string nm,.int .i64 wd,.int .i64 ln,.slice A3 ds.length c3,.slice A4 bd.length c4]] W fun e w'=>e=.returned (.bool b)/\Below W.heap.size W w':=by
 have gout:=@gA W;have HR:=aa hb;clear hb;go_enter Tryz.func178,Tryz.ntmps178
 go_upto_region 1 with (fail)
 refine aG ?_;intro gg
 by_cases h:ds.length<=256
 ·have h':(ds.length:Int)<=256:=by omega
  have H:=aa h;clear h;go_wp2_with fail;go_ret;exact⟨aC (by rw[HR.out,decide_eq_true H.out]),gout _⟩
 ·have h':¬(ds.length:Int)<=256:=by omega
  have H:=aa h;clear h;go_wp2_with fail;go_ret;exact⟨aC (by rw[HR.out,decide_eq_false (by have:=H.out;omega)]),gout _⟩
end
section
attribute [local go_sem] G.cell
theorem cap_step (s a C:Nat):min (min (min s C+1) C+a) C=min (s+(1+a)) C:=by omega
theorem cap_one (s C:Nat):min (min s C+1) C=min (s+(1+0)) C:=by omega
theorem cap_if (s w a b C:Nat):min (min (min s C+1) C+(w+(min a C+min b C))) C=min (s+(1+(w+a+b))) C:=by omega
theorem cap_mul (n a C:Nat)(hC:0<C):min (n*min (1+min a C) C) C=min (n*(1+a)) C:=by
 rcases cq n with rfl | hn
 ·simp
 ·by_cases h:1+a<=C
  ·rw[di (show a<=C by omega),di h]
  ·have h1:min (1+min a C) C=C:=by omega
   have h2:C<=n*C:=Nat.le_mul_of_pos_left C hn;have h3:C<=n*(1+a):=bi h2 (Nat.mul_le_mul_left n (by omega));rw[h1,iz h2,iz h3]
theorem cap_for (s n a C:Nat)(hC:0<C):min (min (min s C+1) C+min (n*min (1+min a C) C) C) C=min (s+(1+n*(1+a))) C:=by
 rw[cap_mul n a C hC];generalize n*(1+a)=z;omega
theorem u64_in {z:Int}(h0:0<=z)(h1:z<18446744073709551616):IntKind.u64.wrap z=z:=by simp only[IntKind.wrap,jf,js,jk,kn,if_false];omega
theorem timesZ_calls (z:Int)(n s r:Nat)(hz:z=n)(hn:n<18446744073709551616)(hs:s<=1099511627776)(hr:r=min (n*s) 1099511627776)(w:World):
 Calls au 157 #[.int .u64 z,.int .i64 s] w fun e w'=>e=.returned (.int .i64 (r:Int))/\Below w.heap.size w w':=by subst hz;exact times_calls n s r hn hs hr w
theorem nK {a b n:Nat}(h1:a<=n)(h2:b<=n):∀x∈[a,b],x<=n:=by intro x hx;rcases iv.1 hx with rfl | hx;exact h1;rcases iv.1 hx with rfl | hx;exact h2;cases hx
theorem le_of3 {a b c n:Nat}(h1:a<=n)(h2:b<=n)(h3:c<=n):∀x∈[a,b,c],x<=n:=by intro x hx;rcases iv.1 hx with rfl | hx;exact h1;exact nK h2 h3 x hx
theorem le_of4 {a b c d n:Nat}(h1:a<=n)(h2:b<=n)(h3:c<=n)(h4:d<=n):∀x∈[a,b,c,d],x<=n:=by intro x hx;rcases iv.1 hx with rfl | hx;exact h1;exact le_of3 h2 h3 h4 x hx
theorem size_walk (l:List S119)(hg:∀x∈l,0<=x.f4/\0<=x.f5/\x.f4<18446744073709551616/\x.f5<18446744073709551616/\aM x.f2<=1099511627776/\aM x.f3<=1099511627776)(ih:∀x∈l,SizeC 114 1099511627776 x.f6/\SizeC 114 1099511627776 x.f7):SizeC 114 1099511627776 l:=by
 intro A c w hc hl;have IH:=aa ih;have HC:=aa hc;have GD:=aa hg;have hlm:=hc.2.1;clear ih hc hg;go_enter Tryz.func114,Tryz.ntmps114
 go_wp2
 go_loopw [8,3] (fun i n W=>∃(k:Nat) (g:G w),i=.int .i64 k/\(∃m:Nat,n=.int .i64 m/\m=min (bS (l.take k)) 1099511627776)/\W=g.W/\k<=l.length) (fun i n _=>l.length - (intOf i).toNat)
 case atStart=>exact⟨0,⟨w,ar _ _⟩,rfl,⟨0,rfl,by simp[bS]⟩,rfl,bk _⟩
 case round=>
  obtain⟨k,g,rfl,⟨m,rfl,hm⟩,rfl,hk⟩:=hrel
  by_cases hlt:k<l.length
  ·obtain⟨ad,A5,c5,A9,c9,A12,c12,A13,c13,e1,q0,q1,q2,q3,q4,q5,q6,q7,q8,q9,q10,q11,q12,q13,l5,g5,l9,g9,l12,g12,l13,g13⟩:=jX HC.out (k:Int) (bo _) (by omega);cases e1;rw[ax]at q0 q1 q2 q3 q4 q5 q6 q7 q8 q9 q10 q11 q12 q13;replace q0:=(g.below.cell (av w _ q0)).trans q0;replace q1:=(g.below.cell (av w _ q1)).trans q1;replace q2:=(g.below.cell (av w _ q2)).trans q2;replace q3:=(g.below.cell (av w _ q3)).trans q3;replace q4:=(g.below.cell (av w _ q4)).trans q4;replace q5:=(g.below.cell (av w _ q5)).trans q5;replace q6:=(g.below.cell (av w _ q6)).trans q6;replace q7:=(g.below.cell (av w _ q7)).trans q7;replace q8:=(g.below.cell (av w _ q8)).trans q8;replace q9:=(g.below.cell (av w _ q9)).trans q9;replace q10:=(g.below.cell (av w _ q10)).trans q10;replace q11:=(g.below.cell (av w _ q11)).trans q11;replace q12:=(g.below.cell (av w _ q12)).trans q12;replace q13:=(g.below.cell (av w _ q13)).trans q13
   have hi1:(k:Int)<(l.length:Int):=by omega
   have K:=aa (aj l5 (aj g5 (aj l9 (aj g9 (aj l12 (aj g12 (aj l13 g13)))))));clear l5 g5 l9 g9 l12 g12 l13 g13;have MEM:=j5 hlt;have T:=congrArg bS (e9 hlt);rw[nT,fX]at T;have GD1:=aa (GD.out _ MEM);have IH1:=aa (IH.out _ MEM);clear MEM;generalize aR l (k:Int)=x at*;obtain⟨m1,hm1⟩:∃r,r=min [m,1].sum 1099511627776:=⟨_,rfl⟩
   have hm1':m1=min (m+1) 1099511627776:=by simpa using hm1
   have M:=aa (aj hm (aj hm1' (aj T hm1)));have hmb:=aa (show m<=1099511627776/\m1<=1099511627776 from⟨by rw[hm];exact Nat.min_le_right _ _,by rw[hm1];exact Nat.min_le_right _ _⟩);clear hm hm1 hm1' T
   have kk:x.f0=1\/x.f0=2\/x.f0=3\/x.f0=4\/(¬x.f0=1/\¬x.f0=2/\¬x.f0=3/\¬x.f0=4):=by omega
   rcases kk with h0 | h0 | h0 | h0 | ⟨h1,h2,h3,h4⟩
   ·rw[h0]at q0;have H0:=aa h0;clear h0
    go_upto_region 5 with (fail)
    refine aG ?_;intro gg;go_wp2_with fail;refine(cU (g:=gg) (d8 [m,1] m1 M.out.2.2.2 (nK hmb.out.1 (by omega)) (by simp) (ag ⟨gg.W.heap.size,0,ak⟩) 2 _ (gT _ [m,1] 3 (by simp)) (by simp))).mono ?_;rintro _ _ ⟨rfl,gg,rfl⟩;go_wp2_with fail;refine(aD (g:=gg) (weigh_v GD1.out.2.2.2.2.2 A9 c9 gg.W (Kd.aF K.out.2.2.2.1 (G.deep (g:=g) gg)) K.out.2.2.1)).mono ?_;rintro _ _ ⟨rfl,gg,rfl⟩;go_wp2_with fail;obtain⟨m2,hm2⟩:∃r,r=min [m1,aM x.f3].sum 1099511627776:=⟨_,rfl⟩;have HM2:=aa hm2;clear hm2;refine(cU (g:=gg) (d8 [m1,aM x.f3] m2 HM2.out (nK hmb.out.2 GD1.out.2.2.2.2.2) (by simp) (ag ⟨gg.W.heap.size,0,ak⟩) 2 _ (gT _ [m1,aM x.f3] 3 (by simp)) (by simp))).mono ?_;rintro _ _ ⟨rfl,gg,rfl⟩;go_wp2_with fail;refine⟨⟨k+1,mkG (G.deep (g:=g) gg),by go_num,⟨m2,rfl,?_⟩,rfl,by omega⟩,by simp[intOf];omega⟩;obtain⟨e1,e2,e3,_⟩:=M.out
    have e4:m2=min (m1+aM x.f3) 1099511627776:=by simpa using HM2.out
    rw[e3,H0.out,if_pos rfl,e4,e2,e1];exact cap_step _ _ _
   ·rw[h0]at q0;have H0:=aa h0;clear h0
    go_upto_region 5 with (fail)
    refine aG ?_;intro gg;go_wp2_with fail;refine(cU (g:=gg) (d8 [m,1] m1 M.out.2.2.2 (nK hmb.out.1 (by omega)) (by simp) (ag ⟨gg.W.heap.size,0,ak⟩) 2 _ (gT _ [m,1] 3 (by simp)) (by simp))).mono ?_;rintro _ _ ⟨rfl,gg,rfl⟩;obtain⟨m2,hm2⟩:∃r,r=min [m1,aM x.f2,aM x.f3].sum 1099511627776:=⟨_,rfl⟩;have HM2:=aa hm2;clear hm2
    go_upto_region 10 with (fail)
    refine eP (n:=10) (S:=fun w'=>∃g':G _,w'=g'.W) (ds:=[]) #[ac,ac,ac,ac,ac,ac,ac,ac,ac,ac] (by kernel_rfl) rfl rfl ⟨mkG (gg.2.drew),rfl⟩ (fun hHeld=> ?_);obtain⟨gd,hgd⟩:=hHeld;rw[hgd];clear hgd;refine aP (i:=0) (N:=ag 27) (v:= ?_) (a':= ?_) #[af,ac,ac,ac,ac,ac,ac,ac,ac,ac] rfl rfl (by kernel_rfl) (fun _ _ _ h=>h) (bc ⟨by rfl,?_⟩) ?_ ?_;rotate_left
    ·intro w';go_simp;with_reducible rfl
    rotate_left
    ·simp only[ay,ae,ah,ai,aJ,aK];rfl
    refine aP (i:=1) (N:=ag 28) (v:= ?_) (a':= ?_) #[af,af,ac,ac,ac,ac,ac,ac,ac,ac] rfl rfl (by kernel_rfl) (fun _ _ _ h=>h) (bc ⟨by rfl,?_⟩) ?_ ?_;rotate_left
    ·intro w';go_simp;with_reducible rfl
    rotate_left
    ·simp only[ay,ae,ah,ai,aJ,aK];rfl
    refine aP (i:=4) (N:=ag 31) (v:= ?_) (a':= ?_) #[af,af,ac,ac,af,ac,ac,ac,ac,ac] rfl rfl (by kernel_rfl) (fun _ _ _ h=>h) (bc ⟨by rfl,?_⟩) ?_ ?_;rotate_left
    ·intro w';go_simp;with_reducible rfl
    rotate_left
    ·simp only[ay,ae,ah,ai,aJ,aK];rfl
    refine cY (i:=2) (N:=ag 29) (v:= ?_) (a':= ?_) #[af,af,af,ac,af,ac,ac,ac,ac,ac] rfl rfl (by kernel_rfl) (fun _ _ _ h=>h) (bc ⟨by rfl,?_⟩) ⟨gd,rfl⟩ ?_ ?_;rotate_left
    ·rintro w' ⟨g',rfl⟩;go_simp;with_reducible rfl
    rotate_left
    ·simp only[ay,ae,ah,ai,aJ,aK];rfl
    refine cY (i:=5) (N:=ag 32) (v:= ?_) (a':= ?_) #[af,af,af,ac,af,af,ac,ac,ac,ac] rfl rfl (by kernel_rfl) (fun _ _ _ h=>h) (bc ⟨by rfl,?_⟩) ⟨gd,rfl⟩ ?_ ?_;rotate_left
    ·rintro w' ⟨g',rfl⟩;go_simp;with_reducible rfl
    rotate_left
    ·simp only[ay,ae,ah,ai,aJ,aK];rfl
    refine kH (i:=3) (N:=ag 30) #[af,af,af,af,af,af,ac,ac,ac,ac] rfl rfl (by kernel_rfl) (by simp) (fun Kr hKr=> ?_);refine iP Tryz.func156 (by kernel_rfl) rfl #[.agg #[.int .i64 x.f2.f0,.int .u64 x.f2.f1,.string x.f2.f2,.slice A5 x.f2.f3.length c5]] (by rfl) rfl rfl (by(try simp only[cd,cg,db]);first | done | rfl) ?_;refine(weigh_v GD1.out.2.2.2.2.1 A5 c5 gd.W (Kd.aF K.out.2.1 (G.deep (g:=g) gd)) K.out.1).mono ?_;rintro _ w9 ⟨rfl,hb⟩;refine⟨_,rfl,?_⟩;obtain⟨gd,rfl⟩:∃g':G _,w9=g'.W:=⟨mkG (gd.below.trans (hb.mono gd.below.size)),rfl⟩;clear hb;refine hKr.out _ _ ⟨gd,rfl⟩ (fun _=> ?_);clear hKr Kr;refine cW (a':= ?_) ?_ ?_;rotate_left
    ·show ay _ (ag 30) _ = _
     simp only[ay,ae,ah,ai,aJ,aK];rfl
    refine kH (i:=6) (N:=ag 33) #[af,af,af,af,af,af,af,ac,ac,ac] rfl rfl (by kernel_rfl) (by simp) (fun Kr hKr=> ?_);refine iP Tryz.func156 (by kernel_rfl) rfl #[.agg #[.int .i64 x.f3.f0,.int .u64 x.f3.f1,.string x.f3.f2,.slice A9 x.f3.f3.length c9]] (by rfl) rfl rfl (by(try simp only[cd,cg,db]);first | done | rfl) ?_;refine(weigh_v GD1.out.2.2.2.2.2 A9 c9 gd.W (Kd.aF K.out.2.2.2.1 (G.deep (g:=g) gd)) K.out.2.2.1).mono ?_;rintro _ w9 ⟨rfl,hb⟩;refine⟨_,rfl,?_⟩;obtain⟨gd,rfl⟩:∃g':G _,w9=g'.W:=⟨mkG (gd.below.trans (hb.mono gd.below.size)),rfl⟩;clear hb;refine hKr.out _ _ ⟨gd,rfl⟩ (fun _=> ?_);clear hKr Kr;refine cW (a':= ?_) ?_ ?_;rotate_left
    ·show ay _ (ag 33) _ = _
     simp only[ay,ae,ah,ai,aJ,aK];rfl
    refine kH (i:=7) (N:=ag 34) #[af,af,af,af,af,af,af,af,ac,ac] rfl rfl (by kernel_rfl) (by simp) (fun Kr hKr=> ?_);refine eC (v:=.slice (ag ⟨gd.W.heap.size,0,ak⟩) 3 3) (w1:=gd.W.alloc (.cells #[.int .i64 (m1:Int),.int .i64 ((aM x.f2:Nat):Int),.int .i64 ((aM x.f3:Nat):Int)] 3)) (by rfl) (by first | (go_simp;done) | (go_simp;rfl)) ?_;refine hKr.out _ _ ⟨mkG (G.ball gd _),rfl⟩ (fun _=> ?_);clear hKr Kr;refine cW (a':= ?_) ?_ ?_;rotate_left
    ·show ay _ (ag 34) _ = _
     simp only[ay,ae,ah,ai,aJ,aK];rfl
    refine kH (i:=8) (N:=ag 35) #[af,af,af,af,af,af,af,af,af,ac] rfl rfl (by kernel_rfl) (by simp) (fun Kr hKr=> ?_);refine iP Tryz.func155 (by kernel_rfl) rfl #[.slice (ag ⟨gd.W.heap.size,0,ak⟩) 3 3] (by rfl) rfl rfl (by(try simp only[cd,cg,db]);first | done | rfl) ?_;refine(d8 [m1,aM x.f2,aM x.f3] m2 HM2.out (le_of3 hmb.out.2 GD1.out.2.2.2.2.1 GD1.out.2.2.2.2.2) (by simp) (ag ⟨gd.W.heap.size,0,ak⟩) 3 _ (gT _ [m1,aM x.f2,aM x.f3] 3 (by simp)) (by simp)).mono ?_;rintro _ w9 ⟨rfl,hb⟩;refine⟨_,rfl,?_⟩;obtain⟨gd,rfl⟩:∃g':G _,w9=g'.W:=⟨mkG ((G.ball gd _).trans (hb.mono (G.ball gd _).size)),rfl⟩;clear hb;refine hKr.out _ _ ⟨gd,rfl⟩ (fun _=> ?_);clear hKr Kr;refine cW (a':= ?_) ?_ ?_;rotate_left
    ·show ay _ (ag 35) _ = _
     simp only[ay,ae,ah,ai,aJ,aK];rfl
    refine aP (i:=9) (N:=ag 3) (v:= ?_) (a':= ?_) #[af,af,af,af,af,af,af,af,af,af] rfl rfl (by kernel_rfl) (fun _ _ _ h=>h) (bc ⟨by rfl,?_⟩) ?_ ?_;rotate_left
    ·intro w';go_simp;with_reducible rfl
    rotate_left
    ·simp only[ay,ae,ah,ai,aJ,aK];rfl
    refine iF (by kernel_rfl) ?_;go_wp2_with fail;refine⟨⟨k+1,mkG (G.deep (g:=g) gd),by go_num,⟨m2,rfl,?_⟩,rfl,by omega⟩,by simp[intOf];omega⟩;obtain⟨e1,e2,e3,_⟩:=M.out
    have e4:m2=min (m1+(aM x.f2+aM x.f3)) 1099511627776:=by simpa using HM2.out
    rw[e3,H0.out,if_neg (by decide),if_pos rfl,e4,e2,e1];exact cap_step _ _ _
   ·rw[h0]at q0;have H0:=aa h0;clear h0
    go_upto_region 5 with (fail)
    refine aG ?_;intro gg;go_wp2_with fail;refine(cU (g:=gg) (d8 [m,1] m1 M.out.2.2.2 (nK hmb.out.1 (by omega)) (by simp) (ag ⟨gg.W.heap.size,0,ak⟩) 2 _ (gT _ [m,1] 3 (by simp)) (by simp))).mono ?_;rintro _ _ ⟨rfl,gg,rfl⟩;obtain⟨s1,hs1⟩:∃r,r=min (bS x.f6) 1099511627776:=⟨_,rfl⟩;obtain⟨s2,hs2⟩:∃r,r=min (bS x.f7) 1099511627776:=⟨_,rfl⟩;obtain⟨m2,hm2⟩:∃r,r=min [m1,aM x.f3,s1,s2].sum 1099511627776:=⟨_,rfl⟩;have SB:=aa (show s1<=1099511627776/\s2<=1099511627776 from⟨by rw[hs1];exact Nat.min_le_right _ _,by rw[hs2];exact Nat.min_le_right _ _⟩);have HM2:=aa (aj hm2 (aj hs1 hs2));clear hm2 hs1 hs2
    go_upto_region 12 with (fail)
    refine eP (n:=13) (S:=fun w'=>∃g':G _,w'=g'.W) (ds:=[]) #[ac,ac,ac,ac,ac,ac,ac,ac,ac,ac,ac,ac,ac] (by kernel_rfl) rfl rfl ⟨mkG (gg.2.drew),rfl⟩ (fun hHeld=> ?_);obtain⟨gd,hgd⟩:=hHeld;rw[hgd];clear hgd;refine aP (i:=0) (N:=ag 38) (v:= ?_) (a':= ?_) #[af,ac,ac,ac,ac,ac,ac,ac,ac,ac,ac,ac,ac] rfl rfl (by kernel_rfl) (fun _ _ _ h=>h) (bc ⟨by rfl,?_⟩) ?_ ?_;rotate_left
    ·intro w';go_simp;with_reducible rfl
    rotate_left
    ·simp only[ay,ae,ah,ai,aJ,aK];rfl
    refine aP (i:=1) (N:=ag 39) (v:= ?_) (a':= ?_) #[af,af,ac,ac,ac,ac,ac,ac,ac,ac,ac,ac,ac] rfl rfl (by kernel_rfl) (fun _ _ _ h=>h) (bc ⟨by rfl,?_⟩) ?_ ?_;rotate_left
    ·intro w';go_simp;with_reducible rfl
    rotate_left
    ·simp only[ay,ae,ah,ai,aJ,aK];rfl
    refine aP (i:=4) (N:=ag 42) (v:= ?_) (a':= ?_) #[af,af,ac,ac,af,ac,ac,ac,ac,ac,ac,ac,ac] rfl rfl (by kernel_rfl) (fun _ _ _ h=>h) (bc ⟨by rfl,?_⟩) ?_ ?_;rotate_left
    ·intro w';go_simp;with_reducible rfl
    rotate_left
    ·simp only[ay,ae,ah,ai,aJ,aK];rfl
    refine aP (i:=7) (N:=ag 45) (v:= ?_) (a':= ?_) #[af,af,ac,ac,af,ac,ac,af,ac,ac,ac,ac,ac] rfl rfl (by kernel_rfl) (fun _ _ _ h=>h) (bc ⟨by rfl,?_⟩) ?_ ?_;rotate_left
    ·intro w';go_simp;with_reducible rfl
    rotate_left
    ·simp only[ay,ae,ah,ai,aJ,aK];rfl
    refine cY (i:=2) (N:=ag 40) (v:= ?_) (a':= ?_) #[af,af,af,ac,af,ac,ac,af,ac,ac,ac,ac,ac] rfl rfl (by kernel_rfl) (fun _ _ _ h=>h) (bc ⟨by rfl,?_⟩) ⟨gd,rfl⟩ ?_ ?_;rotate_left
    ·rintro w' ⟨g',rfl⟩;go_simp;with_reducible rfl
    rotate_left
    ·simp only[ay,ae,ah,ai,aJ,aK];rfl
    refine cY (i:=5) (N:=ag 43) (v:= ?_) (a':= ?_) #[af,af,af,ac,af,af,ac,af,ac,ac,ac,ac,ac] rfl rfl (by kernel_rfl) (fun _ _ _ h=>h) (bc ⟨by rfl,?_⟩) ⟨gd,rfl⟩ ?_ ?_;rotate_left
    ·rintro w' ⟨g',rfl⟩;go_simp;with_reducible rfl
    rotate_left
    ·simp only[ay,ae,ah,ai,aJ,aK];rfl
    refine cY (i:=8) (N:=ag 46) (v:= ?_) (a':= ?_) #[af,af,af,ac,af,af,ac,af,af,ac,ac,ac,ac] rfl rfl (by kernel_rfl) (fun _ _ _ h=>h) (bc ⟨by rfl,?_⟩) ⟨gd,rfl⟩ ?_ ?_;rotate_left
    ·rintro w' ⟨g',rfl⟩;go_simp;with_reducible rfl
    rotate_left
    ·simp only[ay,ae,ah,ai,aJ,aK];rfl
    refine kH (i:=3) (N:=ag 41) #[af,af,af,af,af,af,ac,af,af,ac,ac,ac,ac] rfl rfl (by kernel_rfl) (by simp) (fun Kr hKr=> ?_);refine iP Tryz.func156 (by kernel_rfl) rfl #[.agg #[.int .i64 x.f3.f0,.int .u64 x.f3.f1,.string x.f3.f2,.slice A9 x.f3.f3.length c9]] (by rfl) rfl rfl (by(try simp only[cd,cg,db]);first | done | rfl) ?_;refine(weigh_v GD1.out.2.2.2.2.2 A9 c9 gd.W (Kd.aF K.out.2.2.2.1 (G.deep (g:=g) gd)) K.out.2.2.1).mono ?_;rintro _ w9 ⟨rfl,hb⟩;refine⟨_,rfl,?_⟩;obtain⟨gd,rfl⟩:∃g':G _,w9=g'.W:=⟨mkG (gd.below.trans (hb.mono gd.below.size)),rfl⟩;clear hb;refine hKr.out _ _ ⟨gd,rfl⟩ (fun _=> ?_);clear hKr Kr;refine cW (a':= ?_) ?_ ?_;rotate_left
    ·show ay _ (ag 41) _ = _
     simp only[ay,ae,ah,ai,aJ,aK];rfl
    refine kH (i:=6) (N:=ag 44) #[af,af,af,af,af,af,af,af,af,ac,ac,ac,ac] rfl rfl (by kernel_rfl) (by simp) (fun Kr hKr=> ?_);refine iP Tryz.func114 (by kernel_rfl) rfl #[.slice A12 x.f6.length c12] (by rfl) rfl rfl (by(try simp only[cd,cg,db]);first | done | rfl) ?_;refine(mK IH1.out.1 HM2.out.2.1 A12 c12 gd.W (Kd.aF K.out.2.2.2.2.2.1 (G.deep (g:=g) gd)) K.out.2.2.2.2.1).mono ?_;rintro _ w9 ⟨rfl,hb⟩;refine⟨_,rfl,?_⟩;obtain⟨gd,rfl⟩:∃g':G _,w9=g'.W:=⟨mkG (gd.below.trans (hb.mono gd.below.size)),rfl⟩;clear hb;refine hKr.out _ _ ⟨gd,rfl⟩ (fun _=> ?_);clear hKr Kr;refine cW (a':= ?_) ?_ ?_;rotate_left
    ·show ay _ (ag 44) _ = _
     simp only[ay,ae,ah,ai,aJ,aK];rfl
    refine kH (i:=9) (N:=ag 47) #[af,af,af,af,af,af,af,af,af,af,ac,ac,ac] rfl rfl (by kernel_rfl) (by simp) (fun Kr hKr=> ?_);refine iP Tryz.func114 (by kernel_rfl) rfl #[.slice A13 x.f7.length c13] (by rfl) rfl rfl (by(try simp only[cd,cg,db]);first | done | rfl) ?_;refine(mK IH1.out.2 HM2.out.2.2 A13 c13 gd.W (Kd.aF K.out.2.2.2.2.2.2.2 (G.deep (g:=g) gd)) K.out.2.2.2.2.2.2.1).mono ?_;rintro _ w9 ⟨rfl,hb⟩;refine⟨_,rfl,?_⟩;obtain⟨gd,rfl⟩:∃g':G _,w9=g'.W:=⟨mkG (gd.below.trans (hb.mono gd.below.size)),rfl⟩;clear hb;refine hKr.out _ _ ⟨gd,rfl⟩ (fun _=> ?_);clear hKr Kr;refine cW (a':= ?_) ?_ ?_;rotate_left
    ·show ay _ (ag 47) _ = _
     simp only[ay,ae,ah,ai,aJ,aK];rfl
    refine kH (i:=10) (N:=ag 48) #[af,af,af,af,af,af,af,af,af,af,af,ac,ac] rfl rfl (by kernel_rfl) (by simp) (fun Kr hKr=> ?_);refine eC (v:=.slice (ag ⟨gd.W.heap.size,0,ak⟩) 4 4) (w1:=gd.W.alloc (.cells #[.int .i64 (m1:Int),.int .i64 ((aM x.f3:Nat):Int),.int .i64 ((s1:Nat):Int),.int .i64 ((s2:Nat):Int)] 3)) (by rfl) (by first | (go_simp;done) | (go_simp;rfl)) ?_;refine hKr.out _ _ ⟨mkG (G.ball gd _),rfl⟩ (fun _=> ?_);clear hKr Kr;refine cW (a':= ?_) ?_ ?_;rotate_left
    ·show ay _ (ag 48) _ = _
     simp only[ay,ae,ah,ai,aJ,aK];rfl
    refine kH (i:=11) (N:=ag 49) #[af,af,af,af,af,af,af,af,af,af,af,af,ac] rfl rfl (by kernel_rfl) (by simp) (fun Kr hKr=> ?_);refine iP Tryz.func155 (by kernel_rfl) rfl #[.slice (ag ⟨gd.W.heap.size,0,ak⟩) 4 4] (by rfl) rfl rfl (by(try simp only[cd,cg,db]);first | done | rfl) ?_;refine(d8 [m1,aM x.f3,s1,s2] m2 HM2.out.1 (le_of4 hmb.out.2 GD1.out.2.2.2.2.2 SB.out.1 SB.out.2) (by simp) (ag ⟨gd.W.heap.size,0,ak⟩) 4 _ (gT _ [m1,aM x.f3,s1,s2] 3 (by simp)) (by simp)).mono ?_;rintro _ w9 ⟨rfl,hb⟩;refine⟨_,rfl,?_⟩;obtain⟨gd,rfl⟩:∃g':G _,w9=g'.W:=⟨mkG ((G.ball gd _).trans (hb.mono (G.ball gd _).size)),rfl⟩;clear hb;refine hKr.out _ _ ⟨gd,rfl⟩ (fun _=> ?_);clear hKr Kr;refine cW (a':= ?_) ?_ ?_;rotate_left
    ·show ay _ (ag 49) _ = _
     simp only[ay,ae,ah,ai,aJ,aK];rfl
    refine aP (i:=12) (N:=ag 3) (v:= ?_) (a':= ?_) #[af,af,af,af,af,af,af,af,af,af,af,af,af] rfl rfl (by kernel_rfl) (fun _ _ _ h=>h) (bc ⟨by rfl,?_⟩) ?_ ?_;rotate_left
    ·intro w';go_simp;with_reducible rfl
    rotate_left
    ·simp only[ay,ae,ah,ai,aJ,aK];rfl
    refine iF (by kernel_rfl) ?_;go_wp2_with fail;refine⟨⟨k+1,mkG (G.deep (g:=g) gd),by go_num,⟨m2,rfl,?_⟩,rfl,by omega⟩,by simp[intOf];omega⟩;obtain⟨e1,e2,e3,_⟩:=M.out
    have e4:m2=min (m1+(aM x.f3+(s1+s2))) 1099511627776:=by simpa using HM2.out.1
    rw[e3,H0.out,if_neg (by decide),if_neg (by decide),if_pos rfl,e4,e2,e1,HM2.out.2.1,HM2.out.2.2];exact cap_if _ _ _ _ _
   ·rw[h0]at q0;have H0:=aa h0;clear h0
    go_upto_region 5 with (fail)
    refine aG ?_;intro gg;go_wp2_with fail;refine(cU (g:=gg) (d8 [m,1] m1 M.out.2.2.2 (nK hmb.out.1 (by omega)) (by simp) (ag ⟨gg.W.heap.size,0,ak⟩) 2 _ (gT _ [m,1] 3 (by simp)) (by simp))).mono ?_;rintro _ _ ⟨rfl,gg,rfl⟩
    rcases dh x.f4 x.f5 with hlo | hlo
    ·obtain⟨s1,hs1⟩:∃r,r=min (bS x.f6) 1099511627776:=⟨_,rfl⟩;obtain⟨q,hq⟩:∃r,r=min [1,s1].sum 1099511627776:=⟨_,rfl⟩;obtain⟨nn,hnn⟩:∃n,n=(x.f5 - x.f4).toNat:=⟨_,rfl⟩;obtain⟨tt,htt⟩:∃r,r=min (nn*q) 1099511627776:=⟨_,rfl⟩;obtain⟨m2,hm2⟩:∃r,r=min [m1,tt].sum 1099511627776:=⟨_,rfl⟩;have SB:=aa (show s1<=1099511627776/\q<=1099511627776 from⟨by rw[hs1];exact Nat.min_le_right _ _,by rw[hq];exact Nat.min_le_right _ _⟩)
     have hz:IntKind.u64.wrap (x.f5 - x.f4)=(nn:Int):=by have:=GD1.out;rw[u64_in (by omega) (by omega),hnn];omega
     have hn:nn<18446744073709551616:=by have:=GD1.out;omega
     have HM2:=aa (aj hm2 (aj hs1 (aj hq (aj htt (aj hz hn)))));have HNN:=aa hnn;clear hm2 hs1 hq htt hz hn hnn;have hlo':x.f5 > x.f4:=hlo
     go_upto_region 15 with (fail)
     refine eP (n:=15) (S:=fun w'=>∃g':G _,w'=g'.W) (ds:=[]) #[ac,ac,ac,ac,ac,ac,ac,ac,ac,ac,ac,ac,ac,ac,ac] (by kernel_rfl) rfl rfl ⟨mkG (gg.2.drew),rfl⟩ (fun hHeld=> ?_);obtain⟨gd,hgd⟩:=hHeld;rw[hgd];clear hgd;refine aP (i:=0) (N:=ag 57) (v:= ?_) (a':= ?_) #[af,ac,ac,ac,ac,ac,ac,ac,ac,ac,ac,ac,ac,ac,ac] rfl rfl (by kernel_rfl) (fun _ _ _ h=>h) (bc ⟨by rfl,?_⟩) ?_ ?_;rotate_left
     ·intro w';go_simp;with_reducible rfl
     rotate_left
     ·simp only[ay,ae,ah,ai,aJ,aK];rfl
     refine aP (i:=1) (N:=ag 58) (v:= ?_) (a':= ?_) #[af,af,ac,ac,ac,ac,ac,ac,ac,ac,ac,ac,ac,ac,ac] rfl rfl (by kernel_rfl) (fun _ _ _ h=>h) (bc ⟨by rfl,?_⟩) ?_ ?_;rotate_left
     ·intro w';go_simp;with_reducible rfl
     rotate_left
     ·simp only[ay,ae,ah,ai,aJ,aK];rfl
     refine aP (i:=3) (N:=ag 60) (v:= ?_) (a':= ?_) #[af,af,ac,af,ac,ac,ac,ac,ac,ac,ac,ac,ac,ac,ac] rfl rfl (by kernel_rfl) (fun _ _ _ h=>h) (bc ⟨by rfl,?_⟩) ?_ ?_;rotate_left
     ·intro w';go_simp;with_reducible rfl
     rotate_left
     ·simp only[ay,ae,ah,ai,aJ,aK];rfl
     refine aP (i:=6) (N:=ag 63) (v:= ?_) (a':= ?_) #[af,af,ac,af,ac,ac,af,ac,ac,ac,ac,ac,ac,ac,ac] rfl rfl (by kernel_rfl) (fun _ _ _ h=>h) (bc ⟨by rfl,?_⟩) ?_ ?_;rotate_left
     ·intro w';go_simp;with_reducible rfl
     rotate_left
     ·simp only[ay,ae,ah,ai,aJ,aK];rfl
     refine cY (i:=2) (N:=ag 59) (v:= ?_) (a':= ?_) #[af,af,af,af,ac,ac,af,ac,ac,ac,ac,ac,ac,ac,ac] rfl rfl (by kernel_rfl) (fun _ _ _ h=>h) (bc ⟨by rfl,?_⟩) ⟨gd,rfl⟩ ?_ ?_;rotate_left
     ·rintro w' ⟨g',rfl⟩;go_simp;with_reducible rfl
     rotate_left
     ·simp only[ay,ae,ah,ai,aJ,aK];rfl
     refine cY (i:=4) (N:=ag 61) (v:= ?_) (a':= ?_) #[af,af,af,af,af,ac,af,ac,ac,ac,ac,ac,ac,ac,ac] rfl rfl (by kernel_rfl) (fun _ _ _ h=>h) (bc ⟨by rfl,?_⟩) ⟨gd,rfl⟩ ?_ ?_;rotate_left
     ·rintro w' ⟨g',rfl⟩;go_simp;with_reducible rfl
     rotate_left
     ·simp only[ay,ae,ah,ai,aJ,aK];rfl
     refine aP (i:=5) (N:=ag 62) (v:= ?_) (a':= ?_) #[af,af,af,af,af,af,af,ac,ac,ac,ac,ac,ac,ac,ac] rfl rfl (by kernel_rfl) (fun _ _ _ h=>h) (bc ⟨by rfl,?_⟩) ?_ ?_;rotate_left
     ·intro w';go_simp;with_reducible rfl
     rotate_left
     ·simp only[ay,ae,ah,ai,aJ,aK];rfl
     refine cY (i:=7) (N:=ag 64) (v:= ?_) (a':= ?_) #[af,af,af,af,af,af,af,af,ac,ac,ac,ac,ac,ac,ac] rfl rfl (by kernel_rfl) (fun _ _ _ h=>h) (bc ⟨by rfl,?_⟩) ⟨gd,rfl⟩ ?_ ?_;rotate_left
     ·rintro w' ⟨g',rfl⟩;go_simp;with_reducible rfl
     rotate_left
     ·simp only[ay,ae,ah,ai,aJ,aK];rfl
     refine kH (i:=8) (N:=ag 65) #[af,af,af,af,af,af,af,af,af,ac,ac,ac,ac,ac,ac] rfl rfl (by kernel_rfl) (by simp) (fun Kr hKr=> ?_);refine iP Tryz.func114 (by kernel_rfl) rfl #[.slice A12 x.f6.length c12] (by rfl) rfl rfl (by(try simp only[cd,cg,db]);first | done | rfl) ?_;refine(mK IH1.out.1 HM2.out.2.1 A12 c12 gd.W (Kd.aF K.out.2.2.2.2.2.1 (G.deep (g:=g) gd)) K.out.2.2.2.2.1).mono ?_;rintro _ w9 ⟨rfl,hb⟩;refine⟨_,rfl,?_⟩;obtain⟨gd,rfl⟩:∃g':G _,w9=g'.W:=⟨mkG (gd.below.trans (hb.mono gd.below.size)),rfl⟩;clear hb;refine hKr.out _ _ ⟨gd,rfl⟩ (fun _=> ?_);clear hKr Kr;refine cW (a':= ?_) ?_ ?_;rotate_left
     ·show ay _ (ag 65) _ = _
      simp only[ay,ae,ah,ai,aJ,aK];rfl
     refine kH (i:=9) (N:=ag 66) #[af,af,af,af,af,af,af,af,af,af,ac,ac,ac,ac,ac] rfl rfl (by kernel_rfl) (by simp) (fun Kr hKr=> ?_);refine eC (v:=.slice (ag ⟨gd.W.heap.size,0,ak⟩) 2 2) (w1:=gd.W.alloc (.cells #[.int .i64 1,.int .i64 ((s1:Nat):Int)] 3)) (by rfl) (by first | (go_simp;done) | (go_simp;rfl)) ?_;refine hKr.out _ _ ⟨mkG (G.ball gd _),rfl⟩ (fun _=> ?_);clear hKr Kr;refine cW (a':= ?_) ?_ ?_;rotate_left
     ·show ay _ (ag 66) _ = _
      simp only[ay,ae,ah,ai,aJ,aK];rfl
     refine kH (i:=10) (N:=ag 67) #[af,af,af,af,af,af,af,af,af,af,af,ac,ac,ac,ac] rfl rfl (by kernel_rfl) (by simp) (fun Kr hKr=> ?_);refine iP Tryz.func155 (by kernel_rfl) rfl #[.slice (ag ⟨gd.W.heap.size,0,ak⟩) 2 2] (by rfl) rfl rfl (by(try simp only[cd,cg,db]);first | done | rfl) ?_;refine(d8 [1,s1] q HM2.out.2.2.1 (nK (by omega) SB.out.1) (by simp) (ag ⟨gd.W.heap.size,0,ak⟩) 2 _ (gT _ [1,s1] 3 (by simp)) (by simp)).mono ?_;rintro _ w9 ⟨rfl,hb⟩;refine⟨_,rfl,?_⟩;obtain⟨gd,rfl⟩:∃g':G _,w9=g'.W:=⟨mkG ((G.ball gd _).trans (hb.mono (G.ball gd _).size)),rfl⟩;clear hb;refine hKr.out _ _ ⟨gd,rfl⟩ (fun _=> ?_);clear hKr Kr;refine cW (a':= ?_) ?_ ?_;rotate_left
     ·show ay _ (ag 67) _ = _
      simp only[ay,ae,ah,ai,aJ,aK];rfl
     refine kH (i:=11) (N:=ag 68) #[af,af,af,af,af,af,af,af,af,af,af,af,ac,ac,ac] rfl rfl (by kernel_rfl) (by simp) (fun Kr hKr=> ?_);refine iP Tryz.func157 (by kernel_rfl) rfl #[.int .u64 (IntKind.u64.wrap (x.f5 - x.f4)),.int .i64 ((q:Nat):Int)] (by rfl) rfl rfl (by(try simp only[cd,cg,db]);first | done | rfl) ?_;refine(timesZ_calls (IntKind.u64.wrap (x.f5 - x.f4)) nn q tt HM2.out.2.2.2.2.1 HM2.out.2.2.2.2.2 SB.out.2 HM2.out.2.2.2.1 gd.W).mono ?_;rintro _ w9 ⟨rfl,hb⟩;refine⟨_,rfl,?_⟩;obtain⟨gd,rfl⟩:∃g':G _,w9=g'.W:=⟨mkG (gd.below.trans (hb.mono gd.below.size)),rfl⟩;clear hb;refine hKr.out _ _ ⟨gd,rfl⟩ (fun _=> ?_);clear hKr Kr;refine cW (a':= ?_) ?_ ?_;rotate_left
     ·show ay _ (ag 68) _ = _
      simp only[ay,ae,ah,ai,aJ,aK];rfl
     refine kH (i:=12) (N:=ag 69) #[af,af,af,af,af,af,af,af,af,af,af,af,af,ac,ac] rfl rfl (by kernel_rfl) (by simp) (fun Kr hKr=> ?_);refine eC (v:=.slice (ag ⟨gd.W.heap.size,0,ak⟩) 2 2) (w1:=gd.W.alloc (.cells #[.int .i64 (m1:Int),.int .i64 ((tt:Nat):Int)] 3)) (by rfl) (by first | (go_simp;done) | (go_simp;rfl)) ?_;refine hKr.out _ _ ⟨mkG (G.ball gd _),rfl⟩ (fun _=> ?_);clear hKr Kr;refine cW (a':= ?_) ?_ ?_;rotate_left
     ·show ay _ (ag 69) _ = _
      simp only[ay,ae,ah,ai,aJ,aK];rfl
     refine kH (i:=13) (N:=ag 70) #[af,af,af,af,af,af,af,af,af,af,af,af,af,af,ac] rfl rfl (by kernel_rfl) (by simp) (fun Kr hKr=> ?_);refine iP Tryz.func155 (by kernel_rfl) rfl #[.slice (ag ⟨gd.W.heap.size,0,ak⟩) 2 2] (by rfl) rfl rfl (by(try simp only[cd,cg,db]);first | done | rfl) ?_;refine(d8 [m1,tt] m2 HM2.out.1 (nK hmb.out.2 (by rw[HM2.out.2.2.2.1];exact Nat.min_le_right _ _)) (by simp) (ag ⟨gd.W.heap.size,0,ak⟩) 2 _ (gT _ [m1,tt] 3 (by simp)) (by simp)).mono ?_;rintro _ w9 ⟨rfl,hb⟩;refine⟨_,rfl,?_⟩;obtain⟨gd,rfl⟩:∃g':G _,w9=g'.W:=⟨mkG ((G.ball gd _).trans (hb.mono (G.ball gd _).size)),rfl⟩;clear hb;refine hKr.out _ _ ⟨gd,rfl⟩ (fun _=> ?_);clear hKr Kr;refine cW (a':= ?_) ?_ ?_;rotate_left
     ·show ay _ (ag 70) _ = _
      simp only[ay,ae,ah,ai,aJ,aK];rfl
     refine aP (i:=14) (N:=ag 3) (v:= ?_) (a':= ?_) #[af,af,af,af,af,af,af,af,af,af,af,af,af,af,af] rfl rfl (by kernel_rfl) (fun _ _ _ h=>h) (bc ⟨by rfl,?_⟩) ?_ ?_;rotate_left
     ·intro w';go_simp;with_reducible rfl
     rotate_left
     ·simp only[ay,ae,ah,ai,aJ,aK];rfl
     refine iF (by kernel_rfl) ?_;go_wp2_with fail;refine⟨⟨k+1,mkG (G.deep (g:=g) gd),by go_num,⟨m2,rfl,?_⟩,rfl,by omega⟩,by simp[intOf];omega⟩;obtain⟨e1,e2,e3,_⟩:=M.out
     have e4:m2=min (m1+tt) 1099511627776:=by simpa using HM2.out.1
     have e5:q=min (1+s1) 1099511627776:=by simpa using HM2.out.2.2.1
     rw[e3,H0.out,if_neg (by decide),if_neg (by decide),if_neg (by decide),if_pos rfl,e4,e2,e1,HM2.out.2.2.2.1,e5,HM2.out.2.1,HNN.out];exact cap_for _ _ _ _ (by decide)
    ·have hlo':¬x.f5 > x.f4:=by omega
     have HLO:=aa hlo;clear hlo;go_wp2_with fail;refine⟨⟨k+1,mkG (G.deep (g:=g) gg),by go_num,⟨m1,rfl,?_⟩,rfl,by omega⟩,by simp[intOf];omega⟩;obtain⟨e1,e2,e3,_⟩:=M.out;rw[e3,H0.out,if_neg (by decide),if_neg (by decide),if_neg (by decide),if_pos rfl,e2,e1,show(x.f5 - x.f4).toNat=0 by have:=HLO.out;omega,Nat.zero_mul];exact cap_one _ _
   ·have b1:(x.f0==1)=ac:=by simpa using h1
    have b2:(x.f0==2)=ac:=by simpa using h2
    have b3:(x.f0==3)=ac:=by simpa using h3
    have b4:(x.f0==4)=ac:=by simpa using h4
    have HN:=aa (aj h1 (aj h2 (aj h3 h4)));clear h1 h2 h3 h4
    go_upto_region 5 with (fail)
    refine aG ?_;intro gg;go_wp2_with fail;refine(cU (g:=gg) (d8 [m,1] m1 M.out.2.2.2 (nK hmb.out.1 (by omega)) (by simp) (ag ⟨gg.W.heap.size,0,ak⟩) 2 _ (gT _ [m,1] 3 (by simp)) (by simp))).mono ?_;rintro _ _ ⟨rfl,gg,rfl⟩;go_wp2_with fail;refine⟨⟨k+1,mkG (G.deep (g:=g) gg),by go_num,⟨m1,rfl,?_⟩,rfl,by omega⟩,by simp[intOf];omega⟩;obtain⟨e1,e2,e3,_⟩:=M.out;rw[e3,if_neg HN.out.1,if_neg HN.out.2.1,if_neg HN.out.2.2.1,if_neg HN.out.2.2.2,e2,e1];exact cap_one _ _
  ·go_wp2_with fail;go_ret;refine⟨?_,g.below⟩;rw[hm,show k=l.length by omega,eu];rfl
end
section
attribute [local go_sem] G.cell
theorem rZ:∀(n:Nat) (l:List S119),cz l<=n->Ot.kZ l->Ot.cK l<=1048576->SizeC 114 1099511627776 l:=by
 intro n
 induction n with
 |zero=>intro l h;cases l <;> simp at h <;> omega
 |succ n ih=>
  intro l h hg hb;refine size_walk l (fun x hx=> ?_) fun x hx=> ?_
  ·have h1:=(Ot.cV l).1 hg x hx;have h2:=j9 hx;have h3:=bO x;have h4:=aS x.f2;have h5:=aS x.f3;obtain⟨a,b,c,d,e,f,g,k⟩:=x;rw[Ot.jV]at h1;have h6:=okU_b h1.2.2.2.2.1;have h7:=okU_b h1.2.2.2.2.2.1;exact⟨h6.1,h7.1,h6.2,h7.2,by omega,by omega⟩
  ·have h1:=gq hx;have h2:=(Ot.cV l).1 hg x hx;have h3:=j9 hx;have h4:=bO x;obtain⟨a,b,c,d,e,f,g,k⟩:=x;rw[Ot.jV]at h2;simp only[S119.mk.sizeOf_spec]at h1;exact⟨ih _ (by show cz g<=n;omega) h2.2.2.2.2.2.2.2.2.1 (by show Ot.cK g<=1048576;simp only at h4;omega),ih _ (by show cz k<=n;omega) h2.2.2.2.2.2.2.2.2.2 (by show Ot.cK k<=1048576;simp only at h4;omega)⟩
theorem c71_calls (nm:ByteArray)(wd ln:Int)(ds:List S70)(bd:List S119)(A3:Option Addr)(c3:Nat)(A4:Option Addr)(c4:Nat)(W:World)(hk:dN.C W A4 bd.length bd)(hl4:bd.length<=c4)(hg:Ot.kZ bd)(hbk:Ot.cK bd<=1048576)(b:Bool)(hb:b=decide (bS bd<=65536)):
 Calls au 201 #[.agg #[.string nm,.int .i64 wd,.int .i64 ln,.slice A3 ds.length c3,.slice A4 bd.length c4]] W fun e w'=>e=.returned (.bool b)/\Below W.heap.size W w':=by
 have gout:=@gA W;have HR:=aa hb;clear hb;have HK:=aa (aj hk (aj hg hbk));clear hk hg hbk;obtain⟨m,hm⟩:∃m,m=min (bS bd) 1099511627776:=⟨_,rfl⟩;have HM:=aa hm;clear hm;go_enter Tryz.func201,Tryz.ntmps201
 go_upto_region 1 with (fail)
 refine aG ?_;intro gg;go_wp2_with fail;refine(aD (g:=gg) (mK (rZ _ bd (aq _) HK.out.2.1 HK.out.2.2) HM.out A4 c4 gg.W (Kd.aF HK.out.1 (gout gg)) hl4)).mono ?_;rintro _ _ ⟨rfl,gg,rfl⟩
 by_cases h:bS bd<=65536
 ·have h':(m:Int)<=65536:=by have:=HM.out;omega
  have H:=aa h;clear h;go_wp2_with fail;go_ret;exact⟨aC (by rw[HR.out,decide_eq_true H.out]),gout _⟩
 ·have h':¬(m:Int)<=65536:=by have:=HM.out;omega
  have H:=aa h;clear h;go_wp2_with fail;go_ret;exact⟨aC (by rw[HR.out,decide_eq_false (show ¬bS bd<=65536 by have:=H.out;omega)];first | rfl | exact decide_eq_false (by have:=HM.out;have:=H.out;omega)),gout _⟩
theorem c52_calls (nm:ByteArray)(wd ln:Int)(ds:List S70)(bd:List S119)(A3:Option Addr)(c3:Nat)(A4:Option Addr)(c4:Nat)(W:World)(hd:k70.C W A3 ds.length ds)(i:Nat)(hi:i<ds.length)(b:Bool)(hb:b=bZ ds i):
 Calls au 182 #[.agg #[.string nm,.int .i64 wd,.int .i64 ln,.slice A3 ds.length c3,.slice A4 bd.length c4],.int .i64 (i:Int)] W fun e w'=>e=.returned (.bool b)/\Below W.heap.size W w':=by
 have gout:=@gA W;have HR:=aa hb;clear hb;have hlm:=hd.2.1;obtain⟨adr,A9d,c9d,e1,q0,q1,q2,q3,l9,g9⟩:=eD hd (i:Int) (bo _) (by omega);cases e1;rw[ax]at q0 q1 q2 q3
 have hi1:(i:Int)<(ds.length:Int):=by omega
 clear hd;go_enter Tryz.func182,Tryz.ntmps182
 go_upto_region 1 with (fail)
 refine aG ?_;intro gg;have r0:∀g:G (gw0 gg),g.W.cell? (adr.add (i*4))=ag (.int .i64 (aI ds (i:Int)).f0):=fun g=>aE (gout g) q0;have r2:∀g:G (gw0 gg),g.W.cell? ⟨(adr.add (i*4)).block,(adr.add (i*4)).off+2,ak⟩=ag (.int .i64 (aI ds (i:Int)).f2):=fun g=>aE (gout g) q2;have r3:∀g:G (gw0 gg),g.W.cell? ⟨(adr.add (i*4)).block,(adr.add (i*4)).off+3,ak⟩=ag (.slice A9d (aI ds (i:Int)).f3.length c9d):=fun g=>aE (gout g) q3;clear q0 q1 q2 q3
 by_cases z:(aI ds (i:Int)).f2=0
 ·have Z:=aa z;go_wp2_with fail;go_ret;exact⟨aC (by rw[HR.out];simp[bZ,Z.out]),gout _⟩
 ·have bz:=bn z;have Z:=aa z;clear z;go_wp2_with fail
  refine(aD (g:=gg) (lW (aI ds (i:Int)).f2 256 gg.W (by decide) (dJ (aI ds (i:Int)).f2) (by
   by_cases h:(aI ds (i:Int)).f2<=256
   ·rw[decide_eq_true h,ku]
   ·rw[decide_eq_false h,jk,pow_out (.inr (by omega))]))).mono ?_
  rintro _ _ ⟨rfl,gg,rfl⟩;go_wp2_with fail;go_ret;exact⟨aC (by rw[HR.out];simp[bZ,Z.out]),gout _⟩
theorem c53_calls (nm:ByteArray)(wd ln:Int)(ds:List S70)(bd:List S119)(A3:Option Addr)(c3:Nat)(A4:Option Addr)(c4:Nat)(W:World)(hd:k70.C W A3 ds.length ds)(i:Nat)(hi:i<ds.length)(b:Bool)(hb:b=bH ds i):
 Calls au 183 #[.agg #[.string nm,.int .i64 wd,.int .i64 ln,.slice A3 ds.length c3,.slice A4 bd.length c4],.int .i64 (i:Int)] W fun e w'=>e=.returned (.bool b)/\Below W.heap.size W w':=by
 have gout:=@gA W;have HR:=aa hb;clear hb;have hlm:=hd.2.1;obtain⟨adr,A9d,c9d,e1,q0,q1,q2,q3,l9,g9⟩:=eD hd (i:Int) (bo _) (by omega);cases e1;rw[ax]at q0 q1 q2 q3
 have hi1:(i:Int)<(ds.length:Int):=by omega
 clear hd;go_enter Tryz.func183,Tryz.ntmps183
 go_upto_region 1 with (fail)
 refine aG ?_;intro gg;have r0:∀g:G (gw0 gg),g.W.cell? (adr.add (i*4))=ag (.int .i64 (aI ds (i:Int)).f0):=fun g=>aE (gout g) q0;have r2:∀g:G (gw0 gg),g.W.cell? ⟨(adr.add (i*4)).block,(adr.add (i*4)).off+2,ak⟩=ag (.int .i64 (aI ds (i:Int)).f2):=fun g=>aE (gout g) q2;have r3:∀g:G (gw0 gg),g.W.cell? ⟨(adr.add (i*4)).block,(adr.add (i*4)).off+3,ak⟩=ag (.slice A9d (aI ds (i:Int)).f3.length c9d):=fun g=>aE (gout g) q3;clear q0 q1 q2 q3
 by_cases z:(aI ds (i:Int)).f0=3
 ·have Z:=aa z
  have bz:((aI ds (i:Int)).f0==3)=af:=by simp[z]
  clear z
  by_cases y:((aI ds (i:Int)).f3.length:Int)=(aI ds (i:Int)).f2
  ·have Y:=aa y
   have by':(((aI ds (i:Int)).f3.length:Int) != (aI ds (i:Int)).f2)=ac:=by simpa using y
   clear y;refine aQ (g:=gg) (by kernel_rfl) (by kernel_rfl) ?_
   repeat(go_big_quiet_step (fail))
   refine wpQuiet_nil ?_;rintro _ ⟨gg,rfl⟩;go_wp2_with fail;go_ret;exact⟨aC (by rw[HR.out];simp[bH,Y.out]),gout _⟩
  ·have Y:=aa y;have by':=bn y;clear y;refine aQ (g:=gg) (by kernel_rfl) (by kernel_rfl) ?_
   repeat(go_big_quiet_step (fail))
   refine wpQuiet_nil ?_;rintro _ ⟨gg,rfl⟩;go_wp2_with fail;go_ret;exact⟨aC (by rw[HR.out];simp[bH,Z.out,Y.out]),gout _⟩
 ·have Z:=aa z;have bz:=bf z;clear z;refine aQ (g:=gg) (by kernel_rfl) (by kernel_rfl) ?_
  repeat(go_big_quiet_step (fail))
  refine wpQuiet_nil ?_;rintro _ ⟨gg,rfl⟩;go_wp2_with fail;go_ret;exact⟨aC (by rw[HR.out];simp[bH,Z.out]),gout _⟩
end
section
attribute [local go_sem] G.cell
attribute [local go_sem] jJ gV lV j4 gY iB jU jQ
theorem inputs_calls (nm:ByteArray)(wd ln:Int)(ds:List S70)(bd:List S119)(A3:Option Addr)(c3:Nat)(A4:Option Addr)(c4:Nat)(W:World)(hd:k70.C W A3 ds.length ds)(hdl:ds.length<=1048576)(hw:∀d∈ds,d.f2=0\/dJ d.f2=af):
 Calls au 189 #[.agg #[.string nm,.int .i64 wd,.int .i64 ln,.slice A3 ds.length c3,.slice A4 bd.length c4]] W fun e w'=>e=.returned (.int .i64 (dG ds))/\Below W.heap.size W w':=by
 have gout:=@gA W;have HD:=aa hd;have HW:=aa hw;have HL:=aa hdl;have hlm:=hd.2.1;clear hd hw hdl;go_enter Tryz.func189,Tryz.ntmps189
 go_upto_region 2 with (fail)
 refine aG ?_;intro gg;have goutW:∀(g:G (gw0 gg)),Below W.heap.size W g.W:=fun g=>gout g;go_wp2_with fail
 go_loopw [9,3] (fun i n X=>∃(k:Nat) (m:Int) (g:G (gw0 gg)),i=.int .i64 k/\n=.int .i64 m/\X=g.W/\k<=ds.length/\Aside0 (m=dG (ds.take k)/\0<=m/\m<=256*(k:Int))) (fun i _ _=>ds.length - (intOf i).toNat)
 case atStart=>exact⟨0,0,gg,rfl,rfl,rfl,bk _,⟨by simp[dG],by omega,by omega⟩⟩
 case round=>
  obtain⟨k,m,gx,rfl,rfl,rfl,hk,HK⟩:=hrel
  by_cases hlt:k<ds.length
  ·obtain⟨adr,A9d,c9d,e1,q0,q1,q2,q3,l9,g9⟩:=eD HD.out (k:Int) (bo _) (by omega);cases e1;rw[ax]at q0 q1 q2 q3;replace q0:=aE (goutW gx) q0;replace q1:=aE (goutW gx) q1;replace q2:=aE (goutW gx) q2;replace q3:=aE (goutW gx) q3;clear l9 g9
   have hi1:(k:Int)<(ds.length:Int):=by omega
   have T:=aa (congrArg dG (rS hlt));have WL:=aa (aj (words_le (HW.out _ (eJ hlt))) (HW.out _ (eJ hlt)))
   go_upto_region 5 with (fail)
   refine aG ?_;intro g2;have goutX:∀(g:G (gw0 g2)),Below (gw0 gg).heap.size (gw0 gg) g.W:=fun g=>(gx.below.alloc gx.below.size _).trans (g.below.mono (bi gx.below.size (by simp[gw0])));have KS:=aa (show ∀z,z=dG (ds.take k)+(if isIn (aI ds (k:Int))=af then cT (aI ds (k:Int))else 0)->z=dG (ds.take (k+1)) from fun z hz=>by have h:=T.out;rw[mF]at h;rw[h,hz])
   have HV:=aa (show wrap64 (m+if(aI ds (k:Int)).f2<1 then 1 else(aI ds (k:Int)).f2)=m+cT (aI ds (k:Int)) by
    have h1:=WL.out.1;have h2:=WL.out.2;have h3:=HK.out;have h4:=HL.out
    have e:(if(aI ds (k:Int)).f2<1 then 1 else(aI ds (k:Int)).f2)=cT (aI ds (k:Int)):=by
     unfold cT
     rcases h2 with h2 | h2
     ·rw[h2];rfl
     ·have h5:=rL h2;rw[if_neg (by omega),if_neg (by omega)]
    rw[e]
    exact jW (by omega) (by omega))
   by_cases f1:(aI ds (k:Int)).f0=1
   ·have b1:((aI ds (k:Int)).f0==1)=af:=by simp[f1]
    have FF:=aa f1;clear f1;go_wp2_with fail;refine⟨⟨k+1,m+cT (aI ds (k:Int)),mkG (goutX g2),by go_num,by rw[HV.out],rfl,by omega,⟨KS.out _ (by rw[HK.out.1,if_pos (by simp[isIn,FF.out])]),by have h1:=HK.out;have h2:=WL.out.1;omega,by have h1:=HK.out;have h2:=WL.out.1;omega⟩⟩,by simp[intOf];omega⟩
   ·have b1:=bf f1
    by_cases f2:(aI ds (k:Int)).f0=2
    ·have b2:((aI ds (k:Int)).f0==2)=af:=by simp[f2]
     have FF:=aa f2;clear f1 f2;go_wp2_with fail;refine⟨⟨k+1,m+cT (aI ds (k:Int)),mkG (goutX g2),by go_num,by rw[HV.out],rfl,by omega,⟨KS.out _ (by rw[HK.out.1,if_pos (by simp[isIn,FF.out])]),by have h1:=HK.out;have h2:=WL.out.1;omega,by have h1:=HK.out;have h2:=WL.out.1;omega⟩⟩,by simp[intOf];omega⟩
    ·have b2:=bf f2;have FF:=aa (aj f1 f2);clear f1 f2;go_wp2_with fail;refine⟨⟨k+1,m,mkG (goutX g2),by go_num,rfl,rfl,by omega,⟨KS.out _ (by rw[HK.out.1,if_neg (by simp[isIn,FF.out.1,FF.out.2])];simp),by have h1:=HK.out;omega,by have h1:=HK.out;omega⟩⟩,by simp[intOf];omega⟩
  ·have hi1:¬(k:Int)<(ds.length:Int):=by omega
   have M9:=aa (show m=dG ds by have h:=HK.out.1;rw[show k=ds.length by omega,eu]at h;exact h);go_wp2_with fail;go_ret;exact⟨by rw[←M9.out];rfl,goutW _⟩
theorem c58_calls (nm:ByteArray)(wd ln:Int)(ds:List S70)(bd:List S119)(A3:Option Addr)(c3:Nat)(A4:Option Addr)(c4:Nat)(W:World)(hd:k70.C W A3 ds.length ds)(hdl:ds.length<=1048576)(hw:∀d∈ds,d.f2=0\/dJ d.f2=af)(b:Bool)(hb:b=decide (dG ds<=4096)):
 Calls au 188 #[.agg #[.string nm,.int .i64 wd,.int .i64 ln,.slice A3 ds.length c3,.slice A4 bd.length c4]] W fun e w'=>e=.returned (.bool b)/\Below W.heap.size W w':=by
 have gout:=@gA W;have HR:=aa hb;have HD:=aa (aj hd (aj hdl hw));clear hb hd hdl hw;go_enter Tryz.func188,Tryz.ntmps188
 go_upto_region 1 with (fail)
 refine aG ?_;intro gg;go_wp2_with fail;refine(aD (g:=gg) (inputs_calls nm wd ln ds bd A3 c3 A4 c4 gg.W (Kd.aF HD.out.1 (gout gg)) HD.out.2.1 HD.out.2.2)).mono ?_;rintro _ _ ⟨rfl,gg,rfl⟩;go_wp2_with fail;go_ret;exact⟨aC (by rw[HR.out]),gout _⟩
end
section
attribute [local go_sem] G.cell
theorem find_qi {A3:Option Addr}{ds:List S70}{s:ByteArray}{q:Option Addr}(hq:qOf A3 ds s=q){k:Nat}(hk:k=ds.length)(nm:ByteArray)(wd ln:Int)(c3:Nat)(A4:Option Addr)(n4 c4:Nat)(w:World)(hd:k70.C w A3 ds.length ds)(hld:ds.length<=c3):
 Calls au 181 #[.agg #[.string nm,.int .i64 wd,.int .i64 ln,.slice A3 k c3,.slice A4 n4 c4],.string s] w fun e w'=>e=.returned (.pointer q)/\Below w.heap.size w w':=by
 subst hk;exact hq ▸ find_q nm wd ln ds A3 c3 A4 n4 c4 s w hd hld
theorem twice_find (ds:List S70)(i:Nat)(hi:i<ds.length):dL ds i=(cG (ds.take i) (aI ds (i:Int)).f1).isSome:=by
 unfold dL cG
 have hl:(ds.take i).length=i:=by simp;omega
 rw[hl]
 congr 1
 refine firstN_congr fun j hj=> ?_
 have e:aI (ds.take i) (j:Int)=aI ds (j:Int):=by
  unfold aI;rw[ax,aw,aw,ke,if_pos hj]
 rw[e]
theorem c50_calls (nm:ByteArray)(wd ln:Int)(ds:List S70)(bd:List S119)(A3:Option Addr)(c3:Nat)(A4:Option Addr)(c4:Nat)(W:World)(hd:k70.C W A3 ds.length ds)(hld:ds.length<=c3)(i:Nat)(hi:i<ds.length)(b:Bool)(hb:b=dL ds i):
 Calls au 180 #[.agg #[.string nm,.int .i64 wd,.int .i64 ln,.slice A3 ds.length c3,.slice A4 bd.length c4],.int .i64 (i:Int)] W fun e w'=>e=.returned (.bool b)/\Below W.heap.size W w':=by
 have gout:=@gA W;have HR:=aa (hb.trans (twice_find ds i hi));clear hb;have hlm:=hd.2.1;have HTK:=aa (Kd.C_take hd (show i<=ds.length by omega));have HLC:=aa (show(ds.take i).length<=c3 by simp;omega);obtain⟨adr,A9d,c9d,e1,q0,q1,q2,q3,l9,g9⟩:=eD hd (i:Int) (bo _) (by omega);cases e1;rw[ax]at q1
 have hi1:(i:Int)<(ds.length:Int):=by omega
 have hi2:(i:Int)<=(c3:Int):=by omega
 have HD:=aa hd
 have hsl:∀X:World,(Instr.slice 22 (.slice (ag adr) ds.length c3) ak (ag (.int .i64 (i:Int))) ak).run au X=.ok (.slice (ag adr) i c3) X:=by
  intro X;go_simp
  try simp
 clear hd q0 q2 q3 l9 g9;go_enter Tryz.func180,Tryz.ntmps180
 go_upto_region 1 with (fail)
 refine aG ?_;intro gg;have r1:∀g:G (gw0 gg),g.W.cell? ⟨(adr.add (i*4)).block,(adr.add (i*4)).off+1,ak⟩=ag (.string (aI ds (i:Int)).f1):=fun g=>aE (gout g) q1;clear q1
 rcases aL ((cG (ds.take i) (aI ds (i:Int)).f1).isNone)with hn | hn
 ·have hq:=qOf_none (A3:=ag adr) hn;have HN:=aa (show(cG (ds.take i) (aI ds (i:Int)).f1).isSome=ac by cases hf:cG (ds.take i) (aI ds (i:Int)).f1 with | none=>rfl | some j=>rw[hf]at hn;cases hn);have HQ:=aa hq;clear hn hq;refine aQ (g:=gg) (by kernel_rfl) (by kernel_rfl) ?_
  repeat(go_big_quiet_step (fail))
  go_big_quiet_step (first | (go_at_call 181;exact aD (find_qi HQ.out (by simp;omega) _ _ _ _ _ _ _ _ (Kd.aF HTK.out (gout _)) HLC.out)))
  repeat(go_big_quiet_step (fail))
  refine wpQuiet_nil ?_;rintro _ ⟨gg,rfl⟩;go_wp2_with fail;go_ret;exact⟨aC (by rw[HR.out,HN.out]),gout _⟩
 ·obtain⟨qa,hq⟩:=qOf_some HTK.out hn;have HN:=aa (show(cG (ds.take i) (aI ds (i:Int)).f1).isSome=af by cases hf:cG (ds.take i) (aI ds (i:Int)).f1 with | none=>rw[hf]at hn;cases hn | some j=>rfl);have HQ:=aa hq;clear hn hq;refine aQ (g:=gg) (by kernel_rfl) (by kernel_rfl) ?_
  repeat(go_big_quiet_step (fail))
  go_big_quiet_step (first | (go_at_call 181;exact aD (find_qi HQ.out (by simp;omega) _ _ _ _ _ _ _ _ (Kd.aF HTK.out (gout _)) HLC.out)))
  repeat(go_big_quiet_step (fail))
  refine wpQuiet_nil ?_;rintro _ ⟨gg,rfl⟩;go_wp2_with fail;go_ret;exact⟨aC (by rw[HR.out,HN.out]),gout _⟩
end
section
attribute [local go_sem] G.cell
theorem neg_calls (wd x:Int)(bp:Nat)(W:World)(hc:W.cell? ⟨bp,1,ak⟩=ag (.int .i64 wd))(h0:0<=wd)(hx:0<=x)(b:Bool)(hb:gP wd x=b):
 Calls au 186 #[.int .u64 x,.pointer (ag ⟨bp,0,ak⟩)] W fun e w'=>e=.returned (.bool (!b))/\Below W.heap.size W w':=by
 go_enter Tryz.func186,Tryz.ntmps186
 go_upto_region 1 with (fail)
 refine aG ?_;intro gg;have hc2:=aE gg.below hc;clear hc;go_wp2_with fail;refine(aD (g:=gg) (m9 wd x gg.W h0 hx b hb)).mono ?_;rintro _ _ ⟨rfl,gg,rfl⟩;go_wp2_with fail;go_ret;exact⟨rfl,gg.below⟩
def indexS (wd:Int)(l:List Int):Int:=match bB l.length (fun j=> !gP wd (l.getD j 0))with
 |some i=>(i:Int)
 |none=> -1
theorem index_calls (wd:Int)(l:List Int)(bp:Nat)(A:Option Addr)(c:Nat)(W:World)(hc:W.cell? ⟨bp,1,ak⟩=ag (.int .i64 wd))(h0:0<=wd)(hx:∀v∈l,0<=v)(hl:(Kd.int .u64).C W A l.length l)(hlc:l.length<=c)(r:Int)(hr:r=indexS wd l):
 Calls au 248 #[.slice A l.length c,.func (.func 186) #[] #[.pointer (ag ⟨bp,0,ak⟩)]] W fun e w'=>e=.returned (.int .i64 r)/\Below W.heap.size W w':=by
 have HC:=aa hc;have HX:=aa hx;have HL:=aa hl;have HR:=aa hr;have hlm:=hl.2.1;clear hc hx hl hr;go_enter Tryz.func248,Tryz.ntmps248;go_wp2_with fail
 go_loopw [8] (fun i X=>∃(k:Nat) (g:G W),i=.int .i64 k/\X=g.W/\k<=l.length/\Aside0 (∀j,j<k->(!gP wd (l.getD j 0))=ac)) (fun i _=>l.length - (intOf i).toNat)
 case atStart=>exact⟨0,⟨W,ar _ _⟩,rfl,rfl,bk _,⟨fun j hj=>absurd hj (da _)⟩⟩
 case round=>
  obtain⟨k,gx,rfl,rfl,hk,HK⟩:=hrel
  by_cases hlt:k<l.length
  ·obtain⟨adv,cs9,eA,ec9,eK9,hc9⟩:=Kd.oZ (d:=Kd.int .u64) HL.out (0:Int) (k:Int) (bo _) (by omega);cases eA;have eK9':cs9=[.int .u64 (l.getD (k:Int).toNat 0)]:=eK9;subst eK9';have s0:=hc9 0 _ rfl;rw[ax]at s0;clear hc9 eK9 ec9;replace s0:=aE gx.below s0;have t0:gx.W.cell? (adv.add (k*1+0))=ag (.int .u64 (l.getD k 0)):=s0;simp only[ib,gm]at t0;clear s0
   have hk1:(k:Int)<(l.length:Int):=by omega
   have hv:=aa (HX.out _ (qF hlt));obtain⟨z,hz⟩:∃z,l.getD k 0=z:=⟨_,rfl⟩;rw[hz]at hv t0;have HZ:=aa hz;clear hz;go_wp2_with fail
   rcases aL (gP wd z)with hf | hf
   ·have HF:=aa hf;clear hf;refine(aD (g:=gx) (neg_calls wd z bp gx.W (aE gx.below HC.out) h0 hv.out af HF.out)).mono ?_;rintro _ _ ⟨rfl,g2,rfl⟩;go_wp2_with fail;exact⟨⟨k+1,g2,by go_num,rfl,by omega,⟨fun j hj=>(gy (j=k)).elim (fun h=>by rw[h,HZ.out,HF.out];rfl) (fun h=>HK.out j (by omega))⟩⟩,by simp[intOf];omega⟩
   ·have HF:=aa hf;clear hf;refine(aD (g:=gx) (neg_calls wd z bp gx.W (aE gx.below HC.out) h0 hv.out ac HF.out)).mono ?_;rintro _ _ ⟨rfl,g2,rfl⟩;go_wp2_with fail;go_ret
    have e:r=(k:Int):=by rw[HR.out];unfold indexS;rw[cD hlt (by rw[HZ.out,HF.out];rfl) HK.out]
    exact⟨by rw[e];rfl,g2.below⟩
  ·have hk1:¬(k:Int)<(l.length:Int):=by omega
   go_wp2_with fail;go_ret
   have e:r= -1:=by rw[HR.out];unfold indexS;rw[bI fun j hj=>HK.out j (by omega)]
   exact⟨by rw[e];rfl,gx.below⟩
theorem index_any (wd:Int)(l:List Int):decide (0<=indexS wd l)=l.any (fun v=> !gP wd v):=by
 unfold indexS
 rcases dK l.length (fun j=> !gP wd (l.getD j 0))with ⟨h1,h2⟩ | ⟨i,h0,h1,h2,_⟩
 ·rw[h1]
  symm
  rw[show decide ((0:Int)<= -1)=ac by decide,List.any_eq_false];intro v hv;obtain⟨j,hj,rfl⟩:=gr hv;have:=h2 j hj;simp only[aw,az hj]at this
  simpa using this
 ·rw[h1]
  symm
  rw[show decide ((0:Int)<=(i:Int))=af by simp,List.any_eq_true];exact⟨_,qF h0,h2⟩
theorem contains_calls (wd:Int)(l:List Int)(bp:Nat)(A:Option Addr)(c:Nat)(W:World)(hc:W.cell? ⟨bp,1,ak⟩=ag (.int .i64 wd))(h0:0<=wd)(hx:∀v∈l,0<=v)(hl:(Kd.int .u64).C W A l.length l)(hlc:l.length<=c)(b:Bool)(hb:b=l.any (fun v=> !gP wd v)):
 Calls au 185 #[.slice A l.length c,.func (.func 186) #[] #[.pointer (ag ⟨bp,0,ak⟩)]] W fun e w'=>e=.returned (.bool b)/\Below W.heap.size W w':=by
 have H:=aa (aj hc (aj hx hl));obtain⟨r,hr⟩:∃r,r=indexS wd l:=⟨_,rfl⟩;have HR:=aa hr;have HB:=aa (hb.trans (index_any wd l).symm);clear hc hx hl hr hb;go_enter Tryz.func185,Tryz.ntmps185
 go_upto_region 1 with (fail)
 refine aG ?_;intro gg;go_wp2_with fail;refine(aD (g:=gg) (index_calls wd l bp A c gg.W (aE gg.below H.out.1) h0 H.out.2.1 (Kd.aF H.out.2.2 gg.below) hlc r HR.out)).mono ?_;rintro _ _ ⟨rfl,gg,rfl⟩
 rcases dh r 0 with hn | hn
 ·have hn':¬r ≥ 0:=by omega
  have HN:=aa hn;go_wp2_with fail;go_ret;exact⟨aC (by rw[HB.out,←HR.out] <;> (symm;exact decide_eq_false (by have:=HN.out;omega))),gg.below⟩
 ·have hn':r ≥ 0:=hn;have HN:=aa hn;go_wp2_with fail;go_ret;exact⟨aC (by rw[HB.out,←HR.out] <;> (symm;exact decide_eq_true HN.out)),gg.below⟩
theorem c54_calls (nm:ByteArray)(wd ln:Int)(ds:List S70)(bd:List S119)(A3:Option Addr)(c3:Nat)(A4:Option Addr)(c4:Nat)(W:World)(hd:k70.C W A3 ds.length ds)(h0:0<=wd)(hv:∀d∈ds,∀v∈d.f3,0<=v)(i:Nat)(hi:i<ds.length)(b:Bool)(hb:b=cS wd ds i):
 Calls au 184 #[.agg #[.string nm,.int .i64 wd,.int .i64 ln,.slice A3 ds.length c3,.slice A4 bd.length c4],.int .i64 (i:Int)] W fun e w'=>e=.returned (.bool b)/\Below W.heap.size W w':=by
 have hmf:∀(fn:Fn) (first cap:Array Value) (w:World),(Instr.makeFunc fn first cap).run au w=.ok (.func fn first cap) w:=fun _ _ _ _=>rfl;have gout:=@gA W;have HR:=aa hb;have HV:=aa (hv _ (eJ hi));have hlm:=hd.2.1;obtain⟨adr,A9d,c9d,e1,q0,q1,q2,q3,l9,g9⟩:=eD hd (i:Int) (bo _) (by omega);cases e1;rw[ax]at q3
 have hi1:(i:Int)<(ds.length:Int):=by omega
 have VAL:=aa (aj l9 g9);clear hb hv hd q0 q1 q2 l9 g9;go_enter Tryz.func184,Tryz.ntmps184
 go_upto_region 1 with (fail)
 refine aG ?_;intro gg;have r3:=aE (gout gg) q3;have x1:=aa (show gg.W.cell? ⟨W.heap.size,1,ak⟩=ag (.int .i64 wd) from(gg.below.cell (p:=⟨W.heap.size,1,ak⟩) (by simp)).trans (by simp[go_sem]));clear q3;go_wp2_with fail;refine(aD (g:=gg) (contains_calls wd (aI ds (i:Int)).f3 W.heap.size A9d c9d gg.W x1.out h0 HV.out (Kd.aF VAL.out.2 (gout gg)) VAL.out.1 b HR.out)).mono ?_;rintro _ _ ⟨rfl,gg,rfl⟩;go_wp2_with fail;go_ret;exact⟨rfl,gout _⟩
end
theorem lM:∀(L:List Obj) (W:World),Below W.heap.size W (L.foldl World.alloc W)
 | [],W=>ar _ _
 |o::r,W=>((ar _ _).alloc (aq _) o).trans ((lM r (W.alloc o)).mono (by simp))
theorem mT:∀(L:List Obj) (W:World) (i:Nat),i<L.length->(L.foldl World.alloc W).heap[W.heap.size+i]? =L[i]?
 | [],_,_,h=>by simp at h
 |o::r,W,0,_=>by
  rw[List.foldl_cons,gm,(lM r (W.alloc o)).block W.heap.size (by simp)];exact aW W o
 |o::r,W,i+1,h=>by
  have e:=mT r (W.alloc o) i (by simpa using h)
  have hs:(W.alloc o).heap.size=W.heap.size+1:=by simp
  rw[hs]at e;rw[List.foldl_cons,show W.heap.size+(i+1)=W.heap.size+1+i by omega]
  simpa using e
def clL (b:Nat):List Obj:=[.cells #[.func (.func 75) #[] #[]] 33,.cells #[.func (.func 175) #[] #[]] 33,.cells #[.func (.func 177) #[] #[]] 33,.cells #[.func (.func 178) #[] #[]] 33,.cells #[.func (.func 180) #[] #[]] 55,.cells #[.func (.func 182) #[] #[]] 55,.cells #[.func (.func 183) #[] #[]] 55,.cells #[.func (.func 184) #[] #[]] 55,.cells #[.func (.func 188) #[] #[]] 33,.cells #[.func (.func 191) #[] #[]] 240,.cells #[.func (.func 193) #[] #[]] 240,.cells #[.func (.func 196) #[] #[]] 240,.cells #[.func (.func 198) #[] #[]] 240,.cells #[.func (.func 199) #[] #[]] 240,.cells #[.func (.func 200) #[] #[]] 240,.cells #[.func (.func 201) #[] #[]] 33,.cells #[.int .i64 1,.func (.func 246) #[] #[.pointer (ag ⟨b+0,0,ak⟩)],.int .i64 5,.func (.func 246) #[] #[.pointer (ag ⟨b+1,0,ak⟩)],.int .i64 163,.func (.func 246) #[] #[.pointer (ag ⟨b+2,0,ak⟩)],.int .i64 4,.func (.func 246) #[] #[.pointer (ag ⟨b+3,0,ak⟩)],.int .i64 160,.func (.func 247) #[] #[.pointer (ag ⟨b+4,0,ak⟩)],.int .i64 163,.func (.func 247) #[] #[.pointer (ag ⟨b+5,0,ak⟩)],.int .i64 164,.func (.func 247) #[] #[.pointer (ag ⟨b+6,0,ak⟩)],.int .i64 165,.func (.func 247) #[] #[.pointer (ag ⟨b+7,0,ak⟩)],.int .i64 169,.func (.func 246) #[] #[.pointer (ag ⟨b+8,0,ak⟩)],.int .i64 152,.func (.func 249) #[] #[.pointer (ag ⟨b+9,0,ak⟩)],.int .i64 161,.func (.func 249) #[] #[.pointer (ag ⟨b+10,0,ak⟩)],.int .i64 162,.func (.func 249) #[] #[.pointer (ag ⟨b+11,0,ak⟩)],.int .i64 165,.func (.func 249) #[] #[.pointer (ag ⟨b+12,0,ak⟩)],.int .i64 166,.func (.func 249) #[] #[.pointer (ag ⟨b+13,0,ak⟩)],.int .i64 167,.func (.func 249) #[] #[.pointer (ag ⟨b+14,0,ak⟩)],.int .i64 168,.func (.func 246) #[] #[.pointer (ag ⟨b+15,0,ak⟩)]] 190]
theorem clauses_calls (W:World):Calls au 128 #[] W fun e w'=>e=.returned (.slice (ag ⟨W.heap.size+16,0,ak⟩) 16 16)/\w'=(clL W.heap.size).foldl World.alloc W:=by
 have hmf:∀(fn:Fn) (first cap:Array Value) (w:World),(Instr.makeFunc fn first cap).run au w=.ok (.func fn first cap) w:=fun _ _ _ _=>rfl;go_enter Tryz.func128,Tryz.ntmps128
 go_wp2
 go_ret;exact⟨rfl,rfl⟩
section
attribute [local go_sem] G.cell
theorem cl12_calls {Wb:World}(nm:ByteArray)(wd ln:Int)(ds:List S70)(bd:List S119)(A3:Option Addr)(c3:Nat)(A4:Option Addr)(c4:Nat)(hp:ProgAt Wb ds bd A3 c3 A4 c4)(hd0:∀d∈ds,0<=d.f2)(W:World)(n:Nat)(dp sp ep:Value)(dI:Int)(lp:Value)(t:Th)(hR:RT t)(hB:Below Wb.heap.size Wb W)(ht:ThP Wb W dp sp ep dI lp t)(h11:lG ds t=ac)(b:Bool)(hb:b=bad12 ds t):
 Calls au 196 #[.agg #[.string nm,.int .i64 wd,.int .i64 ln,.slice A3 ds.length c3,.slice A4 bd.length c4],.agg #[.int .i64 n,dp,sp,ep,.int .i64 dI,lp]] W fun e w'=>e=.returned (.bool b)/\Below W.heap.size W w':=by
 have gout:∀{o o':Obj} (g:G ((W.alloc o).alloc o')),Below W.heap.size W g.W:=fun g=>(((ar _ _).alloc (aq _) _).alloc (by simp) _).trans (g.below.mono (by simp;omega));have HB:=aa hB;have HP:=aa hp;have HR:=aa hb;have HT:=aa ht;have HRT:=aa hR;clear hb hB hp hR;go_enter Tryz.func196,Tryz.ntmps196
 go_upto_region 1 with (fail)
 refine aG ?_;intro gg;have goutW:∀(g:G (gw0 gg)),Below W.heap.size W g.W:=fun g=>gout g;have goutB:∀(g:G (gw0 gg)),Below Wb.heap.size Wb g.W:=fun g=>HB.out.trans ((goutW g).mono HB.out.size);clear ht;obtain⟨r1,h1⟩:∃r,r=(jS t).getD ⟨#[]⟩:=⟨_,rfl⟩;obtain⟨r2,h2⟩:∃r,r=(jS t).isSome:=⟨_,rfl⟩;have HU:=aa (show(r1,r2)=((jS t).getD ⟨#[]⟩,(jS t).isSome) by rw[h1,h2]);have HV:=aa (aj h1 h2);have H11:=aa h11;have HD:=aa hd0;clear h1 h2 h11 hd0;go_wp2_with fail;refine(aD (g:=gg) (use_calls gg.W n dp sp ep dI lp t HRT.out (goutB gg) (HT.out.below (goutW gg)) r1 r2 HU.out)).mono ?_;rintro _ _ ⟨rfl,gg,rfl⟩
 cases hu:jS t with
 |none=>
  have e2:r2=ac:=by rw[HV.out.2,hu];rfl
  have HE:=aa (show b=ac by rw[HR.out];unfold bad12;rw[hu]);clear hu;subst e2;go_wp2_with fail;go_ret;exact⟨aC HE.out.symm,goutW _⟩
 |some s=>
  have e2:r2=af:=by rw[HV.out.2,hu];rfl
  have e1:r1=s:=by rw[HV.out.1,hu];rfl
  have HE:=aa (show b= !sS ds t s by rw[HR.out];unfold bad12;rw[hu]);have HUS:=aa hu
  have KN:=aa (show iL (gN t) s=af\/∃i,cG ds s=ag i by
   have h:=H11.out;unfold lG at h;rw[hu]at h;simp only[Bool.and_eq_false_iff,Bool.not_eq_false']at h
   rcases h with h | h
   ·exact .inl h
   ·cases hf:cG ds s with
    |none=>rw[hf]at h;cases h
    |some i=>exact .inr ⟨i,rfl⟩)
  clear hu;subst e2 e1;obtain⟨kb,hkb⟩:∃z,z=sS ds t r1:=⟨_,rfl⟩;have HKB:=aa hkb;clear hkb;go_wp2_with fail;refine(aD (g:=gg) (wkind_calls nm wd ln ds bd A3 c3 A4 c4 HP.out HD.out gg.W n dp sp ep dI lp t HRT.out (goutB gg) (HT.out.below (goutW gg)) r1 HUS.out KN.out kb HKB.out)).mono ?_;rintro _ _ ⟨rfl,gg,rfl⟩;go_wp2_with fail;go_ret;exact⟨aC (by rw[HE.out,←HKB.out]),goutW _⟩
end
section
attribute [local go_sem] G.cell
theorem cl13_calls {Wb:World}(nm:ByteArray)(wd ln:Int)(ds:List S70)(bd:List S119)(A3:Option Addr)(c3:Nat)(A4:Option Addr)(c4:Nat)(hp:ProgAt Wb ds bd A3 c3 A4 c4)(hw:0<=wd)(W:World)(n:Nat)(dp sp ep:Value)(dI:Int)(lp:Value)(t:Th)(hR:RT t)(hB:Below Wb.heap.size Wb W)(ht:ThP Wb W dp sp ep dI lp t)(b:Bool)(hb:b=bad13 wd t):
 Calls au 198 #[.agg #[.string nm,.int .i64 wd,.int .i64 ln,.slice A3 ds.length c3,.slice A4 bd.length c4],.agg #[.int .i64 n,dp,sp,ep,.int .i64 dI,lp]] W fun e w'=>e=.returned (.bool b)/\Below W.heap.size W w':=by
 have gout:∀{o o':Obj} (g:G ((W.alloc o).alloc o')),Below W.heap.size W g.W:=fun g=>(((ar _ _).alloc (aq _) _).alloc (by simp) _).trans (g.below.mono (by simp;omega));have HB:=aa hB;have HP:=aa hp;have HR:=aa hb;have HT:=aa ht;have HRT:=aa hR;clear hb hB hp hR;go_enter Tryz.func198,Tryz.ntmps198
 go_upto_region 1 with (fail)
 refine aG ?_;intro gg;have goutW:∀(g:G (gw0 gg)),Below W.heap.size W g.W:=fun g=>gout g;have goutB:∀(g:G (gw0 gg)),Below Wb.heap.size Wb g.W:=fun g=>HB.out.trans ((goutW g).mono HB.out.size)
 cases t with
 |decl i=>
  obtain⟨⟨a,rfl⟩,rfl,rfl,rfl,rfl⟩:=ht
  go_upto_region 1 with (fail)
  refine aQ (g:=gg) (by kernel_rfl) (by kernel_rfl) ?_
  repeat(go_big_quiet_step (fail))
  refine wpQuiet_nil ?_;rintro _ ⟨gg,rfl⟩;go_wp2_with fail;go_ret;exact⟨aC (by rw[HR.out];rfl),goutW _⟩
 |stmt s d lo=>
  obtain⟨rfl,⟨a,A5,c5,A9,c9,A12,c12,A13,c13,rfl,hr,_⟩,rfl,rfl,hsc⟩:=ht;clear hr hsc
  go_upto_region 1 with (fail)
  refine aQ (g:=gg) (by kernel_rfl) (by kernel_rfl) ?_
  repeat(go_big_quiet_step (fail))
  refine wpQuiet_nil ?_;rintro _ ⟨gg,rfl⟩;go_wp2_with fail;go_ret;exact⟨aC (by rw[HR.out];rfl),goutW _⟩
 |expr x lo=>
  obtain⟨rfl,rfl,⟨a,A,c,rfl,hr,_⟩,rfl,hsc⟩:=ht;have q0:∀g:G (gw0 gg),g.W.cell? ⟨a.block,a.off,ak⟩=ag (.int .i64 x.f0):=fun g=>aE (goutB g) (by have:=hr 0 _ rfl;rwa [gm]at this);have q1:∀g:G (gw0 gg),g.W.cell? ⟨a.block,a.off+1,ak⟩=ag (.int .u64 x.f1):=fun g=>aE (goutB g) (hr 1 _ rfl);clear hr hsc
  by_cases k:x.f0=1
  ·have K:=aa k;rw[k]at q0;clear k
   rcases aL (gP wd x.f1)with hf | hf
   ·have HF:=aa hf;clear hf
    go_upto_region 1 with (fail)
    refine aQ (g:=gg) (by kernel_rfl) (by kernel_rfl) ?_
    repeat(go_big_quiet_step (fail))
    go_big_quiet_step (first | (go_at_call 187;exact aD (m9 wd x.f1 _ hw HRT.out.1 _ HF.out)))
    repeat(go_big_quiet_step (fail))
    refine wpQuiet_nil ?_;rintro _ ⟨gg,rfl⟩;go_wp2_with fail;go_ret;exact⟨aC (by rw[HR.out];simp[bad13,K.out,HF.out]),goutW _⟩
   ·have HF:=aa hf;clear hf
    go_upto_region 1 with (fail)
    refine aQ (g:=gg) (by kernel_rfl) (by kernel_rfl) ?_
    repeat(go_big_quiet_step (fail))
    go_big_quiet_step (first | (go_at_call 187;exact aD (m9 wd x.f1 _ hw HRT.out.1 _ HF.out)))
    repeat(go_big_quiet_step (fail))
    refine wpQuiet_nil ?_;rintro _ ⟨gg,rfl⟩;go_wp2_with fail;go_ret;exact⟨aC (by rw[HR.out];simp[bad13,K.out,HF.out]),goutW _⟩
  ·have K:=aa k;have b1:=bf k;clear k
   go_upto_region 1 with (fail)
   refine aQ (g:=gg) (by kernel_rfl) (by kernel_rfl) ?_
   repeat(go_big_quiet_step (fail))
   refine wpQuiet_nil ?_;rintro _ ⟨gg,rfl⟩;go_wp2_with fail;go_ret;exact⟨aC (by rw[HR.out];simp[bad13,K.out]),goutW _⟩
end
section
attribute [local go_sem] G.cell
theorem jK {wd:Int}{s:S119}{d:Nat}{lo:List ByteArray}(hk:s.f0=4)(hn:¬s.f5<s.f4)(P:Int)(hP:(2:Int) ^ wd.toNat=P)(hw:¬64<=wd)(hP0:0<P):pW wd (.stmt s d lo)=decide (P<s.f5):=by
 unfold pW gP;simp only[];rw[beq_iff_eq.2 hk,decide_eq_false hn,decide_eq_false hw,hP]
 by_cases h:P<s.f5
 ·rw[decide_eq_true h,decide_eq_true (show 0<s.f5 by omega),decide_eq_false (show ¬s.f5 - 1<P by omega)];rfl
 ·rw[decide_eq_false h,decide_eq_true (show s.f5 - 1<P by omega)];simp
theorem bad14_64 {s:S119}{d:Nat}{lo:List ByteArray}(hk:s.f0=4)(hn:¬s.f5<s.f4):pW 64 (.stmt s d lo)=ac:=by
 unfold pW gP;simp only[];rw[beq_iff_eq.2 hk,decide_eq_false hn,decide_eq_true (show(64:Int)<=64 by decide)]
 simp
theorem cl14_calls {Wb:World}(nm:ByteArray)(wd ln:Int)(ds:List S70)(bd:List S119)(A3:Option Addr)(c3:Nat)(A4:Option Addr)(c4:Nat)(hp:ProgAt Wb ds bd A3 c3 A4 c4)(hw:dB wd=af)(W:World)(n:Nat)(dp sp ep:Value)(dI:Int)(lp:Value)(t:Th)(hR:RT t)(hB:Below Wb.heap.size Wb W)(ht:ThP Wb W dp sp ep dI lp t)(b:Bool)(hb:b=pW wd t):
 Calls au 199 #[.agg #[.string nm,.int .i64 wd,.int .i64 ln,.slice A3 ds.length c3,.slice A4 bd.length c4],.agg #[.int .i64 n,dp,sp,ep,.int .i64 dI,lp]] W fun e w'=>e=.returned (.bool b)/\Below W.heap.size W w':=by
 have gout:∀{o o':Obj} (g:G ((W.alloc o).alloc o')),Below W.heap.size W g.W:=fun g=>(((ar _ _).alloc (aq _) _).alloc (by simp) _).trans (g.below.mono (by simp;omega));have HB:=aa hB;have HP:=aa hp;have HR:=aa hb;have HT:=aa ht;have HRT:=aa hR;clear hb hB hp hR;go_enter Tryz.func199,Tryz.ntmps199
 go_upto_region 1 with (fail)
 refine aG ?_;intro gg;have goutW:∀(g:G (gw0 gg)),Below W.heap.size W g.W:=fun g=>gout g;have goutB:∀(g:G (gw0 gg)),Below Wb.heap.size Wb g.W:=fun g=>HB.out.trans ((goutW g).mono HB.out.size)
 cases t with
 |decl i=>
  obtain⟨⟨a,rfl⟩,rfl,rfl,rfl,rfl⟩:=ht
  go_upto_region 1 with (fail)
  refine aQ (g:=gg) (by kernel_rfl) (by kernel_rfl) ?_
  repeat(go_big_quiet_step (fail))
  refine wpQuiet_nil ?_;rintro _ ⟨gg,rfl⟩;go_wp2_with fail;go_ret;exact⟨aC (by rw[HR.out];rfl),goutW _⟩
 |stmt s d lo=>
  obtain⟨rfl,⟨a,A5,c5,A9,c9,A12,c12,A13,c13,rfl,hr,_⟩,rfl,rfl,hsc⟩:=ht;have q0:∀g:G (gw0 gg),g.W.cell? ⟨a.block,a.off,ak⟩=ag (.int .i64 s.f0):=fun g=>aE (goutB g) (by have:=hr 0 _ rfl;rwa [gm]at this);have q10:∀g:G (gw0 gg),g.W.cell? ⟨a.block,a.off+10,ak⟩=ag (.int .u64 s.f4):=fun g=>aE (goutB g) (hr 10 _ rfl);have q11:∀g:G (gw0 gg),g.W.cell? ⟨a.block,a.off+11,ak⟩=ag (.int .u64 s.f5):=fun g=>aE (goutB g) (hr 11 _ rfl);clear hr hsc
  by_cases k:s.f0=4
  ·have K:=aa k;rw[k]at q0;clear k
   have hww:wd=4\/wd=8\/wd=16\/wd=32\/wd=64:=by
    unfold dB at hw;simp only[Bool.or_eq_true,beq_iff_eq]at hw;omega
   clear hw
   by_cases h:s.f5<s.f4
   ·have h':s.f4 > s.f5:=h;have H:=aa h;clear h
    go_upto_region 1 with (fail)
    refine aQ (g:=gg) (by kernel_rfl) (by kernel_rfl) ?_
    repeat(go_big_quiet_step (fail))
    refine wpQuiet_nil ?_;rintro _ ⟨gg,rfl⟩;go_wp2_with fail;go_ret;exact⟨aC (by rw[HR.out];simp[pW,K.out,H.out]),goutW _⟩
   ·have h':¬s.f4 > s.f5:=h;have H:=aa h;clear h
    rcases hww with w | w | w | w | w
    ·subst w
     by_cases h2:s.f5 > 16
     ·have H2:=aa h2;clear h2
      go_upto_region 1 with (fail)
      refine aQ (g:=gg) (by kernel_rfl) (by kernel_rfl) ?_
      repeat(go_big_quiet_step (fail))
      refine wpQuiet_nil ?_;rintro _ ⟨gg,rfl⟩;go_wp2_with fail;go_ret;exact⟨aC (by rw[HR.out,jK K.out (by have:=H.out;omega) 16 (by rfl) (by decide) (by decide)]),goutW _⟩
     ·have H2:=aa h2;clear h2
      go_upto_region 1 with (fail)
      refine aQ (g:=gg) (by kernel_rfl) (by kernel_rfl) ?_
      repeat(go_big_quiet_step (fail))
      refine wpQuiet_nil ?_;rintro _ ⟨gg,rfl⟩;go_wp2_with fail;go_ret;exact⟨aC (by rw[HR.out,jK K.out (by have:=H.out;omega) 16 (by rfl) (by decide) (by decide)]),goutW _⟩
    ·subst w
     by_cases h2:s.f5 > 256
     ·have H2:=aa h2;clear h2
      go_upto_region 1 with (fail)
      refine aQ (g:=gg) (by kernel_rfl) (by kernel_rfl) ?_
      repeat(go_big_quiet_step (fail))
      refine wpQuiet_nil ?_;rintro _ ⟨gg,rfl⟩;go_wp2_with fail;go_ret;exact⟨aC (by rw[HR.out,jK K.out (by have:=H.out;omega) 256 (by rfl) (by decide) (by decide)]),goutW _⟩
     ·have H2:=aa h2;clear h2
      go_upto_region 1 with (fail)
      refine aQ (g:=gg) (by kernel_rfl) (by kernel_rfl) ?_
      repeat(go_big_quiet_step (fail))
      refine wpQuiet_nil ?_;rintro _ ⟨gg,rfl⟩;go_wp2_with fail;go_ret;exact⟨aC (by rw[HR.out,jK K.out (by have:=H.out;omega) 256 (by rfl) (by decide) (by decide)]),goutW _⟩
    ·subst w
     by_cases h2:s.f5 > 65536
     ·have H2:=aa h2;clear h2
      go_upto_region 1 with (fail)
      refine aQ (g:=gg) (by kernel_rfl) (by kernel_rfl) ?_
      repeat(go_big_quiet_step (fail))
      refine wpQuiet_nil ?_;rintro _ ⟨gg,rfl⟩;go_wp2_with fail;go_ret;exact⟨aC (by rw[HR.out,jK K.out (by have:=H.out;omega) 65536 (by rfl) (by decide) (by decide)]),goutW _⟩
     ·have H2:=aa h2;clear h2
      go_upto_region 1 with (fail)
      refine aQ (g:=gg) (by kernel_rfl) (by kernel_rfl) ?_
      repeat(go_big_quiet_step (fail))
      refine wpQuiet_nil ?_;rintro _ ⟨gg,rfl⟩;go_wp2_with fail;go_ret;exact⟨aC (by rw[HR.out,jK K.out (by have:=H.out;omega) 65536 (by rfl) (by decide) (by decide)]),goutW _⟩
    ·subst w
     by_cases h2:s.f5 > 4294967296
     ·have H2:=aa h2;clear h2
      go_upto_region 1 with (fail)
      refine aQ (g:=gg) (by kernel_rfl) (by kernel_rfl) ?_
      repeat(go_big_quiet_step (fail))
      refine wpQuiet_nil ?_;rintro _ ⟨gg,rfl⟩;go_wp2_with fail;go_ret;exact⟨aC (by rw[HR.out,jK K.out (by have:=H.out;omega) 4294967296 (by rfl) (by decide) (by decide)]),goutW _⟩
     ·have H2:=aa h2;clear h2
      go_upto_region 1 with (fail)
      refine aQ (g:=gg) (by kernel_rfl) (by kernel_rfl) ?_
      repeat(go_big_quiet_step (fail))
      refine wpQuiet_nil ?_;rintro _ ⟨gg,rfl⟩;go_wp2_with fail;go_ret;exact⟨aC (by rw[HR.out,jK K.out (by have:=H.out;omega) 4294967296 (by rfl) (by decide) (by decide)]),goutW _⟩
    ·subst w
     go_upto_region 1 with (fail)
     refine aQ (g:=gg) (by kernel_rfl) (by kernel_rfl) ?_
     repeat(go_big_quiet_step (fail))
     refine wpQuiet_nil ?_;rintro _ ⟨gg,rfl⟩;go_wp2_with fail;go_ret;exact⟨aC (by rw[HR.out,bad14_64 K.out (by have:=H.out;omega)]),goutW _⟩
  ·have K:=aa k;have b1:=bf k;clear k
   go_upto_region 1 with (fail)
   refine aQ (g:=gg) (by kernel_rfl) (by kernel_rfl) ?_
   repeat(go_big_quiet_step (fail))
   refine wpQuiet_nil ?_;rintro _ ⟨gg,rfl⟩;go_wp2_with fail;go_ret;exact⟨aC (by rw[HR.out];simp[pW,K.out]),goutW _⟩
 |expr x lo=>
  obtain⟨rfl,rfl,⟨a,A,c,rfl,hr,_⟩,rfl,hsc⟩:=ht;clear hr hsc
  go_upto_region 1 with (fail)
  refine aQ (g:=gg) (by kernel_rfl) (by kernel_rfl) ?_
  repeat(go_big_quiet_step (fail))
  refine wpQuiet_nil ?_;rintro _ ⟨gg,rfl⟩;go_wp2_with fail;go_ret;exact⟨aC (by rw[HR.out];rfl),goutW _⟩
end
section
attribute [local go_sem] G.cell
theorem find_qv {A3:Option Addr}{ds:List S70}{s:ByteArray}{q:Option Addr}(hq:qOf A3 ds s=q)(nm:ByteArray)(wd ln:Int)(A3':Option Addr)(c3:Nat)(A4:Option Addr)(n4 c4:Nat)(w:World)(hd:k70.C w A3 ds.length ds)(hld:ds.length<=c3):
 Calls au 181 #[.agg #[.string nm,.int .i64 wd,.int .i64 ln,.slice A3 ds.length c3,.slice A4 n4 c4],.string s] w fun e w'=>e=.returned (.pointer q)/\Below w.heap.size w w':=hq ▸ find_q nm wd ln ds A3 c3 A4 n4 c4 s w hd hld
theorem cl15_calls {Wb:World}(nm:ByteArray)(wd ln:Int)(ds:List S70)(bd:List S119)(A3:Option Addr)(c3:Nat)(A4:Option Addr)(c4:Nat)(hp:ProgAt Wb ds bd A3 c3 A4 c4)(W:World)(n:Nat)(dp sp ep:Value)(dI:Int)(lp:Value)(t:Th)(hR:RT t)(hB:Below Wb.heap.size Wb W)(ht:ThP Wb W dp sp ep dI lp t)(b:Bool)(hb:b=pZ ds t):
 Calls au 200 #[.agg #[.string nm,.int .i64 wd,.int .i64 ln,.slice A3 ds.length c3,.slice A4 bd.length c4],.agg #[.int .i64 n,dp,sp,ep,.int .i64 dI,lp]] W fun e w'=>e=.returned (.bool b)/\Below W.heap.size W w':=by
 have gout:∀{o o':Obj} (g:G ((W.alloc o).alloc o')),Below W.heap.size W g.W:=fun g=>(((ar _ _).alloc (aq _) _).alloc (by simp) _).trans (g.below.mono (by simp;omega));have HB:=aa hB;have HP:=aa hp;have HR:=aa hb;have HT:=aa ht;have HRT:=aa hR;clear hb hB hp hR;go_enter Tryz.func200,Tryz.ntmps200
 go_upto_region 1 with (fail)
 refine aG ?_;intro gg;have goutW:∀(g:G (gw0 gg)),Below W.heap.size W g.W:=fun g=>gout g;have goutB:∀(g:G (gw0 gg)),Below Wb.heap.size Wb g.W:=fun g=>HB.out.trans ((goutW g).mono HB.out.size);have HSC:=aa ht.scope
 cases t with
 |decl i=>
  obtain⟨⟨a,rfl⟩,rfl,rfl,rfl,rfl⟩:=ht
  go_upto_region 1 with (fail)
  refine aQ (g:=gg) (by kernel_rfl) (by kernel_rfl) ?_
  repeat(go_big_quiet_step (fail))
  refine wpQuiet_nil ?_;rintro _ ⟨gg,rfl⟩;go_wp2_with fail;go_ret;exact⟨aC (by rw[HR.out];rfl),goutW _⟩
 |stmt s d lo=>
  obtain⟨rfl,⟨a,A5,c5,A9,c9,A12,c12,A13,c13,rfl,hr,_⟩,rfl,rfl,hsc⟩:=ht;have q0:∀g:G (gw0 gg),g.W.cell? ⟨a.block,a.off,ak⟩=ag (.int .i64 s.f0):=fun g=>aE (goutB g) (by have:=hr 0 _ rfl;rwa [gm]at this);have q1:∀g:G (gw0 gg),g.W.cell? ⟨a.block,a.off+1,ak⟩=ag (.string s.f1):=fun g=>aE (goutB g) (hr 1 _ rfl);clear hr hsc
  by_cases k:s.f0=4
  ·have K:=aa k;rw[k]at q0;clear k
   rcases aL (iL lo s.f1)with hh | hh
   ·have HH:=aa hh;clear hh
    go_upto_region 1 with (fail)
    refine aQ (g:=gg) (by kernel_rfl) (by kernel_rfl) ?_
    repeat(go_big_quiet_step (fail))
    go_big_quiet_step (first | (go_at_call 195;exact aD (has_v (HSC.out.below (goutW _)) HH.out)))
    repeat(go_big_quiet_step (fail))
    refine wpQuiet_nil ?_;rintro _ ⟨gg,rfl⟩;go_wp2_with fail;go_ret;exact⟨aC (by rw[HR.out];simp[pZ,K.out,HH.out]),goutW _⟩
   ·have HH:=aa hh;clear hh
    rcases aL ((cG ds s.f1).isNone)with hn | hn
    ·have hq:=qOf_none (A3:=A3) hn;have HN:=aa (show(cG ds s.f1).isSome=ac by cases hf:cG ds s.f1 with | none=>rfl | some i=>rw[hf]at hn;cases hn);clear hn
     go_upto_region 1 with (fail)
     refine aQ (g:=gg) (by kernel_rfl) (by kernel_rfl) ?_
     repeat(go_big_quiet_step (fail))
     go_big_quiet_step (first | (go_at_call 195;exact aD (has_v (HSC.out.below (goutW _)) HH.out)))
     repeat(go_big_quiet_step (fail))
     go_big_quiet_step (first | (go_at_call 181;exact aD (find_qv hq nm wd ln A3 c3 A4 bd.length c4 _ (Kd.aF HP.out.hd (goutB _)) HP.out.hld)))
     repeat(go_big_quiet_step (fail))
     refine wpQuiet_nil ?_;rintro _ ⟨gg,rfl⟩;go_wp2_with fail;go_ret;exact⟨aC (by rw[HR.out];simp only[pZ];rw[HN.out,HH.out];simp),goutW _⟩
    ·obtain⟨qa,hq⟩:=qOf_some HP.out.hd hn;have HN:=aa (show(cG ds s.f1).isSome=af by cases hf:cG ds s.f1 with | none=>rw[hf]at hn;cases hn | some i=>rfl);clear hn
     go_upto_region 1 with (fail)
     refine aQ (g:=gg) (by kernel_rfl) (by kernel_rfl) ?_
     repeat(go_big_quiet_step (fail))
     go_big_quiet_step (first | (go_at_call 195;exact aD (has_v (HSC.out.below (goutW _)) HH.out)))
     repeat(go_big_quiet_step (fail))
     go_big_quiet_step (first | (go_at_call 181;exact aD (find_qv hq nm wd ln A3 c3 A4 bd.length c4 _ (Kd.aF HP.out.hd (goutB _)) HP.out.hld)))
     repeat(go_big_quiet_step (fail))
     refine wpQuiet_nil ?_;rintro _ ⟨gg,rfl⟩;go_wp2_with fail;go_ret;exact⟨aC (by rw[HR.out];simp only[pZ];rw[HN.out,K.out];rfl),goutW _⟩
  ·have K:=aa k;have b1:=bf k;clear k
   go_upto_region 1 with (fail)
   refine aQ (g:=gg) (by kernel_rfl) (by kernel_rfl) ?_
   repeat(go_big_quiet_step (fail))
   refine wpQuiet_nil ?_;rintro _ ⟨gg,rfl⟩;go_wp2_with fail;go_ret;exact⟨aC (by rw[HR.out];simp[pZ,K.out]),goutW _⟩
 |expr x lo=>
  obtain⟨rfl,rfl,⟨a,A,c,rfl,hr,_⟩,rfl,hsc⟩:=ht;clear hr hsc
  go_upto_region 1 with (fail)
  refine aQ (g:=gg) (by kernel_rfl) (by kernel_rfl) ?_
  repeat(go_big_quiet_step (fail))
  refine wpQuiet_nil ?_;rintro _ ⟨gg,rfl⟩;go_wp2_with fail;go_ret;exact⟨aC (by rw[HR.out];rfl),goutW _⟩
end
end Go.Proofs.YtfigjpehecibeaaGreat.L
