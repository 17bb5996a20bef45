/- Texts joined by a program of mine: Uc Ud Ui Uj Uk Lt Ul Um Un Uo Up Ue Uf Ug. -/
import Derived.Test.YtfigjpehecibeaaGreatZf4
import Derived.Test.YtfigjpehecibeaaGreatZf5
open And renaming intro -> ac
open Bool renaming true -> af, false -> J, true_and -> jx, false_and -> iz, false_eq_true -> ju
open Decidable renaming em -> fw
open Go.Act renaming put -> aw
open Go.Ending renaming returned -> fu
open Go.IntKind renaming bits -> iq, signed -> jg
open Go.Proofs.Tryz renaming prog -> ar
open Go.Proofs.YtfigjpehecibeaaGreatW.PrintWords.Aside0 renaming mk -> I
open Go.RowKit.Below renaming refl -> ak
open Go.World renaming block_lt_of_cell? -> aq
open Int renaming natCast_nonneg -> ba, toNat_natCast -> au, lt_or_le -> cn
open List renaming mem_cons -> gu, setIfInBounds_toArray -> aa, set_cons_zero -> ag, set_cons_succ -> ah, map_toArray -> cb, map_cons -> cm, map_nil -> cw, take_length -> di, sizeOf_lt_of_mem -> fp, getD_eq_getElem?_getD -> av, getElem?_take -> jr, getElem_of_mem -> gi, getElem?_eq_getElem -> ay
open Nat renaming le_refl -> aj, add_zero -> fe, le_trans -> bk, zero_le -> bg, not_lt_zero -> ck, eq_zero_or_pos -> cd, min_eq_left -> cq, min_eq_right -> ib, mul_one -> gh
open Option renaming some -> ae, none -> ai
open Or renaming inl -> bc
open SizeOf renaming sizeOf -> cg
set_option linter.unusedVariables false
set_option linter.unusedSimpArgs false
set_option maxHeartbeats 8000000
namespace Go.Proofs.YtfigjpehecibeaaGreat.L
open Go.RowKit Go.Proofs.YtfigjpehecibeaaGreatW.PrintWords Go.Proofs.YtfigjpehecibeaaGreatW.PrintLast Go.Proofs.YtfigjpehecibeaaGreatW.PrintMore Go.Proofs.YtfigjpehecibeaaGreat.Gr
section
attribute [local go_sem] G.cell
theorem ThP.scope {Wb W:World}{dp sp ep:Value}{dI:Int}{lp:Value}{t:Th}(h:ThP Wb W dp sp ep dI lp t):dS W lp (fZ t).reverse:=by
 cases t with
 |decl i=>exact h.2.2.2.2
 |stmt s d lo=>exact h.2.2.2.2
 |expr e lo=>exact h.2.2.2.2
set_option maxRecDepth 100000 in
theorem wkind_calls {Wb:World}(nm:ByteArray)(wd ln:Int)(ds:List S70)(bd:List S119)(A3:Option Addr)(c3:Nat)(A4:Option Addr)(c4:Nat)(hp:ProgAt Wb ds bd A3 c3 A4 c4)(hd0:∀d∈ds,0<=d.f2)(W:World)(n:Nat)(dp sp ep:Value)(dI:Int)(lp:Value)(t:Th)(hR:RT t)(hB:Below Wb.heap.size Wb W)(ht:ThP Wb W dp sp ep dI lp t)
 (s:ByteArray) (hu:iT t=ae s) (hk:gZ (fZ t) s=af\/∃i,cD ds s=ae i) (b:Bool) (hb:b=rL ds t s):
 Calls ar 197 #[(.agg #[.string nm,.int .i64 wd,.int .i64 ln,.slice A3 ds.length c3,.slice A4 bd.length c4]),.agg #[.int .i64 n,dp,sp,ep,.int .i64 dI,lp],.string s] W fun e w'=>e=.returned (.bool b)/\Below W.heap.size W w':=by
 have gout:∀{o o':Obj} (g:G ((W.alloc o).alloc o')),Below W.heap.size W g.W:=fun g=>(((ak _ _).alloc (aj _) _).alloc (by simp) _).trans (g.below.mono (by simp;omega))
 have HB:=I hB
 have HP:=I hp
 have HR:=I hb
 have HSC:=I ht.scope
 have HD:=I hd0
 have hlm:=hp.hd.2.1
 clear hb hp hd0
 go_enter Tryz.func197,Tryz.ntmps197
 go_upto_region 1 with (fail)
 refine aG ?_
 intro gg
 have goutW:∀(g:G (gw0 gg)),Below W.heap.size W g.W:=fun g=>gout g
 have goutB:∀(g:G (gw0 gg)),Below Wb.heap.size Wb g.W:=fun g=>HB.out.trans ((goutW g).mono HB.out.size)
 go_wp2_with fail
 rcases aJ (gZ (fZ t) s)with hh | hh
 ·refine(aC (g:=gg) (has_v (HSC.out.below (gout gg)) hh)).mono ?_
  rintro _ _ ⟨rfl,gg,rfl⟩
  have HK:=I (show b=nX t by rw[HR.out];unfold rL;rw[if_pos hh])
  clear hh hk
  cases t with
  |decl i=>simp[iT]at hu
  |stmt x d lo=>
   obtain⟨rfl,⟨a,A5,c5,A9,c9,A12,c12,A13,c13,rfl,hr,_⟩,rfl,rfl,hsc⟩:=ht
   clear hr hsc hR hu hB
   go_wp2_with fail
   go_ret
   exact⟨aB (by rw[HK.out];rfl),goutW _⟩
  |expr x lo=>
   obtain⟨rfl,rfl,⟨a,A,c,rfl,hr,_⟩,rfl,hsc⟩:=ht
   have q0:∀g:G (gw0 gg),g.W.cell? ⟨a.block,a.off,ai⟩=ae (.int .i64 x.f0):=fun g=>aE (goutB g) (by have:=hr 0 _ rfl;rwa [fe]at this)
   clear hr hsc hR hu hB
   by_cases k:x.f0=2
   ·have K:=I k
    rw[k]at q0
    clear k
    have q:=q0 gg
    go_wp2_with fail
    go_ret
    exact⟨aB (by rw[HK.out];simp[nX,K.out]),goutW _⟩
   ·have b2:=bf k
    have K:=I k
    clear k
    have q:=q0 gg
    go_wp2_with fail
    go_ret
    exact⟨aB (by rw[HK.out];simp[nX,K.out]),goutW _⟩
 ·refine(aC (g:=gg) (has_v (HSC.out.below (gout gg)) hh)).mono ?_
  rintro _ _ ⟨rfl,gg,rfl⟩
  obtain⟨i,hi⟩:∃i,cD ds s=ae i:=hk.elim (fun h=>by rw[hh]at h;cases h) id
  have hlt:=findB_lt hi
  have HK:=I (show b=qN (aI ds (i:Int)) t by rw[HR.out];unfold rL;rw[if_neg (by simp[hh]),hi];rfl)
  clear hh hk
  go_wp2_with fail
  refine(find_calls nm wd ln ds A3 c3 A4 bd.length c4 s gg.W (Kd.aF HP.out.hd (goutB gg)) HP.out.hld).mono ?_
  rintro _ w9 ⟨q,rfl,hF,hb9⟩
  obtain⟨ad,hA,rfl⟩:=hF.2 i hi
  obtain⟨gg,rfl⟩:∃g:G (gw0 gg),w9=g.W:=⟨mkG (gg.below.trans (hb9.mono gg.below.size)),rfl⟩
  obtain⟨ad2,A9d,c9d,e1,p0,p1,p2,p3,_⟩:=dW HP.out.hd (i:Int) (ba _) (by omega)
  rw[hA]at e1
  cases e1
  rw[au]at p0 p2
  have he:=addr_eta p0
  have z0:=aE (goutB gg) p0
  have z2:=aE (goutB gg) p2
  rw[he]at z0
  have D0:=I (HD.out _ (eE hlt))
  clear hb9 hF p0 p1 p2 p3 hA hi
  generalize (ad.add (i*4)).block=bb at*
  generalize (ad.add (i*4)).off=oo at*
  cases t with
  |decl j=>simp[iT]at hu
  |stmt x d lo=>
   obtain⟨rfl,⟨a,A5,c5,A9,c9,A12,c12,A13,c13,rfl,hr,_⟩,rfl,rfl,hsc⟩:=ht
   have hx:x.f0=1\/x.f0=2\/x.f0=5:=by
    simp only[iT]at hu
    split at hu
    ·assumption
    ·cases hu
   have q0:gg.W.cell? ⟨a.block,a.off,ai⟩=ae (.int .i64 x.f0):=aE (goutB gg) (by have:=hr 0 _ rfl;rwa [fe]at this)
   clear hr hsc hR hu hB
   rcases hx with k | k | k
   ·rw[k]at q0
    have K:=I k
    clear k
    go_wp2_with fail
    go_ret
    exact⟨aB (by rw[HK.out];simp[qN,K.out] <;> rfl),goutW _⟩
   ·rw[k]at q0
    have K:=I k
    clear k
    by_cases h2:(aI ds (i:Int)).f2=0
    ·have g2:¬(aI ds (i:Int)).f2 > 0:=by omega
     have H2:=I h2
     clear h2
     go_wp2_with fail
     go_ret
     exact⟨aB (by rw[HK.out];simp[qN,K.out,H2.out]),goutW _⟩
    ·have g2:(aI ds (i:Int)).f2 > 0:=by have:=D0.out;omega
     have H2:=I h2
     clear h2
     go_wp2_with fail
     go_ret
     exact⟨aB (by rw[HK.out];simp[qN,K.out,H2.out] <;> rfl),goutW _⟩
   ·rw[k]at q0
    have K:=I k
    clear k
    go_wp2_with fail
    go_ret
    exact⟨aB (by rw[HK.out];simp[qN,K.out] <;> rfl),goutW _⟩
  |expr x lo=>
   obtain⟨rfl,rfl,⟨a,A,c,rfl,hr,_⟩,rfl,hsc⟩:=ht
   have hx:x.f0=2\/x.f0=3:=by
    simp only[iT]at hu
    split at hu
    ·assumption
    ·cases hu
   have q0:gg.W.cell? ⟨a.block,a.off,ai⟩=ae (.int .i64 x.f0):=aE (goutB gg) (by have:=hr 0 _ rfl;rwa [fe]at this)
   clear hr hsc hR hu hB
   rcases hx with k | k
   ·rw[k]at q0
    have K:=I k
    clear k
    go_wp2_with fail
    go_ret
    exact⟨aB (by rw[HK.out];simp[qN,K.out] <;> rfl),goutW _⟩
   ·rw[k]at q0
    have K:=I k
    clear k
    by_cases h2:(aI ds (i:Int)).f2=0
    ·have g2:¬(aI ds (i:Int)).f2 > 0:=by omega
     have H2:=I h2
     clear h2
     go_wp2_with fail
     go_ret
     exact⟨aB (by rw[HK.out];simp[qN,K.out,H2.out]),goutW _⟩
    ·have g2:(aI ds (i:Int)).f2 > 0:=by have:=D0.out;omega
     have H2:=I h2
     clear h2
     go_wp2_with fail
     go_ret
     exact⟨aB (by rw[HK.out];simp[qN,K.out,H2.out]),goutW _⟩
end
section
attribute [local go_sem] G.cell
def qOf (A3:Option Addr)(ds:List S70)(s:ByteArray):Option Addr:=match cD ds s,A3 with
 |some i,ae ad=>ae (ad.add (i*4))
 |_,_=>ai
theorem find_q (nm:ByteArray)(wd ln:Int)(ds:List S70)(A3:Option Addr)(c3:Nat)(A4:Option Addr)(n4 c4:Nat)(s:ByteArray)(w:World)(hd:k70.C w A3 ds.length ds)(hld:ds.length<=c3):
 Calls ar 181 #[.agg #[.string nm,.int .i64 wd,.int .i64 ln,.slice A3 ds.length c3,.slice A4 n4 c4],.string s] w fun e w'=>e=.returned (.pointer (qOf A3 ds s))/\Below w.heap.size w w':=by
 refine(find_calls nm wd ln ds A3 c3 A4 n4 c4 s w hd hld).mono ?_
 rintro _ w' ⟨q,rfl,⟨h1,h2⟩,hb⟩
 refine⟨?_,hb⟩
 unfold qOf
 cases hf:cD ds s with
 |none=>
  rw[hf]at h1
  cases q with
  |none=>rfl
  |some a=>simp at h1
 |some i=>
  obtain⟨ad,rfl,rfl⟩:=h2 i hf
  rfl
theorem qOf_none {A3:Option Addr}{ds:List S70}{s:ByteArray}(h:(cD ds s).isNone=af):qOf A3 ds s=ai:=by
 unfold qOf
 cases hf:cD ds s with
 |none=>rfl
 |some i=>rw[hf]at h;cases h
theorem qOf_some {w:World}{A3:Option Addr}{ds:List S70}{s:ByteArray}(hd:k70.C w A3 ds.length ds)(h:(cD ds s).isNone=J):∃a,qOf A3 ds s=ae a:=by
 unfold qOf
 cases hf:cD ds s with
 |none=>rw[hf]at h;cases h
 |some i=>
  have hlt:=findB_lt hf
  obtain⟨ad,_,_,e,_⟩:=dW hd (0:Int) (Int.le_refl _) (by omega)
  subst e
  exact⟨_,rfl⟩
def RW (t:Th):Prop:=RT t/\match t with
 | .expr e _=>aK e<=8388608
 |_=>True
set_option maxRecDepth 100000 in
theorem cl10_calls {Wb:World}(nm:ByteArray)(wd ln:Int)(ds:List S70)(bd:List S119)(A3:Option Addr)(c3:Nat)(A4:Option Addr)(c4:Nat)(W:World)(n:Nat)(dp sp ep:Value)(dI:Int)(lp:Value)(t:Th)(hR:RW t)(hB:Below Wb.heap.size Wb W)(ht:ThP Wb W dp sp ep dI lp t)(b:Bool)(hb:b=qH t):
 Calls ar 191 #[.agg #[.string nm,.int .i64 wd,.int .i64 ln,.slice A3 ds.length c3,.slice A4 bd.length c4],.agg #[.int .i64 n,dp,sp,ep,.int .i64 dI,lp]] W fun e w'=>e=.returned (.bool b)/\Below W.heap.size W w':=by
 have gout:∀{o o':Obj} (g:G ((W.alloc o).alloc o')),Below W.heap.size W g.W:=fun g=>(((ak _ _).alloc (aj _) _).alloc (by simp) _).trans (g.below.mono (by simp;omega))
 have HB:=I hB
 have HR:=I hb
 clear hb hB
 go_enter Tryz.func191,Tryz.ntmps191
 go_upto_region 1 with (fail)
 refine aG ?_
 intro gg
 have goutW:∀(g:G (gw0 gg)),Below W.heap.size W g.W:=fun g=>gout g
 have goutB:∀(g:G (gw0 gg)),Below Wb.heap.size Wb g.W:=fun g=>HB.out.trans ((goutW g).mono HB.out.size)
 cases t with
 |decl i=>
  obtain⟨⟨a,rfl⟩,rfl,rfl,rfl,rfl⟩:=ht
  clear hR
  go_wp2_with fail
  go_ret
  exact⟨aB (by rw[HR.out];rfl),goutW _⟩
 |stmt s d lo=>
  obtain⟨rfl,⟨a,A5,c5,A9,c9,A12,c12,A13,c13,rfl,hr,_⟩,rfl,rfl,hsc⟩:=ht
  clear hr hsc hR
  by_cases h:64<d
  ·have h':(64:Int)<(d:Int):=by omega
   have H:=I h
   clear h
   go_wp2_with fail
   go_ret
   exact⟨aB (by rw[HR.out];simp[qH,H.out]),goutW _⟩
  ·have h':¬(64:Int)<(d:Int):=by omega
   have H:=I h
   clear h
   go_wp2_with fail
   go_ret
   exact⟨aB (by rw[HR.out];have:=H.out;simp[qH];omega),goutW _⟩
 |expr x lo=>
  obtain⟨rfl,rfl,⟨a,A,c,rfl,hr,hl,hC⟩,rfl,hsc⟩:=ht
  have HC:=I (ac hl hC)
  have q0:gg.W.cell? ⟨a.block,a.off,ai⟩=ae (.int .i64 x.f0):=aE (goutB gg) (by have:=hr 0 _ rfl;rwa [fe]at this)
  have q1:gg.W.cell? ⟨a.block,a.off+1,ai⟩=ae (.int .u64 x.f1):=aE (goutB gg) (hr 1 _ rfl)
  have q2:gg.W.cell? ⟨a.block,a.off+2,ai⟩=ae (.string x.f2):=aE (goutB gg) (hr 2 _ rfl)
  have q3:gg.W.cell? ⟨a.block,a.off+3,ai⟩=ae (.slice A x.f3.length c):=aE (goutB gg) (hr 3 _ rfl)
  have HW:=I (show fT x<=8388608 from bk (lY x) hR.2)
  clear hr hsc hl hC hR
  go_wp2_with fail
  refine(aC (g:=gg) (depth_calls _ x (aj _) (by have:=HW.out;omega) A c gg.W (Kd.aF HC.out.2 (goutB gg)) HC.out.1)).mono ?_
  rintro _ _ ⟨rfl,gg,rfl⟩
  by_cases h:64<fT x
  ·have h':(64:Int)<(fT x:Int):=by omega
   have H:=I h
   clear h
   go_wp2_with fail
   go_ret
   exact⟨aB (by rw[HR.out];simp[qH,H.out]),goutW _⟩
  ·have h':¬(64:Int)<(fT x:Int):=by omega
   have H:=I h
   clear h
   go_wp2_with fail
   go_ret
   exact⟨aB (by rw[HR.out];have:=H.out;simp[qH];omega),goutW _⟩
set_option maxRecDepth 100000 in
theorem cl11_calls {Wb:World}(nm:ByteArray)(wd ln:Int)(ds:List S70)(bd:List S119)(A3:Option Addr)(c3:Nat)(A4:Option Addr)(c4:Nat)(hp:ProgAt Wb ds bd A3 c3 A4 c4)(W:World)(n:Nat)(dp sp ep:Value)(dI:Int)(lp:Value)(t:Th)(hR:RT t)(hB:Below Wb.heap.size Wb W)(ht:ThP Wb W dp sp ep dI lp t)(b:Bool)(hb:b=kG ds t):
 Calls ar 193 #[.agg #[.string nm,.int .i64 wd,.int .i64 ln,.slice A3 ds.length c3,.slice A4 bd.length c4],.agg #[.int .i64 n,dp,sp,ep,.int .i64 dI,lp]] W fun e w'=>e=.returned (.bool b)/\Below W.heap.size W w':=by
 have gout:∀{o o':Obj} (g:G ((W.alloc o).alloc o')),Below W.heap.size W g.W:=fun g=>(((ak _ _).alloc (aj _) _).alloc (by simp) _).trans (g.below.mono (by simp;omega))
 have HB:=I hB
 have HP:=I hp
 have HR:=I hb
 have HT:=I ht
 have HRT:=I hR
 clear hb hB hp ht hR
 go_enter Tryz.func193,Tryz.ntmps193
 go_upto_region 1 with (fail)
 refine aG ?_
 intro gg
 have goutW:∀(g:G (gw0 gg)),Below W.heap.size W g.W:=fun g=>gout g
 have goutB:∀(g:G (gw0 gg)),Below Wb.heap.size Wb g.W:=fun g=>HB.out.trans ((goutW g).mono HB.out.size)
 obtain⟨r1,h1⟩:∃r,r=(iT t).getD ⟨#[]⟩:=⟨_,rfl⟩
 obtain⟨r2,h2⟩:∃r,r=(iT t).isSome:=⟨_,rfl⟩
 have HU:=I (show(r1,r2)=((iT t).getD ⟨#[]⟩,(iT t).isSome) by rw[h1,h2])
 have HV:=I (ac h1 h2)
 clear h1 h2
 go_wp2_with fail
 refine(aC (g:=gg) (use_calls gg.W n dp sp ep dI lp t HRT.out (goutB gg) (HT.out.below (goutW gg)) r1 r2 HU.out)).mono ?_
 rintro _ _ ⟨rfl,gg,rfl⟩
 cases hu:iT t with
 |none=>
  have e2:r2=J:=by rw[HV.out.2,hu];rfl
  have HE:=I (show b=J by rw[HR.out];unfold kG;rw[hu])
  clear hu
  subst e2
  go_wp2_with fail
  go_ret
  exact⟨aB HE.out.symm,goutW _⟩
 |some s=>
  have e2:r2=af:=by rw[HV.out.2,hu];rfl
  have e1:r1=s:=by rw[HV.out.1,hu];rfl
  have HE:=I (show b=(!gZ (fZ t) s&&(cD ds s).isNone) by rw[HR.out];unfold kG;rw[hu])
  clear hu
  subst e2 e1
  go_wp2_with fail
  rcases aJ (gZ (fZ t) r1)with hh | hh
  ·refine(aC (g:=gg) (has_v (HT.out.scope.below (goutW gg)) hh)).mono ?_
   rintro _ _ ⟨rfl,gg,rfl⟩
   have HH:=I hh
   clear hh
   go_wp2_with fail
   go_ret
   exact⟨aB (by rw[HE.out,HH.out];rfl),goutW _⟩
  ·refine(aC (g:=gg) (has_v (HT.out.scope.below (goutW gg)) hh)).mono ?_
   rintro _ _ ⟨rfl,gg,rfl⟩
   have HH:=I hh
   clear hh
   go_wp2_with fail
   refine(aC (g:=gg) (find_q nm wd ln ds A3 c3 A4 bd.length c4 r1 gg.W (Kd.aF HP.out.hd (goutB gg)) HP.out.hld)).mono ?_
   rintro _ _ ⟨rfl,gg,rfl⟩
   rcases aJ ((cD ds r1).isNone)with hn | hn
   ·rw[qOf_none hn]
    have HN:=I hn
    clear hn
    go_wp2_with fail
    go_ret
    exact⟨aB (by rw[HE.out,HH.out,HN.out];rfl),goutW _⟩
   ·obtain⟨qa,hq⟩:=qOf_some HP.out.hd hn
    rw[hq]
    have HN:=I hn
    clear hn hq
    go_wp2_with fail
    go_ret
    exact⟨aB (by rw[HE.out,HH.out,HN.out];rfl),goutW _⟩
end
section
attribute [local go_sem] G.cell
def nH (K:FuncId)(W0:World)(nm:ByteArray)(wd ln:Int)(ds:List S70)(bd:List S119)(A3:Option Addr)(c3:Nat)(A4:Option Addr)(c4:Nat)(R:Th->Prop)(f:Th->Bool):Prop:=
 ∀(Wb W:World) (n:Nat) (dp sp ep:Value) (dI:Int) (lp:Value) (t:Th),R t->Below W0.heap.size W0 Wb->Below Wb.heap.size Wb W->ThP Wb W dp sp ep dI lp t->
 Calls ar K #[.agg #[.string nm,.int .i64 wd,.int .i64 ln,.slice A3 ds.length c3,.slice A4 bd.length c4],.agg #[.int .i64 n,dp,sp,ep,.int .i64 dI,lp]] W fun e w'=>e=.returned (.bool (f t))/\Below W.heap.size W w'
set_option maxRecDepth 100000 in
theorem wrong61_ok {W0:World}{b1 b2:Nat}{nm:ByteArray}{wd ln:Int}{ds:List S70}{bd:List S119}{A3:Option Addr}{c3:Nat}{A4:Option Addr}{c4:Nat}{R:Th->Prop}{f:Th->Bool}(hc:nH 191 W0 nm wd ln ds bd A3 c3 A4 c4 R f)
 (h1:W0.heap[b1]? =ae (.cells #[.func (.func 191) #[] #[]] 240 (0,0))) (h2:W0.heap[b2]? =ae (.cells #[.string nm,.int .i64 wd,.int .i64 ln,.slice A3 ds.length c3,.slice A4 bd.length c4] 25 (0,0))):j9 W0 (.pointer (ae ⟨b1,0,ai⟩)) (.pointer (ae ⟨b2,0,ai⟩)) R f:=by
 intro Wb W n dp sp ep dI lp t hR h0 hB ht
 have gout:∀{o:Obj} (g:G (W.alloc o)),Below W.heap.size W g.W:=fun g=>((ak _ _).alloc (aj _) _).trans (g.below.mono (by simp))
 have hBW:=h0.trans (hB.mono h0.size)
 have k1:=(hBW.block b1 (aW h1)).trans h1
 have k2:=(hBW.block b2 (aW h2)).trans h2
 have l1:=aW k1
 have l2:=aW k2
 have y0:W.cell? ⟨b1,0,ai⟩=ae (.func (.func 191) #[] #[]):=(aA k1 0).trans rfl
 have z0:W.cell? ⟨b2,0,ai⟩=ae (.string nm):=(aA k2 0).trans rfl
 have z1:W.cell? ⟨b2,1,ai⟩=ae (.int .i64 wd):=(aA k2 1).trans rfl
 have z2:W.cell? ⟨b2,2,ai⟩=ae (.int .i64 ln):=(aA k2 2).trans rfl
 have z3:W.cell? ⟨b2,3,ai⟩=ae (.slice A3 ds.length c3):=(aA k2 3).trans rfl
 have z4:W.cell? ⟨b2,4,ai⟩=ae (.slice A4 bd.length c4):=(aA k2 4).trans rfl
 have HX:=I (ac hR (ac h0 (ac hB ht)))
 have HC:=I hc
 clear hR h0 hB ht hc k1 k2 h1 h2 hBW
 go_enter Tryz.func251,Tryz.ntmps251
 go_upto_region 1 with (fail)
 refine aG ?_
 intro gg
 go_wp2_with fail
 refine(aC (g:=gg) (HC.out Wb gg.W n dp sp ep dI lp t HX.out.1 HX.out.2.1 (HX.out.2.2.1.trans ((gout gg).mono HX.out.2.2.1.size)) (HX.out.2.2.2.below (gout gg)))).mono ?_
 rintro _ _ ⟨rfl,gg,rfl⟩
 go_wp2_with fail
 go_ret
 exact⟨rfl,gout _⟩
set_option maxRecDepth 100000 in
theorem wrong63_ok {W0:World}{b1 b2:Nat}{nm:ByteArray}{wd ln:Int}{ds:List S70}{bd:List S119}{A3:Option Addr}{c3:Nat}{A4:Option Addr}{c4:Nat}{R:Th->Prop}{f:Th->Bool}(hc:nH 193 W0 nm wd ln ds bd A3 c3 A4 c4 R f)
 (h1:W0.heap[b1]? =ae (.cells #[.func (.func 193) #[] #[]] 240 (0,0))) (h2:W0.heap[b2]? =ae (.cells #[.string nm,.int .i64 wd,.int .i64 ln,.slice A3 ds.length c3,.slice A4 bd.length c4] 25 (0,0))):j9 W0 (.pointer (ae ⟨b1,0,ai⟩)) (.pointer (ae ⟨b2,0,ai⟩)) R f:=by
 intro Wb W n dp sp ep dI lp t hR h0 hB ht
 have gout:∀{o:Obj} (g:G (W.alloc o)),Below W.heap.size W g.W:=fun g=>((ak _ _).alloc (aj _) _).trans (g.below.mono (by simp))
 have hBW:=h0.trans (hB.mono h0.size)
 have k1:=(hBW.block b1 (aW h1)).trans h1
 have k2:=(hBW.block b2 (aW h2)).trans h2
 have l1:=aW k1
 have l2:=aW k2
 have y0:W.cell? ⟨b1,0,ai⟩=ae (.func (.func 193) #[] #[]):=(aA k1 0).trans rfl
 have z0:W.cell? ⟨b2,0,ai⟩=ae (.string nm):=(aA k2 0).trans rfl
 have z1:W.cell? ⟨b2,1,ai⟩=ae (.int .i64 wd):=(aA k2 1).trans rfl
 have z2:W.cell? ⟨b2,2,ai⟩=ae (.int .i64 ln):=(aA k2 2).trans rfl
 have z3:W.cell? ⟨b2,3,ai⟩=ae (.slice A3 ds.length c3):=(aA k2 3).trans rfl
 have z4:W.cell? ⟨b2,4,ai⟩=ae (.slice A4 bd.length c4):=(aA k2 4).trans rfl
 have HX:=I (ac hR (ac h0 (ac hB ht)))
 have HC:=I hc
 clear hR h0 hB ht hc k1 k2 h1 h2 hBW
 go_enter Tryz.func251,Tryz.ntmps251
 go_upto_region 1 with (fail)
 refine aG ?_
 intro gg
 go_wp2_with fail
 refine(aC (g:=gg) (HC.out Wb gg.W n dp sp ep dI lp t HX.out.1 HX.out.2.1 (HX.out.2.2.1.trans ((gout gg).mono HX.out.2.2.1.size)) (HX.out.2.2.2.below (gout gg)))).mono ?_
 rintro _ _ ⟨rfl,gg,rfl⟩
 go_wp2_with fail
 go_ret
 exact⟨rfl,gout _⟩
set_option maxRecDepth 100000 in
theorem wrong66_ok {W0:World}{b1 b2:Nat}{nm:ByteArray}{wd ln:Int}{ds:List S70}{bd:List S119}{A3:Option Addr}{c3:Nat}{A4:Option Addr}{c4:Nat}{R:Th->Prop}{f:Th->Bool}(hc:nH 196 W0 nm wd ln ds bd A3 c3 A4 c4 R f)
 (h1:W0.heap[b1]? =ae (.cells #[.func (.func 196) #[] #[]] 240 (0,0))) (h2:W0.heap[b2]? =ae (.cells #[.string nm,.int .i64 wd,.int .i64 ln,.slice A3 ds.length c3,.slice A4 bd.length c4] 25 (0,0))):j9 W0 (.pointer (ae ⟨b1,0,ai⟩)) (.pointer (ae ⟨b2,0,ai⟩)) R f:=by
 intro Wb W n dp sp ep dI lp t hR h0 hB ht
 have gout:∀{o:Obj} (g:G (W.alloc o)),Below W.heap.size W g.W:=fun g=>((ak _ _).alloc (aj _) _).trans (g.below.mono (by simp))
 have hBW:=h0.trans (hB.mono h0.size)
 have k1:=(hBW.block b1 (aW h1)).trans h1
 have k2:=(hBW.block b2 (aW h2)).trans h2
 have l1:=aW k1
 have l2:=aW k2
 have y0:W.cell? ⟨b1,0,ai⟩=ae (.func (.func 196) #[] #[]):=(aA k1 0).trans rfl
 have z0:W.cell? ⟨b2,0,ai⟩=ae (.string nm):=(aA k2 0).trans rfl
 have z1:W.cell? ⟨b2,1,ai⟩=ae (.int .i64 wd):=(aA k2 1).trans rfl
 have z2:W.cell? ⟨b2,2,ai⟩=ae (.int .i64 ln):=(aA k2 2).trans rfl
 have z3:W.cell? ⟨b2,3,ai⟩=ae (.slice A3 ds.length c3):=(aA k2 3).trans rfl
 have z4:W.cell? ⟨b2,4,ai⟩=ae (.slice A4 bd.length c4):=(aA k2 4).trans rfl
 have HX:=I (ac hR (ac h0 (ac hB ht)))
 have HC:=I hc
 clear hR h0 hB ht hc k1 k2 h1 h2 hBW
 go_enter Tryz.func251,Tryz.ntmps251
 go_upto_region 1 with (fail)
 refine aG ?_
 intro gg
 go_wp2_with fail
 refine(aC (g:=gg) (HC.out Wb gg.W n dp sp ep dI lp t HX.out.1 HX.out.2.1 (HX.out.2.2.1.trans ((gout gg).mono HX.out.2.2.1.size)) (HX.out.2.2.2.below (gout gg)))).mono ?_
 rintro _ _ ⟨rfl,gg,rfl⟩
 go_wp2_with fail
 go_ret
 exact⟨rfl,gout _⟩
set_option maxRecDepth 100000 in
theorem wrong68_ok {W0:World}{b1 b2:Nat}{nm:ByteArray}{wd ln:Int}{ds:List S70}{bd:List S119}{A3:Option Addr}{c3:Nat}{A4:Option Addr}{c4:Nat}{R:Th->Prop}{f:Th->Bool}(hc:nH 198 W0 nm wd ln ds bd A3 c3 A4 c4 R f)
 (h1:W0.heap[b1]? =ae (.cells #[.func (.func 198) #[] #[]] 240 (0,0))) (h2:W0.heap[b2]? =ae (.cells #[.string nm,.int .i64 wd,.int .i64 ln,.slice A3 ds.length c3,.slice A4 bd.length c4] 25 (0,0))):j9 W0 (.pointer (ae ⟨b1,0,ai⟩)) (.pointer (ae ⟨b2,0,ai⟩)) R f:=by
 intro Wb W n dp sp ep dI lp t hR h0 hB ht
 have gout:∀{o:Obj} (g:G (W.alloc o)),Below W.heap.size W g.W:=fun g=>((ak _ _).alloc (aj _) _).trans (g.below.mono (by simp))
 have hBW:=h0.trans (hB.mono h0.size)
 have k1:=(hBW.block b1 (aW h1)).trans h1
 have k2:=(hBW.block b2 (aW h2)).trans h2
 have l1:=aW k1
 have l2:=aW k2
 have y0:W.cell? ⟨b1,0,ai⟩=ae (.func (.func 198) #[] #[]):=(aA k1 0).trans rfl
 have z0:W.cell? ⟨b2,0,ai⟩=ae (.string nm):=(aA k2 0).trans rfl
 have z1:W.cell? ⟨b2,1,ai⟩=ae (.int .i64 wd):=(aA k2 1).trans rfl
 have z2:W.cell? ⟨b2,2,ai⟩=ae (.int .i64 ln):=(aA k2 2).trans rfl
 have z3:W.cell? ⟨b2,3,ai⟩=ae (.slice A3 ds.length c3):=(aA k2 3).trans rfl
 have z4:W.cell? ⟨b2,4,ai⟩=ae (.slice A4 bd.length c4):=(aA k2 4).trans rfl
 have HX:=I (ac hR (ac h0 (ac hB ht)))
 have HC:=I hc
 clear hR h0 hB ht hc k1 k2 h1 h2 hBW
 go_enter Tryz.func251,Tryz.ntmps251
 go_upto_region 1 with (fail)
 refine aG ?_
 intro gg
 go_wp2_with fail
 refine(aC (g:=gg) (HC.out Wb gg.W n dp sp ep dI lp t HX.out.1 HX.out.2.1 (HX.out.2.2.1.trans ((gout gg).mono HX.out.2.2.1.size)) (HX.out.2.2.2.below (gout gg)))).mono ?_
 rintro _ _ ⟨rfl,gg,rfl⟩
 go_wp2_with fail
 go_ret
 exact⟨rfl,gout _⟩
set_option maxRecDepth 100000 in
theorem wrong69_ok {W0:World}{b1 b2:Nat}{nm:ByteArray}{wd ln:Int}{ds:List S70}{bd:List S119}{A3:Option Addr}{c3:Nat}{A4:Option Addr}{c4:Nat}{R:Th->Prop}{f:Th->Bool}(hc:nH 199 W0 nm wd ln ds bd A3 c3 A4 c4 R f)
 (h1:W0.heap[b1]? =ae (.cells #[.func (.func 199) #[] #[]] 240 (0,0))) (h2:W0.heap[b2]? =ae (.cells #[.string nm,.int .i64 wd,.int .i64 ln,.slice A3 ds.length c3,.slice A4 bd.length c4] 25 (0,0))):j9 W0 (.pointer (ae ⟨b1,0,ai⟩)) (.pointer (ae ⟨b2,0,ai⟩)) R f:=by
 intro Wb W n dp sp ep dI lp t hR h0 hB ht
 have gout:∀{o:Obj} (g:G (W.alloc o)),Below W.heap.size W g.W:=fun g=>((ak _ _).alloc (aj _) _).trans (g.below.mono (by simp))
 have hBW:=h0.trans (hB.mono h0.size)
 have k1:=(hBW.block b1 (aW h1)).trans h1
 have k2:=(hBW.block b2 (aW h2)).trans h2
 have l1:=aW k1
 have l2:=aW k2
 have y0:W.cell? ⟨b1,0,ai⟩=ae (.func (.func 199) #[] #[]):=(aA k1 0).trans rfl
 have z0:W.cell? ⟨b2,0,ai⟩=ae (.string nm):=(aA k2 0).trans rfl
 have z1:W.cell? ⟨b2,1,ai⟩=ae (.int .i64 wd):=(aA k2 1).trans rfl
 have z2:W.cell? ⟨b2,2,ai⟩=ae (.int .i64 ln):=(aA k2 2).trans rfl
 have z3:W.cell? ⟨b2,3,ai⟩=ae (.slice A3 ds.length c3):=(aA k2 3).trans rfl
 have z4:W.cell? ⟨b2,4,ai⟩=ae (.slice A4 bd.length c4):=(aA k2 4).trans rfl
 have HX:=I (ac hR (ac h0 (ac hB ht)))
 have HC:=I hc
 clear hR h0 hB ht hc k1 k2 h1 h2 hBW
 go_enter Tryz.func251,Tryz.ntmps251
 go_upto_region 1 with (fail)
 refine aG ?_
 intro gg
 go_wp2_with fail
 refine(aC (g:=gg) (HC.out Wb gg.W n dp sp ep dI lp t HX.out.1 HX.out.2.1 (HX.out.2.2.1.trans ((gout gg).mono HX.out.2.2.1.size)) (HX.out.2.2.2.below (gout gg)))).mono ?_
 rintro _ _ ⟨rfl,gg,rfl⟩
 go_wp2_with fail
 go_ret
 exact⟨rfl,gout _⟩
set_option maxRecDepth 100000 in
theorem wrong70_ok {W0:World}{b1 b2:Nat}{nm:ByteArray}{wd ln:Int}{ds:List S70}{bd:List S119}{A3:Option Addr}{c3:Nat}{A4:Option Addr}{c4:Nat}{R:Th->Prop}{f:Th->Bool}(hc:nH 200 W0 nm wd ln ds bd A3 c3 A4 c4 R f)
 (h1:W0.heap[b1]? =ae (.cells #[.func (.func 200) #[] #[]] 240 (0,0))) (h2:W0.heap[b2]? =ae (.cells #[.string nm,.int .i64 wd,.int .i64 ln,.slice A3 ds.length c3,.slice A4 bd.length c4] 25 (0,0))):j9 W0 (.pointer (ae ⟨b1,0,ai⟩)) (.pointer (ae ⟨b2,0,ai⟩)) R f:=by
 intro Wb W n dp sp ep dI lp t hR h0 hB ht
 have gout:∀{o:Obj} (g:G (W.alloc o)),Below W.heap.size W g.W:=fun g=>((ak _ _).alloc (aj _) _).trans (g.below.mono (by simp))
 have hBW:=h0.trans (hB.mono h0.size)
 have k1:=(hBW.block b1 (aW h1)).trans h1
 have k2:=(hBW.block b2 (aW h2)).trans h2
 have l1:=aW k1
 have l2:=aW k2
 have y0:W.cell? ⟨b1,0,ai⟩=ae (.func (.func 200) #[] #[]):=(aA k1 0).trans rfl
 have z0:W.cell? ⟨b2,0,ai⟩=ae (.string nm):=(aA k2 0).trans rfl
 have z1:W.cell? ⟨b2,1,ai⟩=ae (.int .i64 wd):=(aA k2 1).trans rfl
 have z2:W.cell? ⟨b2,2,ai⟩=ae (.int .i64 ln):=(aA k2 2).trans rfl
 have z3:W.cell? ⟨b2,3,ai⟩=ae (.slice A3 ds.length c3):=(aA k2 3).trans rfl
 have z4:W.cell? ⟨b2,4,ai⟩=ae (.slice A4 bd.length c4):=(aA k2 4).trans rfl
 have HX:=I (ac hR (ac h0 (ac hB ht)))
 have HC:=I hc
 clear hR h0 hB ht hc k1 k2 h1 h2 hBW
 go_enter Tryz.func251,Tryz.ntmps251
 go_upto_region 1 with (fail)
 refine aG ?_
 intro gg
 go_wp2_with fail
 refine(aC (g:=gg) (HC.out Wb gg.W n dp sp ep dI lp t HX.out.1 HX.out.2.1 (HX.out.2.2.1.trans ((gout gg).mono HX.out.2.2.1.size)) (HX.out.2.2.2.below (gout gg)))).mono ?_
 rintro _ _ ⟨rfl,gg,rfl⟩
 go_wp2_with fail
 go_ret
 exact⟨rfl,gout _⟩
end
section
attribute [local go_sem] G.cell
theorem nS {a c:Int}{b d:Bool}(h1:a=c)(h2:b=d):fu (.tuple #[.int .i64 a,.bool b])=.returned (.tuple #[.int .i64 c,.bool d]):=by rw[h1,h2]
set_option maxRecDepth 100000 in
theorem eY {R:Th->Prop}{f:Th->Bool}(nm:ByteArray)(wd ln:Int)(ds:List S70)(bd:List S119)(A3:Option Addr)(c3:Nat)(A4:Option Addr)(c4:Nat)(b1:Nat)(W:World)(hp:ProgAt W ds bd A3 c3 A4 c4)(hform:bdB bd=af)(hdl:ds.length<=1048576)(hbb:Ot.cH bd<=1048576)(hR:∀t∈things ds bd,R t)
 (hW:∀X b2,Below W.heap.size W X->X.heap[b2]? =ae (.cells #[.string nm,.int .i64 wd,.int .i64 ln,.slice A3 ds.length c3,.slice A4 bd.length c4] 25 (0,0))->j9 X (.pointer (ae ⟨b1,0,ai⟩)) (.pointer (ae ⟨b2,0,ai⟩)) R f) (r:Int × Bool) (hr:r=fO f (things ds bd)):
 Calls ar 249 #[.agg #[.string nm,.int .i64 wd,.int .i64 ln,.slice A3 ds.length c3,.slice A4 bd.length c4],.pointer (ae ⟨b1,0,ai⟩)] W fun e w'=>e=.returned (.tuple #[.int .i64 r.1,.bool r.2])/\Below W.heap.size W w':=by
 have hmf:∀(fn:Fn) (first cap:Array Value) (w:World),(Instr.makeFunc fn first cap).run ar w=.ok (.func fn first cap) w:=fun _ _ _ _=>rfl
 have gout:∀{o:Obj} (g:G (W.alloc o)),Below W.heap.size W g.W:=fun g=>((ak _ _).alloc (aj _) _).trans (g.below.mono (by simp))
 have HP:=I hp
 have HR:=I hr
 have HZ:=I (ac hform (ac hdl (ac hbb hR)))
 have HW:=I hW
 clear hp hr hform hdl hbb hR hW
 go_enter Tryz.func249,Tryz.ntmps249
 go_upto_region 1 with (fail)
 refine aG ?_
 intro gg
 have HBX:=I (show gg.W.heap[W.heap.size]? =ae (.cells #[.string nm,.int .i64 wd,.int .i64 ln,.slice A3 ds.length c3,.slice A4 bd.length c4] 25 (0,0)) from aD (aY _ _) gg.below)
 go_wp2_with fail
 have F:=first_calls (HW.out gg.W W.heap.size (gout gg) HBX.out) nm wd ln ds bd A3 c3 A4 c4 gg.W (HP.out.below (gout gg)) HZ.out.1 HZ.out.2.1 HZ.out.2.2.1 HZ.out.2.2.2 (ak _ _)
 rw[←HR.out]at F
 refine(aC (g:=gg) F).mono ?_
 clear F
 rintro _ _ ⟨rfl,gg,rfl⟩
 go_wp2_with fail
 go_ret2
 exact⟨rfl,gout _⟩
set_option maxRecDepth 100000 in
theorem whole44_calls (nm:ByteArray)(wd ln:Int)(ds:List S70)(bd:List S119)(A3:Option Addr)(c3:Nat)(A4:Option Addr)(c4:Nat)(b1:Nat)(W:World)(hb1:W.heap[b1]? =ae (.cells #[.func (.func 75) #[] #[]] 33 (0,0)))(b:Bool)
 (hc:∀X,Below W.heap.size W X->Calls ar 75 #[.agg #[.string nm,.int .i64 wd,.int .i64 ln,.slice A3 ds.length c3,.slice A4 bd.length c4]] X fun e w'=>e=.returned (.bool b)/\Below X.heap.size X w'):
 Calls ar 246 #[.agg #[.string nm,.int .i64 wd,.int .i64 ln,.slice A3 ds.length c3,.slice A4 bd.length c4],.pointer (ae ⟨b1,0,ai⟩)] W fun e w'=>e=.returned (.tuple #[.int .i64 (-1),.bool (!b)])/\Below W.heap.size W w':=by
 have gout:∀{o:Obj} (g:G (W.alloc o)),Below W.heap.size W g.W:=fun g=>((ak _ _).alloc (aj _) _).trans (g.below.mono (by simp))
 have HC:=I hc
 have l1:=aW hb1
 have y0:W.cell? ⟨b1,0,ai⟩=ae (.func (.func 75) #[] #[]):=(aA hb1 0).trans rfl
 clear hc hb1
 go_enter Tryz.func246,Tryz.ntmps246
 go_upto_region 1 with (fail)
 refine aG ?_
 intro gg
 go_wp2_with fail
 refine(aC (g:=gg) (HC.out gg.W (gout gg))).mono ?_
 rintro _ _ ⟨rfl,gg,rfl⟩
 go_wp2_with fail
 go_ret2
 exact⟨rfl,gout _⟩
set_option maxRecDepth 100000 in
theorem whole45_calls (nm:ByteArray)(wd ln:Int)(ds:List S70)(bd:List S119)(A3:Option Addr)(c3:Nat)(A4:Option Addr)(c4:Nat)(b1:Nat)(W:World)(hb1:W.heap[b1]? =ae (.cells #[.func (.func 175) #[] #[]] 33 (0,0)))(b:Bool)
 (hc:∀X,Below W.heap.size W X->Calls ar 175 #[.agg #[.string nm,.int .i64 wd,.int .i64 ln,.slice A3 ds.length c3,.slice A4 bd.length c4]] X fun e w'=>e=.returned (.bool b)/\Below X.heap.size X w'):
 Calls ar 246 #[.agg #[.string nm,.int .i64 wd,.int .i64 ln,.slice A3 ds.length c3,.slice A4 bd.length c4],.pointer (ae ⟨b1,0,ai⟩)] W fun e w'=>e=.returned (.tuple #[.int .i64 (-1),.bool (!b)])/\Below W.heap.size W w':=by
 have gout:∀{o:Obj} (g:G (W.alloc o)),Below W.heap.size W g.W:=fun g=>((ak _ _).alloc (aj _) _).trans (g.below.mono (by simp))
 have HC:=I hc
 have l1:=aW hb1
 have y0:W.cell? ⟨b1,0,ai⟩=ae (.func (.func 175) #[] #[]):=(aA hb1 0).trans rfl
 clear hc hb1
 go_enter Tryz.func246,Tryz.ntmps246
 go_upto_region 1 with (fail)
 refine aG ?_
 intro gg
 go_wp2_with fail
 refine(aC (g:=gg) (HC.out gg.W (gout gg))).mono ?_
 rintro _ _ ⟨rfl,gg,rfl⟩
 go_wp2_with fail
 go_ret2
 exact⟨rfl,gout _⟩
set_option maxRecDepth 100000 in
theorem whole47_calls (nm:ByteArray)(wd ln:Int)(ds:List S70)(bd:List S119)(A3:Option Addr)(c3:Nat)(A4:Option Addr)(c4:Nat)(b1:Nat)(W:World)(hb1:W.heap[b1]? =ae (.cells #[.func (.func 177) #[] #[]] 33 (0,0)))(b:Bool)
 (hc:∀X,Below W.heap.size W X->Calls ar 177 #[.agg #[.string nm,.int .i64 wd,.int .i64 ln,.slice A3 ds.length c3,.slice A4 bd.length c4]] X fun e w'=>e=.returned (.bool b)/\Below X.heap.size X w'):
 Calls ar 246 #[.agg #[.string nm,.int .i64 wd,.int .i64 ln,.slice A3 ds.length c3,.slice A4 bd.length c4],.pointer (ae ⟨b1,0,ai⟩)] W fun e w'=>e=.returned (.tuple #[.int .i64 (-1),.bool (!b)])/\Below W.heap.size W w':=by
 have gout:∀{o:Obj} (g:G (W.alloc o)),Below W.heap.size W g.W:=fun g=>((ak _ _).alloc (aj _) _).trans (g.below.mono (by simp))
 have HC:=I hc
 have l1:=aW hb1
 have y0:W.cell? ⟨b1,0,ai⟩=ae (.func (.func 177) #[] #[]):=(aA hb1 0).trans rfl
 clear hc hb1
 go_enter Tryz.func246,Tryz.ntmps246
 go_upto_region 1 with (fail)
 refine aG ?_
 intro gg
 go_wp2_with fail
 refine(aC (g:=gg) (HC.out gg.W (gout gg))).mono ?_
 rintro _ _ ⟨rfl,gg,rfl⟩
 go_wp2_with fail
 go_ret2
 exact⟨rfl,gout _⟩
set_option maxRecDepth 100000 in
theorem whole48_calls (nm:ByteArray)(wd ln:Int)(ds:List S70)(bd:List S119)(A3:Option Addr)(c3:Nat)(A4:Option Addr)(c4:Nat)(b1:Nat)(W:World)(hb1:W.heap[b1]? =ae (.cells #[.func (.func 178) #[] #[]] 33 (0,0)))(b:Bool)
 (hc:∀X,Below W.heap.size W X->Calls ar 178 #[.agg #[.string nm,.int .i64 wd,.int .i64 ln,.slice A3 ds.length c3,.slice A4 bd.length c4]] X fun e w'=>e=.returned (.bool b)/\Below X.heap.size X w'):
 Calls ar 246 #[.agg #[.string nm,.int .i64 wd,.int .i64 ln,.slice A3 ds.length c3,.slice A4 bd.length c4],.pointer (ae ⟨b1,0,ai⟩)] W fun e w'=>e=.returned (.tuple #[.int .i64 (-1),.bool (!b)])/\Below W.heap.size W w':=by
 have gout:∀{o:Obj} (g:G (W.alloc o)),Below W.heap.size W g.W:=fun g=>((ak _ _).alloc (aj _) _).trans (g.below.mono (by simp))
 have HC:=I hc
 have l1:=aW hb1
 have y0:W.cell? ⟨b1,0,ai⟩=ae (.func (.func 178) #[] #[]):=(aA hb1 0).trans rfl
 clear hc hb1
 go_enter Tryz.func246,Tryz.ntmps246
 go_upto_region 1 with (fail)
 refine aG ?_
 intro gg
 go_wp2_with fail
 refine(aC (g:=gg) (HC.out gg.W (gout gg))).mono ?_
 rintro _ _ ⟨rfl,gg,rfl⟩
 go_wp2_with fail
 go_ret2
 exact⟨rfl,gout _⟩
set_option maxRecDepth 100000 in
theorem whole58_calls (nm:ByteArray)(wd ln:Int)(ds:List S70)(bd:List S119)(A3:Option Addr)(c3:Nat)(A4:Option Addr)(c4:Nat)(b1:Nat)(W:World)(hb1:W.heap[b1]? =ae (.cells #[.func (.func 188) #[] #[]] 33 (0,0)))(b:Bool)
 (hc:∀X,Below W.heap.size W X->Calls ar 188 #[.agg #[.string nm,.int .i64 wd,.int .i64 ln,.slice A3 ds.length c3,.slice A4 bd.length c4]] X fun e w'=>e=.returned (.bool b)/\Below X.heap.size X w'):
 Calls ar 246 #[.agg #[.string nm,.int .i64 wd,.int .i64 ln,.slice A3 ds.length c3,.slice A4 bd.length c4],.pointer (ae ⟨b1,0,ai⟩)] W fun e w'=>e=.returned (.tuple #[.int .i64 (-1),.bool (!b)])/\Below W.heap.size W w':=by
 have gout:∀{o:Obj} (g:G (W.alloc o)),Below W.heap.size W g.W:=fun g=>((ak _ _).alloc (aj _) _).trans (g.below.mono (by simp))
 have HC:=I hc
 have l1:=aW hb1
 have y0:W.cell? ⟨b1,0,ai⟩=ae (.func (.func 188) #[] #[]):=(aA hb1 0).trans rfl
 clear hc hb1
 go_enter Tryz.func246,Tryz.ntmps246
 go_upto_region 1 with (fail)
 refine aG ?_
 intro gg
 go_wp2_with fail
 refine(aC (g:=gg) (HC.out gg.W (gout gg))).mono ?_
 rintro _ _ ⟨rfl,gg,rfl⟩
 go_wp2_with fail
 go_ret2
 exact⟨rfl,gout _⟩
set_option maxRecDepth 100000 in
theorem whole71_calls (nm:ByteArray)(wd ln:Int)(ds:List S70)(bd:List S119)(A3:Option Addr)(c3:Nat)(A4:Option Addr)(c4:Nat)(b1:Nat)(W:World)(hb1:W.heap[b1]? =ae (.cells #[.func (.func 201) #[] #[]] 33 (0,0)))(b:Bool)
 (hc:∀X,Below W.heap.size W X->Calls ar 201 #[.agg #[.string nm,.int .i64 wd,.int .i64 ln,.slice A3 ds.length c3,.slice A4 bd.length c4]] X fun e w'=>e=.returned (.bool b)/\Below X.heap.size X w'):
 Calls ar 246 #[.agg #[.string nm,.int .i64 wd,.int .i64 ln,.slice A3 ds.length c3,.slice A4 bd.length c4],.pointer (ae ⟨b1,0,ai⟩)] W fun e w'=>e=.returned (.tuple #[.int .i64 (-1),.bool (!b)])/\Below W.heap.size W w':=by
 have gout:∀{o:Obj} (g:G (W.alloc o)),Below W.heap.size W g.W:=fun g=>((ak _ _).alloc (aj _) _).trans (g.below.mono (by simp))
 have HC:=I hc
 have l1:=aW hb1
 have y0:W.cell? ⟨b1,0,ai⟩=ae (.func (.func 201) #[] #[]):=(aA hb1 0).trans rfl
 clear hc hb1
 go_enter Tryz.func246,Tryz.ntmps246
 go_upto_region 1 with (fail)
 refine aG ?_
 intro gg
 go_wp2_with fail
 refine(aC (g:=gg) (HC.out gg.W (gout gg))).mono ?_
 rintro _ _ ⟨rfl,gg,rfl⟩
 go_wp2_with fail
 go_ret2
 exact⟨rfl,gout _⟩
end
section
attribute [local go_sem] G.cell
def e7 (f:Nat->Bool)(n:Nat):Int × Bool:=match aZ n f with
 |some i=>((i:Int),af)
 |none=>(0,J)
set_option maxRecDepth 100000 in
theorem decls50_calls (nm:ByteArray)(wd ln:Int)(ds:List S70)(bd:List S119)(A3:Option Addr)(c3:Nat)(A4:Option Addr)(c4:Nat)(b1:Nat)(W:World)(hlm:ds.length<=1048576)(hb1:W.heap[b1]? =ae (.cells #[.func (.func 180) #[] #[]] 55 (0,0)))(f:Nat->Bool)
 (hc:∀X i,Below W.heap.size W X->i<ds.length->Calls ar 180 #[.agg #[.string nm,.int .i64 wd,.int .i64 ln,.slice A3 ds.length c3,.slice A4 bd.length c4],.int .i64 (i:Int)] X fun e w'=>e=.returned (.bool (f i))/\Below X.heap.size X w') (r:Int × Bool) (hr:r=e7 f ds.length):
 Calls ar 247 #[.agg #[.string nm,.int .i64 wd,.int .i64 ln,.slice A3 ds.length c3,.slice A4 bd.length c4],.pointer (ae ⟨b1,0,ai⟩)] W fun e w'=>e=.returned (.tuple #[.int .i64 r.1,.bool r.2])/\Below W.heap.size W w':=by
 have gout:∀{o:Obj} (g:G (W.alloc o)),Below W.heap.size W g.W:=fun g=>((ak _ _).alloc (aj _) _).trans (g.below.mono (by simp))
 have HC:=I hc
 have HR:=I hr
 have l1:=aW hb1
 have y0:W.cell? ⟨b1,0,ai⟩=ae (.func (.func 180) #[] #[]):=(aA hb1 0).trans rfl
 clear hc hb1 hr
 go_enter Tryz.func247,Tryz.ntmps247
 go_upto_region 1 with (fail)
 refine aG ?_
 intro gg
 have goutW:∀(g:G (gw0 gg)),Below W.heap.size W g.W:=fun g=>gout g
 go_wp2_with fail
 go_loopw [9] (fun i X=>∃(k:Nat) (g:G (gw0 gg)),i=.int .i64 k/\X=g.W/\k<=ds.length/\Aside0 (∀j,j<k->f j=J)) (fun i _=>ds.length - (intOf i).toNat)
 case atStart=>exact⟨0,gg,rfl,rfl,bg _,⟨fun j hj=>absurd hj (ck _)⟩⟩
 case round=>
  obtain⟨k,gx,rfl,rfl,hk,HK⟩:=hrel
  by_cases hlt:k<ds.length
  ·have hk1:(k:Int)<(ds.length:Int):=by omega
   go_wp2_with fail
   refine(aC (g:=gx) (HC.out gx.W k (goutW gx) hlt)).mono ?_
   rintro _ _ ⟨rfl,g2,rfl⟩
   cases hf:f k
   ·have HF:=I hf
    clear hf
    go_wp2_with fail
    exact⟨⟨k+1,g2,by go_num,rfl,by omega,⟨fun j hj=>(fw (j=k)).elim (fun h=>h ▸ HF.out) (fun h=>HK.out j (by omega))⟩⟩,by simp[intOf];omega⟩
   ·have HF:=I hf
    clear hf
    go_wp2_with fail
    go_ret2
    have e:r=((k:Int),af):=by rw[HR.out];unfold e7;rw[cC hlt HF.out HK.out]
    exact⟨nS (by rw[e]) (by rw[e]),goutW _⟩
  ·have hk1:¬(k:Int)<(ds.length:Int):=by omega
   go_wp2_with fail
   go_ret2
   have e:r=(0,J):=by rw[HR.out];unfold e7;rw[bH fun j hj=>HK.out j (by omega)]
   exact⟨nS (by rw[e]) (by rw[e]),goutW _⟩
set_option maxRecDepth 100000 in
theorem decls52_calls (nm:ByteArray)(wd ln:Int)(ds:List S70)(bd:List S119)(A3:Option Addr)(c3:Nat)(A4:Option Addr)(c4:Nat)(b1:Nat)(W:World)(hlm:ds.length<=1048576)(hb1:W.heap[b1]? =ae (.cells #[.func (.func 182) #[] #[]] 55 (0,0)))(f:Nat->Bool)
 (hc:∀X i,Below W.heap.size W X->i<ds.length->Calls ar 182 #[.agg #[.string nm,.int .i64 wd,.int .i64 ln,.slice A3 ds.length c3,.slice A4 bd.length c4],.int .i64 (i:Int)] X fun e w'=>e=.returned (.bool (f i))/\Below X.heap.size X w') (r:Int × Bool) (hr:r=e7 f ds.length):
 Calls ar 247 #[.agg #[.string nm,.int .i64 wd,.int .i64 ln,.slice A3 ds.length c3,.slice A4 bd.length c4],.pointer (ae ⟨b1,0,ai⟩)] W fun e w'=>e=.returned (.tuple #[.int .i64 r.1,.bool r.2])/\Below W.heap.size W w':=by
 have gout:∀{o:Obj} (g:G (W.alloc o)),Below W.heap.size W g.W:=fun g=>((ak _ _).alloc (aj _) _).trans (g.below.mono (by simp))
 have HC:=I hc
 have HR:=I hr
 have l1:=aW hb1
 have y0:W.cell? ⟨b1,0,ai⟩=ae (.func (.func 182) #[] #[]):=(aA hb1 0).trans rfl
 clear hc hb1 hr
 go_enter Tryz.func247,Tryz.ntmps247
 go_upto_region 1 with (fail)
 refine aG ?_
 intro gg
 have goutW:∀(g:G (gw0 gg)),Below W.heap.size W g.W:=fun g=>gout g
 go_wp2_with fail
 go_loopw [9] (fun i X=>∃(k:Nat) (g:G (gw0 gg)),i=.int .i64 k/\X=g.W/\k<=ds.length/\Aside0 (∀j,j<k->f j=J)) (fun i _=>ds.length - (intOf i).toNat)
 case atStart=>exact⟨0,gg,rfl,rfl,bg _,⟨fun j hj=>absurd hj (ck _)⟩⟩
 case round=>
  obtain⟨k,gx,rfl,rfl,hk,HK⟩:=hrel
  by_cases hlt:k<ds.length
  ·have hk1:(k:Int)<(ds.length:Int):=by omega
   go_wp2_with fail
   refine(aC (g:=gx) (HC.out gx.W k (goutW gx) hlt)).mono ?_
   rintro _ _ ⟨rfl,g2,rfl⟩
   cases hf:f k
   ·have HF:=I hf
    clear hf
    go_wp2_with fail
    exact⟨⟨k+1,g2,by go_num,rfl,by omega,⟨fun j hj=>(fw (j=k)).elim (fun h=>h ▸ HF.out) (fun h=>HK.out j (by omega))⟩⟩,by simp[intOf];omega⟩
   ·have HF:=I hf
    clear hf
    go_wp2_with fail
    go_ret2
    have e:r=((k:Int),af):=by rw[HR.out];unfold e7;rw[cC hlt HF.out HK.out]
    exact⟨nS (by rw[e]) (by rw[e]),goutW _⟩
  ·have hk1:¬(k:Int)<(ds.length:Int):=by omega
   go_wp2_with fail
   go_ret2
   have e:r=(0,J):=by rw[HR.out];unfold e7;rw[bH fun j hj=>HK.out j (by omega)]
   exact⟨nS (by rw[e]) (by rw[e]),goutW _⟩
set_option maxRecDepth 100000 in
theorem decls53_calls (nm:ByteArray)(wd ln:Int)(ds:List S70)(bd:List S119)(A3:Option Addr)(c3:Nat)(A4:Option Addr)(c4:Nat)(b1:Nat)(W:World)(hlm:ds.length<=1048576)(hb1:W.heap[b1]? =ae (.cells #[.func (.func 183) #[] #[]] 55 (0,0)))(f:Nat->Bool)
 (hc:∀X i,Below W.heap.size W X->i<ds.length->Calls ar 183 #[.agg #[.string nm,.int .i64 wd,.int .i64 ln,.slice A3 ds.length c3,.slice A4 bd.length c4],.int .i64 (i:Int)] X fun e w'=>e=.returned (.bool (f i))/\Below X.heap.size X w') (r:Int × Bool) (hr:r=e7 f ds.length):
 Calls ar 247 #[.agg #[.string nm,.int .i64 wd,.int .i64 ln,.slice A3 ds.length c3,.slice A4 bd.length c4],.pointer (ae ⟨b1,0,ai⟩)] W fun e w'=>e=.returned (.tuple #[.int .i64 r.1,.bool r.2])/\Below W.heap.size W w':=by
 have gout:∀{o:Obj} (g:G (W.alloc o)),Below W.heap.size W g.W:=fun g=>((ak _ _).alloc (aj _) _).trans (g.below.mono (by simp))
 have HC:=I hc
 have HR:=I hr
 have l1:=aW hb1
 have y0:W.cell? ⟨b1,0,ai⟩=ae (.func (.func 183) #[] #[]):=(aA hb1 0).trans rfl
 clear hc hb1 hr
 go_enter Tryz.func247,Tryz.ntmps247
 go_upto_region 1 with (fail)
 refine aG ?_
 intro gg
 have goutW:∀(g:G (gw0 gg)),Below W.heap.size W g.W:=fun g=>gout g
 go_wp2_with fail
 go_loopw [9] (fun i X=>∃(k:Nat) (g:G (gw0 gg)),i=.int .i64 k/\X=g.W/\k<=ds.length/\Aside0 (∀j,j<k->f j=J)) (fun i _=>ds.length - (intOf i).toNat)
 case atStart=>exact⟨0,gg,rfl,rfl,bg _,⟨fun j hj=>absurd hj (ck _)⟩⟩
 case round=>
  obtain⟨k,gx,rfl,rfl,hk,HK⟩:=hrel
  by_cases hlt:k<ds.length
  ·have hk1:(k:Int)<(ds.length:Int):=by omega
   go_wp2_with fail
   refine(aC (g:=gx) (HC.out gx.W k (goutW gx) hlt)).mono ?_
   rintro _ _ ⟨rfl,g2,rfl⟩
   cases hf:f k
   ·have HF:=I hf
    clear hf
    go_wp2_with fail
    exact⟨⟨k+1,g2,by go_num,rfl,by omega,⟨fun j hj=>(fw (j=k)).elim (fun h=>h ▸ HF.out) (fun h=>HK.out j (by omega))⟩⟩,by simp[intOf];omega⟩
   ·have HF:=I hf
    clear hf
    go_wp2_with fail
    go_ret2
    have e:r=((k:Int),af):=by rw[HR.out];unfold e7;rw[cC hlt HF.out HK.out]
    exact⟨nS (by rw[e]) (by rw[e]),goutW _⟩
  ·have hk1:¬(k:Int)<(ds.length:Int):=by omega
   go_wp2_with fail
   go_ret2
   have e:r=(0,J):=by rw[HR.out];unfold e7;rw[bH fun j hj=>HK.out j (by omega)]
   exact⟨nS (by rw[e]) (by rw[e]),goutW _⟩
set_option maxRecDepth 100000 in
theorem decls54_calls (nm:ByteArray)(wd ln:Int)(ds:List S70)(bd:List S119)(A3:Option Addr)(c3:Nat)(A4:Option Addr)(c4:Nat)(b1:Nat)(W:World)(hlm:ds.length<=1048576)(hb1:W.heap[b1]? =ae (.cells #[.func (.func 184) #[] #[]] 55 (0,0)))(f:Nat->Bool)
 (hc:∀X i,Below W.heap.size W X->i<ds.length->Calls ar 184 #[.agg #[.string nm,.int .i64 wd,.int .i64 ln,.slice A3 ds.length c3,.slice A4 bd.length c4],.int .i64 (i:Int)] X fun e w'=>e=.returned (.bool (f i))/\Below X.heap.size X w') (r:Int × Bool) (hr:r=e7 f ds.length):
 Calls ar 247 #[.agg #[.string nm,.int .i64 wd,.int .i64 ln,.slice A3 ds.length c3,.slice A4 bd.length c4],.pointer (ae ⟨b1,0,ai⟩)] W fun e w'=>e=.returned (.tuple #[.int .i64 r.1,.bool r.2])/\Below W.heap.size W w':=by
 have gout:∀{o:Obj} (g:G (W.alloc o)),Below W.heap.size W g.W:=fun g=>((ak _ _).alloc (aj _) _).trans (g.below.mono (by simp))
 have HC:=I hc
 have HR:=I hr
 have l1:=aW hb1
 have y0:W.cell? ⟨b1,0,ai⟩=ae (.func (.func 184) #[] #[]):=(aA hb1 0).trans rfl
 clear hc hb1 hr
 go_enter Tryz.func247,Tryz.ntmps247
 go_upto_region 1 with (fail)
 refine aG ?_
 intro gg
 have goutW:∀(g:G (gw0 gg)),Below W.heap.size W g.W:=fun g=>gout g
 go_wp2_with fail
 go_loopw [9] (fun i X=>∃(k:Nat) (g:G (gw0 gg)),i=.int .i64 k/\X=g.W/\k<=ds.length/\Aside0 (∀j,j<k->f j=J)) (fun i _=>ds.length - (intOf i).toNat)
 case atStart=>exact⟨0,gg,rfl,rfl,bg _,⟨fun j hj=>absurd hj (ck _)⟩⟩
 case round=>
  obtain⟨k,gx,rfl,rfl,hk,HK⟩:=hrel
  by_cases hlt:k<ds.length
  ·have hk1:(k:Int)<(ds.length:Int):=by omega
   go_wp2_with fail
   refine(aC (g:=gx) (HC.out gx.W k (goutW gx) hlt)).mono ?_
   rintro _ _ ⟨rfl,g2,rfl⟩
   cases hf:f k
   ·have HF:=I hf
    clear hf
    go_wp2_with fail
    exact⟨⟨k+1,g2,by go_num,rfl,by omega,⟨fun j hj=>(fw (j=k)).elim (fun h=>h ▸ HF.out) (fun h=>HK.out j (by omega))⟩⟩,by simp[intOf];omega⟩
   ·have HF:=I hf
    clear hf
    go_wp2_with fail
    go_ret2
    have e:r=((k:Int),af):=by rw[HR.out];unfold e7;rw[cC hlt HF.out HK.out]
    exact⟨nS (by rw[e]) (by rw[e]),goutW _⟩
  ·have hk1:¬(k:Int)<(ds.length:Int):=by omega
   go_wp2_with fail
   go_ret2
   have e:r=(0,J):=by rw[HR.out];unfold e7;rw[bH fun j hj=>HK.out j (by omega)]
   exact⟨nS (by rw[e]) (by rw[e]),goutW _⟩
set_option maxRecDepth 100000 in
theorem c45_calls (nm:ByteArray)(wd ln:Int)(ds:List S70)(bd:List S119)(A3:Option Addr)(c3:Nat)(A4:Option Addr)(c4:Nat)(W:World)(b:Bool)(hb:b=cU wd):
 Calls ar 175 #[.agg #[.string nm,.int .i64 wd,.int .i64 ln,.slice A3 ds.length c3,.slice A4 bd.length c4]] W fun e w'=>e=.returned (.bool b)/\Below W.heap.size W w':=by
 have gout:∀{o:Obj} (g:G (W.alloc o)),Below W.heap.size W g.W:=fun g=>((ak _ _).alloc (aj _) _).trans (g.below.mono (by simp))
 have HR:=I hb
 clear hb
 go_enter Tryz.func175,Tryz.ntmps175
 go_upto_region 1 with (fail)
 refine aG ?_
 intro gg
 by_cases h:wd ≥ 4
 ·have H:=I h
  go_wp2_with fail
  refine(aC (g:=gg) (kM wd 64 gg.W (by decide) _ rfl)).mono ?_
  rintro _ _ ⟨rfl,gg,rfl⟩
  go_wp2_with fail
  go_ret
  refine⟨aB ?_,gout _⟩
  rw[HR.out]
  have h4:=H.out
  by_cases h64:wd<=64
  ·rw[decide_eq_true h64,jx]
   unfold cY cU
   have e1:(wd==1)=J:=by simp;omega
   have e2:(wd==2)=J:=by simp;omega
   have e3:(wd==128)=J:=by simp;omega
   have e4:(wd==256)=J:=by simp;omega
   rw[e1,e2,e3,e4]
   simp
  ·rw[decide_eq_false h64,iz]
   unfold cU
   have e1:(wd==4)=J:=by simp;omega
   have e2:(wd==8)=J:=by simp;omega
   have e3:(wd==16)=J:=by simp;omega
   have e4:(wd==32)=J:=by simp;omega
   have e5:(wd==64)=J:=by simp;omega
   rw[e1,e2,e3,e4,e5]
   rfl
 ·have H:=I h
  go_wp2_with fail
  go_ret
  refine⟨aB ?_,gout _⟩
  rw[HR.out]
  have h4:=H.out
  unfold cU
  have e1:(wd==4)=J:=by simp;omega
  have e2:(wd==8)=J:=by simp;omega
  have e3:(wd==16)=J:=by simp;omega
  have e4:(wd==32)=J:=by simp;omega
  have e5:(wd==64)=J:=by simp;omega
  rw[e1,e2,e3,e4,e5]
  rfl
set_option maxRecDepth 100000 in
theorem c47_calls (nm:ByteArray)(wd ln:Int)(ds:List S70)(bd:List S119)(A3:Option Addr)(c3:Nat)(A4:Option Addr)(c4:Nat)(W:World)(b:Bool)(hb:b=cY ln):
 Calls ar 177 #[.agg #[.string nm,.int .i64 wd,.int .i64 ln,.slice A3 ds.length c3,.slice A4 bd.length c4]] W fun e w'=>e=.returned (.bool b)/\Below W.heap.size W w':=by
 have gout:∀{o:Obj} (g:G (W.alloc o)),Below W.heap.size W g.W:=fun g=>((ak _ _).alloc (aj _) _).trans (g.below.mono (by simp))
 have HR:=I hb
 clear hb
 go_enter Tryz.func177,Tryz.ntmps177
 go_upto_region 1 with (fail)
 refine aG ?_
 intro gg
 go_wp2_with fail
 refine(aC (g:=gg) (kM ln 256 gg.W (by decide) b (by
  rw[HR.out]
  by_cases h:ln<=256
  ·rw[decide_eq_true h,jx]
  ·rw[decide_eq_false h,iz,pow_out (.inr (by omega))]))).mono ?_
 rintro _ _ ⟨rfl,gg,rfl⟩
 go_wp2_with fail
 go_ret
 exact⟨rfl,gout _⟩
set_option maxRecDepth 100000 in
theorem c48_calls (nm:ByteArray)(wd ln:Int)(ds:List S70)(bd:List S119)(A3:Option Addr)(c3:Nat)(A4:Option Addr)(c4:Nat)(W:World)(hlm:ds.length<=1048576)(b:Bool)(hb:b=decide (ds.length<=256)):
 Calls ar 178 #[.agg #[.string nm,.int .i64 wd,.int .i64 ln,.slice A3 ds.length c3,.slice A4 bd.length c4]] W fun e w'=>e=.returned (.bool b)/\Below W.heap.size W w':=by
 have gout:∀{o:Obj} (g:G (W.alloc o)),Below W.heap.size W g.W:=fun g=>((ak _ _).alloc (aj _) _).trans (g.below.mono (by simp))
 have HR:=I hb
 clear hb
 go_enter Tryz.func178,Tryz.ntmps178
 go_upto_region 1 with (fail)
 refine aG ?_
 intro gg
 by_cases h:ds.length<=256
 ·have h':(ds.length:Int)<=256:=by omega
  have H:=I h
  clear h
  go_wp2_with fail
  go_ret
  exact⟨aB (by rw[HR.out,decide_eq_true H.out]),gout _⟩
 ·have h':¬(ds.length:Int)<=256:=by omega
  have H:=I h
  clear h
  go_wp2_with fail
  go_ret
  exact⟨aB (by rw[HR.out,decide_eq_false (by have:=H.out;omega)]),gout _⟩
end
section
attribute [local go_sem] G.cell
theorem cap_step (s a C:Nat):min (min (min s C+1) C+a) C=min (s+(1+a)) C:=by omega
theorem cap_one (s C:Nat):min (min s C+1) C=min (s+(1+0)) C:=by omega
theorem cap_if (s w a b C:Nat):min (min (min s C+1) C+(w+(min a C+min b C))) C=min (s+(1+(w+a+b))) C:=by omega
theorem cap_mul (n a C:Nat)(hC:0<C):min (n*min (1+min a C) C) C=min (n*(1+a)) C:=by
 rcases cd n with rfl | hn
 ·simp
 ·by_cases h:1+a<=C
  ·rw[cq (show a<=C by omega),cq h]
  ·have h1:min (1+min a C) C=C:=by omega
   have h2:C<=n*C:=Nat.le_mul_of_pos_left C hn
   have h3:C<=n*(1+a):=bk h2 (Nat.mul_le_mul_left n (by omega))
   rw[h1,ib h2,ib h3]
theorem cap_for (s n a C:Nat)(hC:0<C):min (min (min s C+1) C+min (n*min (1+min a C) C) C) C=min (s+(1+n*(1+a))) C:=by
 rw[cap_mul n a C hC]
 generalize n*(1+a)=z
 omega
theorem u64_in {z:Int}(h0:0<=z)(h1:z<18446744073709551616):IntKind.u64.wrap z=z:=by simp only[IntKind.wrap,iq,jg,iz,ju,if_false];omega
theorem timesZ_calls (z:Int)(n s r:Nat)(hz:z=n)(hn:n<18446744073709551616)(hs:s<=1099511627776)(hr:r=min (n*s) 1099511627776)(w:World):
 Calls ar 157 #[.int .u64 z,.int .i64 s] w fun e w'=>e=.returned (.int .i64 (r:Int))/\Below w.heap.size w w':=by subst hz;exact times_calls n s r hn hs hr w
theorem mV {a b n:Nat}(h1:a<=n)(h2:b<=n):∀x∈[a,b],x<=n:=by intro x hx;rcases gu.1 hx with rfl | hx;exact h1;rcases gu.1 hx with rfl | hx;exact h2;cases hx
theorem le_of3 {a b c n:Nat}(h1:a<=n)(h2:b<=n)(h3:c<=n):∀x∈[a,b,c],x<=n:=by intro x hx;rcases gu.1 hx with rfl | hx;exact h1;exact mV h2 h3 x hx
theorem le_of4 {a b c d n:Nat}(h1:a<=n)(h2:b<=n)(h3:c<=n)(h4:d<=n):∀x∈[a,b,c,d],x<=n:=by intro x hx;rcases gu.1 hx with rfl | hx;exact h1;exact le_of3 h2 h3 h4 x hx
set_option maxRecDepth 100000 in
theorem size_walk (l:List S119)(hg:∀x∈l,0<=x.f4/\0<=x.f5/\x.f4<18446744073709551616/\x.f5<18446744073709551616/\aK x.f2<=1099511627776/\aK x.f3<=1099511627776)(ih:∀x∈l,SizeC 114 1099511627776 x.f6/\SizeC 114 1099511627776 x.f7):SizeC 114 1099511627776 l:=by
 intro A c w hc hl
 have IH:=I ih
 have HC:=I hc
 have GD:=I hg
 have hlm:=hc.2.1
 clear ih hc hg
 go_enter Tryz.func114,Tryz.ntmps114
 go_wp2
 go_loopw [8,3] (fun i n W=>∃(k:Nat) (g:G w),i=.int .i64 k/\(∃m:Nat,n=.int .i64 m/\m=min (bS (l.take k)) 1099511627776)/\W=g.W/\k<=l.length) (fun i n _=>l.length - (intOf i).toNat)
 case atStart=>exact⟨0,⟨w,ak _ _⟩,rfl,⟨0,rfl,by simp[bS]⟩,rfl,bg _⟩
 case round=>
  obtain⟨k,g,rfl,⟨m,rfl,hm⟩,rfl,hk⟩:=hrel
  by_cases hlt:k<l.length
  ·obtain⟨ad,A5,c5,A9,c9,A12,c12,A13,c13,e1,q0,q1,q2,q3,q4,q5,q6,q7,q8,q9,q10,q11,q12,q13,l5,g5,l9,g9,l12,g12,l13,g13⟩:=i9 HC.out (k:Int) (ba _) (by omega)
   cases e1
   rw[au]at q0 q1 q2 q3 q4 q5 q6 q7 q8 q9 q10 q11 q12 q13
   replace q0:=(g.below.cell (aq w _ q0)).trans q0
   replace q1:=(g.below.cell (aq w _ q1)).trans q1
   replace q2:=(g.below.cell (aq w _ q2)).trans q2
   replace q3:=(g.below.cell (aq w _ q3)).trans q3
   replace q4:=(g.below.cell (aq w _ q4)).trans q4
   replace q5:=(g.below.cell (aq w _ q5)).trans q5
   replace q6:=(g.below.cell (aq w _ q6)).trans q6
   replace q7:=(g.below.cell (aq w _ q7)).trans q7
   replace q8:=(g.below.cell (aq w _ q8)).trans q8
   replace q9:=(g.below.cell (aq w _ q9)).trans q9
   replace q10:=(g.below.cell (aq w _ q10)).trans q10
   replace q11:=(g.below.cell (aq w _ q11)).trans q11
   replace q12:=(g.below.cell (aq w _ q12)).trans q12
   replace q13:=(g.below.cell (aq w _ q13)).trans q13
   have hi1:(k:Int)<(l.length:Int):=by omega
   have K:=I (ac l5 (ac g5 (ac l9 (ac g9 (ac l12 (ac g12 (ac l13 g13)))))))
   clear l5 g5 l9 g9 l12 g12 l13 g13
   have MEM:=jF hlt
   have T:=congrArg bS (eW hlt)
   rw[mU,fQ]at T
   have GD1:=I (GD.out _ MEM)
   have IH1:=I (IH.out _ MEM)
   clear MEM
   generalize aQ l (k:Int)=x at*
   obtain⟨m1,hm1⟩:∃r,r=min [m,1].sum 1099511627776:=⟨_,rfl⟩
   have hm1':m1=min (m+1) 1099511627776:=by simpa using hm1
   have M:=I (ac hm (ac hm1' (ac T hm1)))
   have hmb:=I (show m<=1099511627776/\m1<=1099511627776 from⟨by rw[hm];exact Nat.min_le_right _ _,by rw[hm1];exact Nat.min_le_right _ _⟩)
   clear hm hm1 hm1' T
   have kk:x.f0=1\/x.f0=2\/x.f0=3\/x.f0=4\/(¬x.f0=1/\¬x.f0=2/\¬x.f0=3/\¬x.f0=4):=by omega
   rcases kk with h0 | h0 | h0 | h0 | ⟨h1,h2,h3,h4⟩
   ·rw[h0]at q0
    have H0:=I h0
    clear h0
    go_upto_region 5 with (fail)
    refine aG ?_
    intro gg
    go_wp2_with fail
    refine(cK (g:=gg) (dR [m,1] m1 M.out.2.2.2 (mV hmb.out.1 (by omega)) (by simp) (ae ⟨gg.W.heap.size,0,ai⟩) 2 _ (gI _ [m,1] 3 (by simp)) (by simp))).mono ?_
    rintro _ _ ⟨rfl,gg,rfl⟩
    go_wp2_with fail
    refine(aC (g:=gg) (weigh_v GD1.out.2.2.2.2.2 A9 c9 gg.W (Kd.aF K.out.2.2.2.1 (G.deep (g:=g) gg)) K.out.2.2.1)).mono ?_
    rintro _ _ ⟨rfl,gg,rfl⟩
    go_wp2_with fail
    obtain⟨m2,hm2⟩:∃r,r=min [m1,aK x.f3].sum 1099511627776:=⟨_,rfl⟩
    have HM2:=I hm2
    clear hm2
    refine(cK (g:=gg) (dR [m1,aK x.f3] m2 HM2.out (mV hmb.out.2 GD1.out.2.2.2.2.2) (by simp) (ae ⟨gg.W.heap.size,0,ai⟩) 2 _ (gI _ [m1,aK x.f3] 3 (by simp)) (by simp))).mono ?_
    rintro _ _ ⟨rfl,gg,rfl⟩
    go_wp2_with fail
    refine⟨⟨k+1,mkG (G.deep (g:=g) gg),by go_num,⟨m2,rfl,?_⟩,rfl,by omega⟩,by simp[intOf];omega⟩
    obtain⟨e1,e2,e3,_⟩:=M.out
    have e4:m2=min (m1+aK x.f3) 1099511627776:=by simpa using HM2.out
    rw[e3,H0.out,if_pos rfl,e4,e2,e1]
    exact cap_step _ _ _
   ·rw[h0]at q0
    have H0:=I h0
    clear h0
    go_upto_region 5 with (fail)
    refine aG ?_
    intro gg
    go_wp2_with fail
    refine(cK (g:=gg) (dR [m,1] m1 M.out.2.2.2 (mV hmb.out.1 (by omega)) (by simp) (ae ⟨gg.W.heap.size,0,ai⟩) 2 _ (gI _ [m,1] 3 (by simp)) (by simp))).mono ?_
    rintro _ _ ⟨rfl,gg,rfl⟩
    obtain⟨m2,hm2⟩:∃r,r=min [m1,aK x.f2,aK x.f3].sum 1099511627776:=⟨_,rfl⟩
    have HM2:=I hm2
    clear hm2
    go_upto_region 10 with (fail)
    refine fU (n:=10) (S:=fun w'=>∃g':G _,w'=g'.W) (ds:=[]) #[J,J,J,J,J,J,J,J,J,J] (by kernel_rfl) rfl rfl ⟨mkG (gg.2.drew),rfl⟩ (fun hHeld=> ?_)
    obtain⟨gd,hgd⟩:=hHeld
    rw[hgd]
    clear hgd
    refine bB (i:=0) (N:=ae 27) (v:= ?_) (a':= ?_) #[af,J,J,J,J,J,J,J,J,J] rfl rfl (by kernel_rfl) (fun _ _ _ h=>h) (bc ⟨by rfl,?_⟩) ?_ ?_
    rotate_left
    ·intro w'
     go_simp
     with_reducible rfl
    rotate_left
    ·simp only[aw,aa,ag,ah,aO,aN]
     rfl
    refine bB (i:=1) (N:=ae 28) (v:= ?_) (a':= ?_) #[af,af,J,J,J,J,J,J,J,J] rfl rfl (by kernel_rfl) (fun _ _ _ h=>h) (bc ⟨by rfl,?_⟩) ?_ ?_
    rotate_left
    ·intro w'
     go_simp
     with_reducible rfl
    rotate_left
    ·simp only[aw,aa,ag,ah,aO,aN]
     rfl
    refine bB (i:=4) (N:=ae 31) (v:= ?_) (a':= ?_) #[af,af,J,J,af,J,J,J,J,J] rfl rfl (by kernel_rfl) (fun _ _ _ h=>h) (bc ⟨by rfl,?_⟩) ?_ ?_
    rotate_left
    ·intro w'
     go_simp
     with_reducible rfl
    rotate_left
    ·simp only[aw,aa,ag,ah,aO,aN]
     rfl
    refine dU (i:=2) (N:=ae 29) (v:= ?_) (a':= ?_) #[af,af,af,J,af,J,J,J,J,J] rfl rfl (by kernel_rfl) (fun _ _ _ h=>h) (bc ⟨by rfl,?_⟩) ⟨gd,rfl⟩ ?_ ?_
    rotate_left
    ·rintro w' ⟨g',rfl⟩
     go_simp
     with_reducible rfl
    rotate_left
    ·simp only[aw,aa,ag,ah,aO,aN]
     rfl
    refine dU (i:=5) (N:=ae 32) (v:= ?_) (a':= ?_) #[af,af,af,J,af,af,J,J,J,J] rfl rfl (by kernel_rfl) (fun _ _ _ h=>h) (bc ⟨by rfl,?_⟩) ⟨gd,rfl⟩ ?_ ?_
    rotate_left
    ·rintro w' ⟨g',rfl⟩
     go_simp
     with_reducible rfl
    rotate_left
    ·simp only[aw,aa,ag,ah,aO,aN]
     rfl
    refine kI (i:=3) (N:=ae 30) #[af,af,af,af,af,af,J,J,J,J] rfl rfl (by kernel_rfl) (by simp) (fun Kr hKr=> ?_)
    refine jT Tryz.func156 (by kernel_rfl) rfl #[.agg #[.int .i64 x.f2.f0,.int .u64 x.f2.f1,.string x.f2.f2,.slice A5 x.f2.f3.length c5]] (by rfl) rfl rfl (by(try simp only[cb,cm,cw]);first | done | rfl) ?_
    refine(weigh_v GD1.out.2.2.2.2.1 A5 c5 gd.W (Kd.aF K.out.2.1 (G.deep (g:=g) gd)) K.out.1).mono ?_
    rintro _ w9 ⟨rfl,hb⟩
    refine⟨_,rfl,?_⟩
    obtain⟨gd,rfl⟩:∃g':G _,w9=g'.W:=⟨mkG (gd.below.trans (hb.mono gd.below.size)),rfl⟩
    clear hb
    refine hKr.out _ _ ⟨gd,rfl⟩ (fun _=> ?_)
    clear hKr Kr
    refine cS (a':= ?_) ?_ ?_
    rotate_left
    ·show aw _ (ae 30) _ = _
     simp only[aw,aa,ag,ah,aO,aN]
     rfl
    refine kI (i:=6) (N:=ae 33) #[af,af,af,af,af,af,af,J,J,J] rfl rfl (by kernel_rfl) (by simp) (fun Kr hKr=> ?_)
    refine jT Tryz.func156 (by kernel_rfl) rfl #[.agg #[.int .i64 x.f3.f0,.int .u64 x.f3.f1,.string x.f3.f2,.slice A9 x.f3.f3.length c9]] (by rfl) rfl rfl (by(try simp only[cb,cm,cw]);first | done | rfl) ?_
    refine(weigh_v GD1.out.2.2.2.2.2 A9 c9 gd.W (Kd.aF K.out.2.2.2.1 (G.deep (g:=g) gd)) K.out.2.2.1).mono ?_
    rintro _ w9 ⟨rfl,hb⟩
    refine⟨_,rfl,?_⟩
    obtain⟨gd,rfl⟩:∃g':G _,w9=g'.W:=⟨mkG (gd.below.trans (hb.mono gd.below.size)),rfl⟩
    clear hb
    refine hKr.out _ _ ⟨gd,rfl⟩ (fun _=> ?_)
    clear hKr Kr
    refine cS (a':= ?_) ?_ ?_
    rotate_left
    ·show aw _ (ae 33) _ = _
     simp only[aw,aa,ag,ah,aO,aN]
     rfl
    refine kI (i:=7) (N:=ae 34) #[af,af,af,af,af,af,af,af,J,J] rfl rfl (by kernel_rfl) (by simp) (fun Kr hKr=> ?_)
    refine d5 (v:=.slice (ae ⟨gd.W.heap.size,0,ai⟩) 3 3) (w1:=gd.W.alloc (.cells #[.int .i64 (m1:Int),.int .i64 ((aK x.f2:Nat):Int),.int .i64 ((aK x.f3:Nat):Int)] 3)) (by rfl) (by first | (go_simp;done) | (go_simp;rfl)) ?_
    refine hKr.out _ _ ⟨mkG (G.ball gd _),rfl⟩ (fun _=> ?_)
    clear hKr Kr
    refine cS (a':= ?_) ?_ ?_
    rotate_left
    ·show aw _ (ae 34) _ = _
     simp only[aw,aa,ag,ah,aO,aN]
     rfl
    refine kI (i:=8) (N:=ae 35) #[af,af,af,af,af,af,af,af,af,J] rfl rfl (by kernel_rfl) (by simp) (fun Kr hKr=> ?_)
    refine jT Tryz.func155 (by kernel_rfl) rfl #[.slice (ae ⟨gd.W.heap.size,0,ai⟩) 3 3] (by rfl) rfl rfl (by(try simp only[cb,cm,cw]);first | done | rfl) ?_
    refine(dR [m1,aK x.f2,aK x.f3] m2 HM2.out (le_of3 hmb.out.2 GD1.out.2.2.2.2.1 GD1.out.2.2.2.2.2) (by simp) (ae ⟨gd.W.heap.size,0,ai⟩) 3 _ (gI _ [m1,aK x.f2,aK x.f3] 3 (by simp)) (by simp)).mono ?_
    rintro _ w9 ⟨rfl,hb⟩
    refine⟨_,rfl,?_⟩
    obtain⟨gd,rfl⟩:∃g':G _,w9=g'.W:=⟨mkG ((G.ball gd _).trans (hb.mono (G.ball gd _).size)),rfl⟩
    clear hb
    refine hKr.out _ _ ⟨gd,rfl⟩ (fun _=> ?_)
    clear hKr Kr
    refine cS (a':= ?_) ?_ ?_
    rotate_left
    ·show aw _ (ae 35) _ = _
     simp only[aw,aa,ag,ah,aO,aN]
     rfl
    refine bB (i:=9) (N:=ae 3) (v:= ?_) (a':= ?_) #[af,af,af,af,af,af,af,af,af,af] rfl rfl (by kernel_rfl) (fun _ _ _ h=>h) (bc ⟨by rfl,?_⟩) ?_ ?_
    rotate_left
    ·intro w'
     go_simp
     with_reducible rfl
    rotate_left
    ·simp only[aw,aa,ag,ah,aO,aN]
     rfl
    refine kF (by kernel_rfl) ?_
    go_wp2_with fail
    refine⟨⟨k+1,mkG (G.deep (g:=g) gd),by go_num,⟨m2,rfl,?_⟩,rfl,by omega⟩,by simp[intOf];omega⟩
    obtain⟨e1,e2,e3,_⟩:=M.out
    have e4:m2=min (m1+(aK x.f2+aK x.f3)) 1099511627776:=by simpa using HM2.out
    rw[e3,H0.out,if_neg (by decide),if_pos rfl,e4,e2,e1]
    exact cap_step _ _ _
   ·rw[h0]at q0
    have H0:=I h0
    clear h0
    go_upto_region 5 with (fail)
    refine aG ?_
    intro gg
    go_wp2_with fail
    refine(cK (g:=gg) (dR [m,1] m1 M.out.2.2.2 (mV hmb.out.1 (by omega)) (by simp) (ae ⟨gg.W.heap.size,0,ai⟩) 2 _ (gI _ [m,1] 3 (by simp)) (by simp))).mono ?_
    rintro _ _ ⟨rfl,gg,rfl⟩
    obtain⟨s1,hs1⟩:∃r,r=min (bS x.f6) 1099511627776:=⟨_,rfl⟩
    obtain⟨s2,hs2⟩:∃r,r=min (bS x.f7) 1099511627776:=⟨_,rfl⟩
    obtain⟨m2,hm2⟩:∃r,r=min [m1,aK x.f3,s1,s2].sum 1099511627776:=⟨_,rfl⟩
    have SB:=I (show s1<=1099511627776/\s2<=1099511627776 from⟨by rw[hs1];exact Nat.min_le_right _ _,by rw[hs2];exact Nat.min_le_right _ _⟩)
    have HM2:=I (ac hm2 (ac hs1 hs2))
    clear hm2 hs1 hs2
    go_upto_region 12 with (fail)
    refine fU (n:=13) (S:=fun w'=>∃g':G _,w'=g'.W) (ds:=[]) #[J,J,J,J,J,J,J,J,J,J,J,J,J] (by kernel_rfl) rfl rfl ⟨mkG (gg.2.drew),rfl⟩ (fun hHeld=> ?_)
    obtain⟨gd,hgd⟩:=hHeld
    rw[hgd]
    clear hgd
    refine bB (i:=0) (N:=ae 38) (v:= ?_) (a':= ?_) #[af,J,J,J,J,J,J,J,J,J,J,J,J] rfl rfl (by kernel_rfl) (fun _ _ _ h=>h) (bc ⟨by rfl,?_⟩) ?_ ?_
    rotate_left
    ·intro w'
     go_simp
     with_reducible rfl
    rotate_left
    ·simp only[aw,aa,ag,ah,aO,aN]
     rfl
    refine bB (i:=1) (N:=ae 39) (v:= ?_) (a':= ?_) #[af,af,J,J,J,J,J,J,J,J,J,J,J] rfl rfl (by kernel_rfl) (fun _ _ _ h=>h) (bc ⟨by rfl,?_⟩) ?_ ?_
    rotate_left
    ·intro w'
     go_simp
     with_reducible rfl
    rotate_left
    ·simp only[aw,aa,ag,ah,aO,aN]
     rfl
    refine bB (i:=4) (N:=ae 42) (v:= ?_) (a':= ?_) #[af,af,J,J,af,J,J,J,J,J,J,J,J] rfl rfl (by kernel_rfl) (fun _ _ _ h=>h) (bc ⟨by rfl,?_⟩) ?_ ?_
    rotate_left
    ·intro w'
     go_simp
     with_reducible rfl
    rotate_left
    ·simp only[aw,aa,ag,ah,aO,aN]
     rfl
    refine bB (i:=7) (N:=ae 45) (v:= ?_) (a':= ?_) #[af,af,J,J,af,J,J,af,J,J,J,J,J] rfl rfl (by kernel_rfl) (fun _ _ _ h=>h) (bc ⟨by rfl,?_⟩) ?_ ?_
    rotate_left
    ·intro w'
     go_simp
     with_reducible rfl
    rotate_left
    ·simp only[aw,aa,ag,ah,aO,aN]
     rfl
    refine dU (i:=2) (N:=ae 40) (v:= ?_) (a':= ?_) #[af,af,af,J,af,J,J,af,J,J,J,J,J] rfl rfl (by kernel_rfl) (fun _ _ _ h=>h) (bc ⟨by rfl,?_⟩) ⟨gd,rfl⟩ ?_ ?_
    rotate_left
    ·rintro w' ⟨g',rfl⟩
     go_simp
     with_reducible rfl
    rotate_left
    ·simp only[aw,aa,ag,ah,aO,aN]
     rfl
    refine dU (i:=5) (N:=ae 43) (v:= ?_) (a':= ?_) #[af,af,af,J,af,af,J,af,J,J,J,J,J] rfl rfl (by kernel_rfl) (fun _ _ _ h=>h) (bc ⟨by rfl,?_⟩) ⟨gd,rfl⟩ ?_ ?_
    rotate_left
    ·rintro w' ⟨g',rfl⟩
     go_simp
     with_reducible rfl
    rotate_left
    ·simp only[aw,aa,ag,ah,aO,aN]
     rfl
    refine dU (i:=8) (N:=ae 46) (v:= ?_) (a':= ?_) #[af,af,af,J,af,af,J,af,af,J,J,J,J] rfl rfl (by kernel_rfl) (fun _ _ _ h=>h) (bc ⟨by rfl,?_⟩) ⟨gd,rfl⟩ ?_ ?_
    rotate_left
    ·rintro w' ⟨g',rfl⟩
     go_simp
     with_reducible rfl
    rotate_left
    ·simp only[aw,aa,ag,ah,aO,aN]
     rfl
    refine kI (i:=3) (N:=ae 41) #[af,af,af,af,af,af,J,af,af,J,J,J,J] rfl rfl (by kernel_rfl) (by simp) (fun Kr hKr=> ?_)
    refine jT Tryz.func156 (by kernel_rfl) rfl #[.agg #[.int .i64 x.f3.f0,.int .u64 x.f3.f1,.string x.f3.f2,.slice A9 x.f3.f3.length c9]] (by rfl) rfl rfl (by(try simp only[cb,cm,cw]);first | done | rfl) ?_
    refine(weigh_v GD1.out.2.2.2.2.2 A9 c9 gd.W (Kd.aF K.out.2.2.2.1 (G.deep (g:=g) gd)) K.out.2.2.1).mono ?_
    rintro _ w9 ⟨rfl,hb⟩
    refine⟨_,rfl,?_⟩
    obtain⟨gd,rfl⟩:∃g':G _,w9=g'.W:=⟨mkG (gd.below.trans (hb.mono gd.below.size)),rfl⟩
    clear hb
    refine hKr.out _ _ ⟨gd,rfl⟩ (fun _=> ?_)
    clear hKr Kr
    refine cS (a':= ?_) ?_ ?_
    rotate_left
    ·show aw _ (ae 41) _ = _
     simp only[aw,aa,ag,ah,aO,aN]
     rfl
    refine kI (i:=6) (N:=ae 44) #[af,af,af,af,af,af,af,af,af,J,J,J,J] rfl rfl (by kernel_rfl) (by simp) (fun Kr hKr=> ?_)
    refine jT Tryz.func114 (by kernel_rfl) rfl #[.slice A12 x.f6.length c12] (by rfl) rfl rfl (by(try simp only[cb,cm,cw]);first | done | rfl) ?_
    refine(lK IH1.out.1 HM2.out.2.1 A12 c12 gd.W (Kd.aF K.out.2.2.2.2.2.1 (G.deep (g:=g) gd)) K.out.2.2.2.2.1).mono ?_
    rintro _ w9 ⟨rfl,hb⟩
    refine⟨_,rfl,?_⟩
    obtain⟨gd,rfl⟩:∃g':G _,w9=g'.W:=⟨mkG (gd.below.trans (hb.mono gd.below.size)),rfl⟩
    clear hb
    refine hKr.out _ _ ⟨gd,rfl⟩ (fun _=> ?_)
    clear hKr Kr
    refine cS (a':= ?_) ?_ ?_
    rotate_left
    ·show aw _ (ae 44) _ = _
     simp only[aw,aa,ag,ah,aO,aN]
     rfl
    refine kI (i:=9) (N:=ae 47) #[af,af,af,af,af,af,af,af,af,af,J,J,J] rfl rfl (by kernel_rfl) (by simp) (fun Kr hKr=> ?_)
    refine jT Tryz.func114 (by kernel_rfl) rfl #[.slice A13 x.f7.length c13] (by rfl) rfl rfl (by(try simp only[cb,cm,cw]);first | done | rfl) ?_
    refine(lK IH1.out.2 HM2.out.2.2 A13 c13 gd.W (Kd.aF K.out.2.2.2.2.2.2.2 (G.deep (g:=g) gd)) K.out.2.2.2.2.2.2.1).mono ?_
    rintro _ w9 ⟨rfl,hb⟩
    refine⟨_,rfl,?_⟩
    obtain⟨gd,rfl⟩:∃g':G _,w9=g'.W:=⟨mkG (gd.below.trans (hb.mono gd.below.size)),rfl⟩
    clear hb
    refine hKr.out _ _ ⟨gd,rfl⟩ (fun _=> ?_)
    clear hKr Kr
    refine cS (a':= ?_) ?_ ?_
    rotate_left
    ·show aw _ (ae 47) _ = _
     simp only[aw,aa,ag,ah,aO,aN]
     rfl
    refine kI (i:=10) (N:=ae 48) #[af,af,af,af,af,af,af,af,af,af,af,J,J] rfl rfl (by kernel_rfl) (by simp) (fun Kr hKr=> ?_)
    refine d5 (v:=.slice (ae ⟨gd.W.heap.size,0,ai⟩) 4 4) (w1:=gd.W.alloc (.cells #[.int .i64 (m1:Int),.int .i64 ((aK x.f3:Nat):Int),.int .i64 ((s1:Nat):Int),.int .i64 ((s2:Nat):Int)] 3)) (by rfl) (by first | (go_simp;done) | (go_simp;rfl)) ?_
    refine hKr.out _ _ ⟨mkG (G.ball gd _),rfl⟩ (fun _=> ?_)
    clear hKr Kr
    refine cS (a':= ?_) ?_ ?_
    rotate_left
    ·show aw _ (ae 48) _ = _
     simp only[aw,aa,ag,ah,aO,aN]
     rfl
    refine kI (i:=11) (N:=ae 49) #[af,af,af,af,af,af,af,af,af,af,af,af,J] rfl rfl (by kernel_rfl) (by simp) (fun Kr hKr=> ?_)
    refine jT Tryz.func155 (by kernel_rfl) rfl #[.slice (ae ⟨gd.W.heap.size,0,ai⟩) 4 4] (by rfl) rfl rfl (by(try simp only[cb,cm,cw]);first | done | rfl) ?_
    refine(dR [m1,aK x.f3,s1,s2] m2 HM2.out.1 (le_of4 hmb.out.2 GD1.out.2.2.2.2.2 SB.out.1 SB.out.2) (by simp) (ae ⟨gd.W.heap.size,0,ai⟩) 4 _ (gI _ [m1,aK x.f3,s1,s2] 3 (by simp)) (by simp)).mono ?_
    rintro _ w9 ⟨rfl,hb⟩
    refine⟨_,rfl,?_⟩
    obtain⟨gd,rfl⟩:∃g':G _,w9=g'.W:=⟨mkG ((G.ball gd _).trans (hb.mono (G.ball gd _).size)),rfl⟩
    clear hb
    refine hKr.out _ _ ⟨gd,rfl⟩ (fun _=> ?_)
    clear hKr Kr
    refine cS (a':= ?_) ?_ ?_
    rotate_left
    ·show aw _ (ae 49) _ = _
     simp only[aw,aa,ag,ah,aO,aN]
     rfl
    refine bB (i:=12) (N:=ae 3) (v:= ?_) (a':= ?_) #[af,af,af,af,af,af,af,af,af,af,af,af,af] rfl rfl (by kernel_rfl) (fun _ _ _ h=>h) (bc ⟨by rfl,?_⟩) ?_ ?_
    rotate_left
    ·intro w'
     go_simp
     with_reducible rfl
    rotate_left
    ·simp only[aw,aa,ag,ah,aO,aN]
     rfl
    refine kF (by kernel_rfl) ?_
    go_wp2_with fail
    refine⟨⟨k+1,mkG (G.deep (g:=g) gd),by go_num,⟨m2,rfl,?_⟩,rfl,by omega⟩,by simp[intOf];omega⟩
    obtain⟨e1,e2,e3,_⟩:=M.out
    have e4:m2=min (m1+(aK x.f3+(s1+s2))) 1099511627776:=by simpa using HM2.out.1
    rw[e3,H0.out,if_neg (by decide),if_neg (by decide),if_pos rfl,e4,e2,e1,HM2.out.2.1,HM2.out.2.2]
    exact cap_if _ _ _ _ _
   ·rw[h0]at q0
    have H0:=I h0
    clear h0
    go_upto_region 5 with (fail)
    refine aG ?_
    intro gg
    go_wp2_with fail
    refine(cK (g:=gg) (dR [m,1] m1 M.out.2.2.2 (mV hmb.out.1 (by omega)) (by simp) (ae ⟨gg.W.heap.size,0,ai⟩) 2 _ (gI _ [m,1] 3 (by simp)) (by simp))).mono ?_
    rintro _ _ ⟨rfl,gg,rfl⟩
    rcases cn x.f4 x.f5 with hlo | hlo
    ·obtain⟨s1,hs1⟩:∃r,r=min (bS x.f6) 1099511627776:=⟨_,rfl⟩
     obtain⟨q,hq⟩:∃r,r=min [1,s1].sum 1099511627776:=⟨_,rfl⟩
     obtain⟨nn,hnn⟩:∃n,n=(x.f5 - x.f4).toNat:=⟨_,rfl⟩
     obtain⟨tt,htt⟩:∃r,r=min (nn*q) 1099511627776:=⟨_,rfl⟩
     obtain⟨m2,hm2⟩:∃r,r=min [m1,tt].sum 1099511627776:=⟨_,rfl⟩
     have SB:=I (show s1<=1099511627776/\q<=1099511627776 from⟨by rw[hs1];exact Nat.min_le_right _ _,by rw[hq];exact Nat.min_le_right _ _⟩)
     have hz:IntKind.u64.wrap (x.f5 - x.f4)=(nn:Int):=by have:=GD1.out;rw[u64_in (by omega) (by omega),hnn];omega
     have hn:nn<18446744073709551616:=by have:=GD1.out;omega
     have HM2:=I (ac hm2 (ac hs1 (ac hq (ac htt (ac hz hn)))))
     have HNN:=I hnn
     clear hm2 hs1 hq htt hz hn hnn
     have hlo':x.f5 > x.f4:=hlo
     go_upto_region 15 with (fail)
     refine fU (n:=15) (S:=fun w'=>∃g':G _,w'=g'.W) (ds:=[]) #[J,J,J,J,J,J,J,J,J,J,J,J,J,J,J] (by kernel_rfl) rfl rfl ⟨mkG (gg.2.drew),rfl⟩ (fun hHeld=> ?_)
     obtain⟨gd,hgd⟩:=hHeld
     rw[hgd]
     clear hgd
     refine bB (i:=0) (N:=ae 57) (v:= ?_) (a':= ?_) #[af,J,J,J,J,J,J,J,J,J,J,J,J,J,J] rfl rfl (by kernel_rfl) (fun _ _ _ h=>h) (bc ⟨by rfl,?_⟩) ?_ ?_
     rotate_left
     ·intro w'
      go_simp
      with_reducible rfl
     rotate_left
     ·simp only[aw,aa,ag,ah,aO,aN]
      rfl
     refine bB (i:=1) (N:=ae 58) (v:= ?_) (a':= ?_) #[af,af,J,J,J,J,J,J,J,J,J,J,J,J,J] rfl rfl (by kernel_rfl) (fun _ _ _ h=>h) (bc ⟨by rfl,?_⟩) ?_ ?_
     rotate_left
     ·intro w'
      go_simp
      with_reducible rfl
     rotate_left
     ·simp only[aw,aa,ag,ah,aO,aN]
      rfl
     refine bB (i:=3) (N:=ae 60) (v:= ?_) (a':= ?_) #[af,af,J,af,J,J,J,J,J,J,J,J,J,J,J] rfl rfl (by kernel_rfl) (fun _ _ _ h=>h) (bc ⟨by rfl,?_⟩) ?_ ?_
     rotate_left
     ·intro w'
      go_simp
      with_reducible rfl
     rotate_left
     ·simp only[aw,aa,ag,ah,aO,aN]
      rfl
     refine bB (i:=6) (N:=ae 63) (v:= ?_) (a':= ?_) #[af,af,J,af,J,J,af,J,J,J,J,J,J,J,J] rfl rfl (by kernel_rfl) (fun _ _ _ h=>h) (bc ⟨by rfl,?_⟩) ?_ ?_
     rotate_left
     ·intro w'
      go_simp
      with_reducible rfl
     rotate_left
     ·simp only[aw,aa,ag,ah,aO,aN]
      rfl
     refine dU (i:=2) (N:=ae 59) (v:= ?_) (a':= ?_) #[af,af,af,af,J,J,af,J,J,J,J,J,J,J,J] rfl rfl (by kernel_rfl) (fun _ _ _ h=>h) (bc ⟨by rfl,?_⟩) ⟨gd,rfl⟩ ?_ ?_
     rotate_left
     ·rintro w' ⟨g',rfl⟩
      go_simp
      with_reducible rfl
     rotate_left
     ·simp only[aw,aa,ag,ah,aO,aN]
      rfl
     refine dU (i:=4) (N:=ae 61) (v:= ?_) (a':= ?_) #[af,af,af,af,af,J,af,J,J,J,J,J,J,J,J] rfl rfl (by kernel_rfl) (fun _ _ _ h=>h) (bc ⟨by rfl,?_⟩) ⟨gd,rfl⟩ ?_ ?_
     rotate_left
     ·rintro w' ⟨g',rfl⟩
      go_simp
      with_reducible rfl
     rotate_left
     ·simp only[aw,aa,ag,ah,aO,aN]
      rfl
     refine bB (i:=5) (N:=ae 62) (v:= ?_) (a':= ?_) #[af,af,af,af,af,af,af,J,J,J,J,J,J,J,J] rfl rfl (by kernel_rfl) (fun _ _ _ h=>h) (bc ⟨by rfl,?_⟩) ?_ ?_
     rotate_left
     ·intro w'
      go_simp
      with_reducible rfl
     rotate_left
     ·simp only[aw,aa,ag,ah,aO,aN]
      rfl
     refine dU (i:=7) (N:=ae 64) (v:= ?_) (a':= ?_) #[af,af,af,af,af,af,af,af,J,J,J,J,J,J,J] rfl rfl (by kernel_rfl) (fun _ _ _ h=>h) (bc ⟨by rfl,?_⟩) ⟨gd,rfl⟩ ?_ ?_
     rotate_left
     ·rintro w' ⟨g',rfl⟩
      go_simp
      with_reducible rfl
     rotate_left
     ·simp only[aw,aa,ag,ah,aO,aN]
      rfl
     refine kI (i:=8) (N:=ae 65) #[af,af,af,af,af,af,af,af,af,J,J,J,J,J,J] rfl rfl (by kernel_rfl) (by simp) (fun Kr hKr=> ?_)
     refine jT Tryz.func114 (by kernel_rfl) rfl #[.slice A12 x.f6.length c12] (by rfl) rfl rfl (by(try simp only[cb,cm,cw]);first | done | rfl) ?_
     refine(lK IH1.out.1 HM2.out.2.1 A12 c12 gd.W (Kd.aF K.out.2.2.2.2.2.1 (G.deep (g:=g) gd)) K.out.2.2.2.2.1).mono ?_
     rintro _ w9 ⟨rfl,hb⟩
     refine⟨_,rfl,?_⟩
     obtain⟨gd,rfl⟩:∃g':G _,w9=g'.W:=⟨mkG (gd.below.trans (hb.mono gd.below.size)),rfl⟩
     clear hb
     refine hKr.out _ _ ⟨gd,rfl⟩ (fun _=> ?_)
     clear hKr Kr
     refine cS (a':= ?_) ?_ ?_
     rotate_left
     ·show aw _ (ae 65) _ = _
      simp only[aw,aa,ag,ah,aO,aN]
      rfl
     refine kI (i:=9) (N:=ae 66) #[af,af,af,af,af,af,af,af,af,af,J,J,J,J,J] rfl rfl (by kernel_rfl) (by simp) (fun Kr hKr=> ?_)
     refine d5 (v:=.slice (ae ⟨gd.W.heap.size,0,ai⟩) 2 2) (w1:=gd.W.alloc (.cells #[.int .i64 1,.int .i64 ((s1:Nat):Int)] 3)) (by rfl) (by first | (go_simp;done) | (go_simp;rfl)) ?_
     refine hKr.out _ _ ⟨mkG (G.ball gd _),rfl⟩ (fun _=> ?_)
     clear hKr Kr
     refine cS (a':= ?_) ?_ ?_
     rotate_left
     ·show aw _ (ae 66) _ = _
      simp only[aw,aa,ag,ah,aO,aN]
      rfl
     refine kI (i:=10) (N:=ae 67) #[af,af,af,af,af,af,af,af,af,af,af,J,J,J,J] rfl rfl (by kernel_rfl) (by simp) (fun Kr hKr=> ?_)
     refine jT Tryz.func155 (by kernel_rfl) rfl #[.slice (ae ⟨gd.W.heap.size,0,ai⟩) 2 2] (by rfl) rfl rfl (by(try simp only[cb,cm,cw]);first | done | rfl) ?_
     refine(dR [1,s1] q HM2.out.2.2.1 (mV (by omega) SB.out.1) (by simp) (ae ⟨gd.W.heap.size,0,ai⟩) 2 _ (gI _ [1,s1] 3 (by simp)) (by simp)).mono ?_
     rintro _ w9 ⟨rfl,hb⟩
     refine⟨_,rfl,?_⟩
     obtain⟨gd,rfl⟩:∃g':G _,w9=g'.W:=⟨mkG ((G.ball gd _).trans (hb.mono (G.ball gd _).size)),rfl⟩
     clear hb
     refine hKr.out _ _ ⟨gd,rfl⟩ (fun _=> ?_)
     clear hKr Kr
     refine cS (a':= ?_) ?_ ?_
     rotate_left
     ·show aw _ (ae 67) _ = _
      simp only[aw,aa,ag,ah,aO,aN]
      rfl
     refine kI (i:=11) (N:=ae 68) #[af,af,af,af,af,af,af,af,af,af,af,af,J,J,J] rfl rfl (by kernel_rfl) (by simp) (fun Kr hKr=> ?_)
     refine jT Tryz.func157 (by kernel_rfl) rfl #[.int .u64 (IntKind.u64.wrap (x.f5 - x.f4)),.int .i64 ((q:Nat):Int)] (by rfl) rfl rfl (by(try simp only[cb,cm,cw]);first | done | rfl) ?_
     refine(timesZ_calls (IntKind.u64.wrap (x.f5 - x.f4)) nn q tt HM2.out.2.2.2.2.1 HM2.out.2.2.2.2.2 SB.out.2 HM2.out.2.2.2.1 gd.W).mono ?_
     rintro _ w9 ⟨rfl,hb⟩
     refine⟨_,rfl,?_⟩
     obtain⟨gd,rfl⟩:∃g':G _,w9=g'.W:=⟨mkG (gd.below.trans (hb.mono gd.below.size)),rfl⟩
     clear hb
     refine hKr.out _ _ ⟨gd,rfl⟩ (fun _=> ?_)
     clear hKr Kr
     refine cS (a':= ?_) ?_ ?_
     rotate_left
     ·show aw _ (ae 68) _ = _
      simp only[aw,aa,ag,ah,aO,aN]
      rfl
     refine kI (i:=12) (N:=ae 69) #[af,af,af,af,af,af,af,af,af,af,af,af,af,J,J] rfl rfl (by kernel_rfl) (by simp) (fun Kr hKr=> ?_)
     refine d5 (v:=.slice (ae ⟨gd.W.heap.size,0,ai⟩) 2 2) (w1:=gd.W.alloc (.cells #[.int .i64 (m1:Int),.int .i64 ((tt:Nat):Int)] 3)) (by rfl) (by first | (go_simp;done) | (go_simp;rfl)) ?_
     refine hKr.out _ _ ⟨mkG (G.ball gd _),rfl⟩ (fun _=> ?_)
     clear hKr Kr
     refine cS (a':= ?_) ?_ ?_
     rotate_left
     ·show aw _ (ae 69) _ = _
      simp only[aw,aa,ag,ah,aO,aN]
      rfl
     refine kI (i:=13) (N:=ae 70) #[af,af,af,af,af,af,af,af,af,af,af,af,af,af,J] rfl rfl (by kernel_rfl) (by simp) (fun Kr hKr=> ?_)
     refine jT Tryz.func155 (by kernel_rfl) rfl #[.slice (ae ⟨gd.W.heap.size,0,ai⟩) 2 2] (by rfl) rfl rfl (by(try simp only[cb,cm,cw]);first | done | rfl) ?_
     refine(dR [m1,tt] m2 HM2.out.1 (mV hmb.out.2 (by rw[HM2.out.2.2.2.1];exact Nat.min_le_right _ _)) (by simp) (ae ⟨gd.W.heap.size,0,ai⟩) 2 _ (gI _ [m1,tt] 3 (by simp)) (by simp)).mono ?_
     rintro _ w9 ⟨rfl,hb⟩
     refine⟨_,rfl,?_⟩
     obtain⟨gd,rfl⟩:∃g':G _,w9=g'.W:=⟨mkG ((G.ball gd _).trans (hb.mono (G.ball gd _).size)),rfl⟩
     clear hb
     refine hKr.out _ _ ⟨gd,rfl⟩ (fun _=> ?_)
     clear hKr Kr
     refine cS (a':= ?_) ?_ ?_
     rotate_left
     ·show aw _ (ae 70) _ = _
      simp only[aw,aa,ag,ah,aO,aN]
      rfl
     refine bB (i:=14) (N:=ae 3) (v:= ?_) (a':= ?_) #[af,af,af,af,af,af,af,af,af,af,af,af,af,af,af] rfl rfl (by kernel_rfl) (fun _ _ _ h=>h) (bc ⟨by rfl,?_⟩) ?_ ?_
     rotate_left
     ·intro w'
      go_simp
      with_reducible rfl
     rotate_left
     ·simp only[aw,aa,ag,ah,aO,aN]
      rfl
     refine kF (by kernel_rfl) ?_
     go_wp2_with fail
     refine⟨⟨k+1,mkG (G.deep (g:=g) gd),by go_num,⟨m2,rfl,?_⟩,rfl,by omega⟩,by simp[intOf];omega⟩
     obtain⟨e1,e2,e3,_⟩:=M.out
     have e4:m2=min (m1+tt) 1099511627776:=by simpa using HM2.out.1
     have e5:q=min (1+s1) 1099511627776:=by simpa using HM2.out.2.2.1
     rw[e3,H0.out,if_neg (by decide),if_neg (by decide),if_neg (by decide),if_pos rfl,e4,e2,e1,HM2.out.2.2.2.1,e5,HM2.out.2.1,HNN.out]
     exact cap_for _ _ _ _ (by decide)
    ·have hlo':¬x.f5 > x.f4:=by omega
     have HLO:=I hlo
     clear hlo
     go_wp2_with fail
     refine⟨⟨k+1,mkG (G.deep (g:=g) gg),by go_num,⟨m1,rfl,?_⟩,rfl,by omega⟩,by simp[intOf];omega⟩
     obtain⟨e1,e2,e3,_⟩:=M.out
     rw[e3,H0.out,if_neg (by decide),if_neg (by decide),if_neg (by decide),if_pos rfl,e2,e1,show(x.f5 - x.f4).toNat=0 by have:=HLO.out;omega,Nat.zero_mul]
     exact cap_one _ _
   ·have b1:(x.f0==1)=J:=by simpa using h1
    have b2:(x.f0==2)=J:=by simpa using h2
    have b3:(x.f0==3)=J:=by simpa using h3
    have b4:(x.f0==4)=J:=by simpa using h4
    have HN:=I (ac h1 (ac h2 (ac h3 h4)))
    clear h1 h2 h3 h4
    go_upto_region 5 with (fail)
    refine aG ?_
    intro gg
    go_wp2_with fail
    refine(cK (g:=gg) (dR [m,1] m1 M.out.2.2.2 (mV hmb.out.1 (by omega)) (by simp) (ae ⟨gg.W.heap.size,0,ai⟩) 2 _ (gI _ [m,1] 3 (by simp)) (by simp))).mono ?_
    rintro _ _ ⟨rfl,gg,rfl⟩
    go_wp2_with fail
    refine⟨⟨k+1,mkG (G.deep (g:=g) gg),by go_num,⟨m1,rfl,?_⟩,rfl,by omega⟩,by simp[intOf];omega⟩
    obtain⟨e1,e2,e3,_⟩:=M.out
    rw[e3,if_neg HN.out.1,if_neg HN.out.2.1,if_neg HN.out.2.2.1,if_neg HN.out.2.2.2,e2,e1]
    exact cap_one _ _
  ·go_wp2_with fail
   go_ret
   refine⟨?_,g.below⟩
   rw[hm,show k=l.length by omega,di]
   rfl
end
section
attribute [local go_sem] G.cell
theorem pM:∀(n:Nat) (l:List S119),cg l<=n->Ot.kD l->Ot.cH l<=1048576->SizeC 114 1099511627776 l:=by
 intro n
 induction n with
 |zero=>intro l h;cases l <;> simp at h <;> omega
 |succ n ih=>
  intro l h hg hb
  refine size_walk l (fun x hx=> ?_) fun x hx=> ?_
  ·have h1:=(Ot.cQ l).1 hg x hx
   have h2:=jP hx
   have h3:=bO x
   have h4:=aR x.f2
   have h5:=aR x.f3
   obtain⟨a,b,c,d,e,f,g,k⟩:=x
   rw[Ot.jA]at h1
   have h6:=okU_b h1.2.2.2.2.1
   have h7:=okU_b h1.2.2.2.2.2.1
   exact⟨h6.1,h7.1,h6.2,h7.2,by omega,by omega⟩
  ·have h1:=fp hx
   have h2:=(Ot.cQ l).1 hg x hx
   have h3:=jP hx
   have h4:=bO x
   obtain⟨a,b,c,d,e,f,g,k⟩:=x
   rw[Ot.jA]at h2
   simp only[S119.mk.sizeOf_spec]at h1
   exact⟨ih _ (by show cg g<=n;omega) h2.2.2.2.2.2.2.2.2.1 (by show Ot.cH g<=1048576;simp only at h4;omega),ih _ (by show cg k<=n;omega) h2.2.2.2.2.2.2.2.2.2 (by show Ot.cH k<=1048576;simp only at h4;omega)⟩
set_option maxRecDepth 100000 in
theorem c71_calls (nm:ByteArray)(wd ln:Int)(ds:List S70)(bd:List S119)(A3:Option Addr)(c3:Nat)(A4:Option Addr)(c4:Nat)(W:World)(hk:dE.C W A4 bd.length bd)(hl4:bd.length<=c4)(hg:Ot.kD bd)(hbk:Ot.cH bd<=1048576)(b:Bool)(hb:b=decide (bS bd<=65536)):
 Calls ar 201 #[.agg #[.string nm,.int .i64 wd,.int .i64 ln,.slice A3 ds.length c3,.slice A4 bd.length c4]] W fun e w'=>e=.returned (.bool b)/\Below W.heap.size W w':=by
 have gout:∀{o:Obj} (g:G (W.alloc o)),Below W.heap.size W g.W:=fun g=>((ak _ _).alloc (aj _) _).trans (g.below.mono (by simp))
 have HR:=I hb
 clear hb
 have HK:=I (ac hk (ac hg hbk))
 clear hk hg hbk
 obtain⟨m,hm⟩:∃m,m=min (bS bd) 1099511627776:=⟨_,rfl⟩
 have HM:=I hm
 clear hm
 go_enter Tryz.func201,Tryz.ntmps201
 go_upto_region 1 with (fail)
 refine aG ?_
 intro gg
 go_wp2_with fail
 refine(aC (g:=gg) (lK (pM _ bd (aj _) HK.out.2.1 HK.out.2.2) HM.out A4 c4 gg.W (Kd.aF HK.out.1 (gout gg)) hl4)).mono ?_
 rintro _ _ ⟨rfl,gg,rfl⟩
 by_cases h:bS bd<=65536
 ·have h':(m:Int)<=65536:=by have:=HM.out;omega
  have H:=I h
  clear h
  go_wp2_with fail
  go_ret
  exact⟨aB (by rw[HR.out,decide_eq_true H.out]),gout _⟩
 ·have h':¬(m:Int)<=65536:=by have:=HM.out;omega
  have H:=I h
  clear h
  go_wp2_with fail
  go_ret
  exact⟨aB (by rw[HR.out,decide_eq_false (show ¬bS bd<=65536 by have:=H.out;omega)];first | rfl | exact decide_eq_false (by have:=HM.out;have:=H.out;omega)),gout _⟩
set_option maxRecDepth 100000 in
theorem c52_calls (nm:ByteArray)(wd ln:Int)(ds:List S70)(bd:List S119)(A3:Option Addr)(c3:Nat)(A4:Option Addr)(c4:Nat)(W:World)(hd:k70.C W A3 ds.length ds)(i:Nat)(hi:i<ds.length)(b:Bool)(hb:b=bX ds i):
 Calls ar 182 #[.agg #[.string nm,.int .i64 wd,.int .i64 ln,.slice A3 ds.length c3,.slice A4 bd.length c4],.int .i64 (i:Int)] W fun e w'=>e=.returned (.bool b)/\Below W.heap.size W w':=by
 have gout:∀{o:Obj} (g:G (W.alloc o)),Below W.heap.size W g.W:=fun g=>((ak _ _).alloc (aj _) _).trans (g.below.mono (by simp))
 have HR:=I hb
 clear hb
 have hlm:=hd.2.1
 obtain⟨adr,A9d,c9d,e1,q0,q1,q2,q3,l9,g9⟩:=dW hd (i:Int) (ba _) (by omega)
 cases e1
 rw[au]at q0 q1 q2 q3
 have hi1:(i:Int)<(ds.length:Int):=by omega
 clear hd
 go_enter Tryz.func182,Tryz.ntmps182
 go_upto_region 1 with (fail)
 refine aG ?_
 intro gg
 have r0:∀g:G (gw0 gg),g.W.cell? (adr.add (i*4))=ae (.int .i64 (aI ds (i:Int)).f0):=fun g=>aE (gout g) q0
 have r2:∀g:G (gw0 gg),g.W.cell? ⟨(adr.add (i*4)).block,(adr.add (i*4)).off+2,ai⟩=ae (.int .i64 (aI ds (i:Int)).f2):=fun g=>aE (gout g) q2
 have r3:∀g:G (gw0 gg),g.W.cell? ⟨(adr.add (i*4)).block,(adr.add (i*4)).off+3,ai⟩=ae (.slice A9d (aI ds (i:Int)).f3.length c9d):=fun g=>aE (gout g) q3
 clear q0 q1 q2 q3
 by_cases z:(aI ds (i:Int)).f2=0
 ·have Z:=I z
  go_wp2_with fail
  go_ret
  exact⟨aB (by rw[HR.out];simp[bX,Z.out]),gout _⟩
 ·have bz:=bn z
  have Z:=I z
  clear z
  go_wp2_with fail
  refine(aC (g:=gg) (kM (aI ds (i:Int)).f2 256 gg.W (by decide) (cY (aI ds (i:Int)).f2) (by
   by_cases h:(aI ds (i:Int)).f2<=256
   ·rw[decide_eq_true h,jx]
   ·rw[decide_eq_false h,iz,pow_out (.inr (by omega))]))).mono ?_
  rintro _ _ ⟨rfl,gg,rfl⟩
  go_wp2_with fail
  go_ret
  exact⟨aB (by rw[HR.out];simp[bX,Z.out]),gout _⟩
set_option maxRecDepth 100000 in
theorem c53_calls (nm:ByteArray)(wd ln:Int)(ds:List S70)(bd:List S119)(A3:Option Addr)(c3:Nat)(A4:Option Addr)(c4:Nat)(W:World)(hd:k70.C W A3 ds.length ds)(i:Nat)(hi:i<ds.length)(b:Bool)(hb:b=bG ds i):
 Calls ar 183 #[.agg #[.string nm,.int .i64 wd,.int .i64 ln,.slice A3 ds.length c3,.slice A4 bd.length c4],.int .i64 (i:Int)] W fun e w'=>e=.returned (.bool b)/\Below W.heap.size W w':=by
 have gout:∀{o:Obj} (g:G (W.alloc o)),Below W.heap.size W g.W:=fun g=>((ak _ _).alloc (aj _) _).trans (g.below.mono (by simp))
 have HR:=I hb
 clear hb
 have hlm:=hd.2.1
 obtain⟨adr,A9d,c9d,e1,q0,q1,q2,q3,l9,g9⟩:=dW hd (i:Int) (ba _) (by omega)
 cases e1
 rw[au]at q0 q1 q2 q3
 have hi1:(i:Int)<(ds.length:Int):=by omega
 clear hd
 go_enter Tryz.func183,Tryz.ntmps183
 go_upto_region 1 with (fail)
 refine aG ?_
 intro gg
 have r0:∀g:G (gw0 gg),g.W.cell? (adr.add (i*4))=ae (.int .i64 (aI ds (i:Int)).f0):=fun g=>aE (gout g) q0
 have r2:∀g:G (gw0 gg),g.W.cell? ⟨(adr.add (i*4)).block,(adr.add (i*4)).off+2,ai⟩=ae (.int .i64 (aI ds (i:Int)).f2):=fun g=>aE (gout g) q2
 have r3:∀g:G (gw0 gg),g.W.cell? ⟨(adr.add (i*4)).block,(adr.add (i*4)).off+3,ai⟩=ae (.slice A9d (aI ds (i:Int)).f3.length c9d):=fun g=>aE (gout g) q3
 clear q0 q1 q2 q3
 by_cases z:(aI ds (i:Int)).f0=3
 ·have Z:=I z
  have bz:((aI ds (i:Int)).f0==3)=af:=by simp[z]
  clear z
  by_cases y:((aI ds (i:Int)).f3.length:Int)=(aI ds (i:Int)).f2
  ·have Y:=I y
   have by':(((aI ds (i:Int)).f3.length:Int) != (aI ds (i:Int)).f2)=J:=by simpa using y
   clear y
   refine aP (g:=gg) (by kernel_rfl) (by kernel_rfl) ?_
   repeat(go_big_quiet_step (fail))
   refine wpQuiet_nil ?_
   rintro _ ⟨gg,rfl⟩
   go_wp2_with fail
   go_ret
   exact⟨aB (by rw[HR.out];simp[bG,Y.out]),gout _⟩
  ·have Y:=I y
   have by':=bn y
   clear y
   refine aP (g:=gg) (by kernel_rfl) (by kernel_rfl) ?_
   repeat(go_big_quiet_step (fail))
   refine wpQuiet_nil ?_
   rintro _ ⟨gg,rfl⟩
   go_wp2_with fail
   go_ret
   exact⟨aB (by rw[HR.out];simp[bG,Z.out,Y.out]),gout _⟩
 ·have Z:=I z
  have bz:=bf z
  clear z
  refine aP (g:=gg) (by kernel_rfl) (by kernel_rfl) ?_
  repeat(go_big_quiet_step (fail))
  refine wpQuiet_nil ?_
  rintro _ ⟨gg,rfl⟩
  go_wp2_with fail
  go_ret
  exact⟨aB (by rw[HR.out];simp[bG,Z.out]),gout _⟩
end
section
attribute [local go_sem] G.cell
attribute [local go_sem] iR gH kR iZ gP gN iW iX
set_option maxRecDepth 100000 in
theorem inputs_calls (nm:ByteArray)(wd ln:Int)(ds:List S70)(bd:List S119)(A3:Option Addr)(c3:Nat)(A4:Option Addr)(c4:Nat)(W:World)(hd:k70.C W A3 ds.length ds)(hdl:ds.length<=1048576)(hw:∀d∈ds,d.f2=0\/cY d.f2=af):
 Calls ar 189 #[.agg #[.string nm,.int .i64 wd,.int .i64 ln,.slice A3 ds.length c3,.slice A4 bd.length c4]] W fun e w'=>e=.returned (.int .i64 (dA ds))/\Below W.heap.size W w':=by
 have gout:∀{o:Obj} (g:G (W.alloc o)),Below W.heap.size W g.W:=fun g=>((ak _ _).alloc (aj _) _).trans (g.below.mono (by simp))
 have HD:=I hd
 have HW:=I hw
 have HL:=I hdl
 have hlm:=hd.2.1
 clear hd hw hdl
 go_enter Tryz.func189,Tryz.ntmps189
 go_upto_region 2 with (fail)
 refine aG ?_
 intro gg
 have goutW:∀(g:G (gw0 gg)),Below W.heap.size W g.W:=fun g=>gout g
 go_wp2_with fail
 go_loopw [9,3] (fun i n X=>∃(k:Nat) (m:Int) (g:G (gw0 gg)),i=.int .i64 k/\n=.int .i64 m/\X=g.W/\k<=ds.length/\Aside0 (m=dA (ds.take k)/\0<=m/\m<=256*(k:Int))) (fun i _ _=>ds.length - (intOf i).toNat)
 case atStart=>exact⟨0,0,gg,rfl,rfl,rfl,bg _,⟨by simp[dA],by omega,by omega⟩⟩
 case round=>
  obtain⟨k,m,gx,rfl,rfl,rfl,hk,HK⟩:=hrel
  by_cases hlt:k<ds.length
  ·obtain⟨adr,A9d,c9d,e1,q0,q1,q2,q3,l9,g9⟩:=dW HD.out (k:Int) (ba _) (by omega)
   cases e1
   rw[au]at q0 q1 q2 q3
   replace q0:=aE (goutW gx) q0
   replace q1:=aE (goutW gx) q1
   replace q2:=aE (goutW gx) q2
   replace q3:=aE (goutW gx) q3
   clear l9 g9
   have hi1:(k:Int)<(ds.length:Int):=by omega
   have T:=I (congrArg dA (pN hlt))
   have WL:=I (ac (words_le (HW.out _ (eE hlt))) (HW.out _ (eE hlt)))
   go_upto_region 5 with (fail)
   refine aG ?_
   intro g2
   have goutX:∀(g:G (gw0 g2)),Below (gw0 gg).heap.size (gw0 gg) g.W:=fun g=>(gx.below.alloc gx.below.size _).trans (g.below.mono (bk gx.below.size (by simp[gw0])))
   have KS:=I (show ∀z,z=dA (ds.take k)+(if isIn (aI ds (k:Int))=af then cO (aI ds (k:Int))else 0)->z=dA (ds.take (k+1)) from fun z hz=>by have h:=T.out;rw[lD]at h;rw[h,hz])
   have HV:=I (show wrap64 (m+if(aI ds (k:Int)).f2<1 then 1 else(aI ds (k:Int)).f2)=m+cO (aI ds (k:Int)) by
    have h1:=WL.out.1
    have h2:=WL.out.2
    have h3:=HK.out
    have h4:=HL.out
    have e:(if(aI ds (k:Int)).f2<1 then 1 else(aI ds (k:Int)).f2)=cO (aI ds (k:Int)):=by
     unfold cO
     rcases h2 with h2 | h2
     ·rw[h2];rfl
     ·have h5:=o8 h2
      rw[if_neg (by omega),if_neg (by omega)]
    rw[e]
    exact jC (by omega) (by omega))
   by_cases f1:(aI ds (k:Int)).f0=1
   ·have b1:((aI ds (k:Int)).f0==1)=af:=by simp[f1]
    have FF:=I f1
    clear f1
    go_wp2_with fail
    refine⟨⟨k+1,m+cO (aI ds (k:Int)),mkG (goutX g2),by go_num,by rw[HV.out],rfl,by omega,⟨KS.out _ (by rw[HK.out.1,if_pos (by simp[isIn,FF.out])]),by have h1:=HK.out;have h2:=WL.out.1;omega,by have h1:=HK.out;have h2:=WL.out.1;omega⟩⟩,by simp[intOf];omega⟩
   ·have b1:=bf f1
    by_cases f2:(aI ds (k:Int)).f0=2
    ·have b2:((aI ds (k:Int)).f0==2)=af:=by simp[f2]
     have FF:=I f2
     clear f1 f2
     go_wp2_with fail
     refine⟨⟨k+1,m+cO (aI ds (k:Int)),mkG (goutX g2),by go_num,by rw[HV.out],rfl,by omega,⟨KS.out _ (by rw[HK.out.1,if_pos (by simp[isIn,FF.out])]),by have h1:=HK.out;have h2:=WL.out.1;omega,by have h1:=HK.out;have h2:=WL.out.1;omega⟩⟩,by simp[intOf];omega⟩
    ·have b2:=bf f2
     have FF:=I (ac f1 f2)
     clear f1 f2
     go_wp2_with fail
     refine⟨⟨k+1,m,mkG (goutX g2),by go_num,rfl,rfl,by omega,⟨KS.out _ (by rw[HK.out.1,if_neg (by simp[isIn,FF.out.1,FF.out.2])];simp),by have h1:=HK.out;omega,by have h1:=HK.out;omega⟩⟩,by simp[intOf];omega⟩
  ·have hi1:¬(k:Int)<(ds.length:Int):=by omega
   have M9:=I (show m=dA ds by have h:=HK.out.1;rw[show k=ds.length by omega,di]at h;exact h)
   go_wp2_with fail
   go_ret
   exact⟨by rw[←M9.out];rfl,goutW _⟩
set_option maxRecDepth 100000 in
theorem c58_calls (nm:ByteArray)(wd ln:Int)(ds:List S70)(bd:List S119)(A3:Option Addr)(c3:Nat)(A4:Option Addr)(c4:Nat)(W:World)(hd:k70.C W A3 ds.length ds)(hdl:ds.length<=1048576)(hw:∀d∈ds,d.f2=0\/cY d.f2=af)(b:Bool)(hb:b=decide (dA ds<=4096)):
 Calls ar 188 #[.agg #[.string nm,.int .i64 wd,.int .i64 ln,.slice A3 ds.length c3,.slice A4 bd.length c4]] W fun e w'=>e=.returned (.bool b)/\Below W.heap.size W w':=by
 have gout:∀{o:Obj} (g:G (W.alloc o)),Below W.heap.size W g.W:=fun g=>((ak _ _).alloc (aj _) _).trans (g.below.mono (by simp))
 have HR:=I hb
 have HD:=I (ac hd (ac hdl hw))
 clear hb hd hdl hw
 go_enter Tryz.func188,Tryz.ntmps188
 go_upto_region 1 with (fail)
 refine aG ?_
 intro gg
 go_wp2_with fail
 refine(aC (g:=gg) (inputs_calls nm wd ln ds bd A3 c3 A4 c4 gg.W (Kd.aF HD.out.1 (gout gg)) HD.out.2.1 HD.out.2.2)).mono ?_
 rintro _ _ ⟨rfl,gg,rfl⟩
 go_wp2_with fail
 go_ret
 exact⟨aB (by rw[HR.out]),gout _⟩
end
section
attribute [local go_sem] G.cell
theorem find_qi {A3:Option Addr}{ds:List S70}{s:ByteArray}{q:Option Addr}(hq:qOf A3 ds s=q){k:Nat}(hk:k=ds.length)(nm:ByteArray)(wd ln:Int)(c3:Nat)(A4:Option Addr)(n4 c4:Nat)(w:World)(hd:k70.C w A3 ds.length ds)(hld:ds.length<=c3):
 Calls ar 181 #[.agg #[.string nm,.int .i64 wd,.int .i64 ln,.slice A3 k c3,.slice A4 n4 c4],.string s] w fun e w'=>e=.returned (.pointer q)/\Below w.heap.size w w':=by
 subst hk
 exact hq ▸ find_q nm wd ln ds A3 c3 A4 n4 c4 s w hd hld
theorem twice_find (ds:List S70)(i:Nat)(hi:i<ds.length):dB ds i=(cD (ds.take i) (aI ds (i:Int)).f1).isSome:=by
 unfold dB cD
 have hl:(ds.take i).length=i:=by simp;omega
 rw[hl]
 congr 1
 refine firstN_congr fun j hj=> ?_
 have e:aI (ds.take i) (j:Int)=aI ds (j:Int):=by
  unfold aI
  rw[au,av,av,jr,if_pos hj]
 rw[e]
set_option maxRecDepth 100000 in
theorem c50_calls (nm:ByteArray)(wd ln:Int)(ds:List S70)(bd:List S119)(A3:Option Addr)(c3:Nat)(A4:Option Addr)(c4:Nat)(W:World)(hd:k70.C W A3 ds.length ds)(hld:ds.length<=c3)(i:Nat)(hi:i<ds.length)(b:Bool)(hb:b=dB ds i):
 Calls ar 180 #[.agg #[.string nm,.int .i64 wd,.int .i64 ln,.slice A3 ds.length c3,.slice A4 bd.length c4],.int .i64 (i:Int)] W fun e w'=>e=.returned (.bool b)/\Below W.heap.size W w':=by
 have gout:∀{o:Obj} (g:G (W.alloc o)),Below W.heap.size W g.W:=fun g=>((ak _ _).alloc (aj _) _).trans (g.below.mono (by simp))
 have HR:=I (hb.trans (twice_find ds i hi))
 clear hb
 have hlm:=hd.2.1
 have HTK:=I (Kd.C_take hd (show i<=ds.length by omega))
 have HLC:=I (show(ds.take i).length<=c3 by simp;omega)
 obtain⟨adr,A9d,c9d,e1,q0,q1,q2,q3,l9,g9⟩:=dW hd (i:Int) (ba _) (by omega)
 cases e1
 rw[au]at q1
 have hi1:(i:Int)<(ds.length:Int):=by omega
 have hi2:(i:Int)<=(c3:Int):=by omega
 have HD:=I hd
 have hsl:∀X:World,(Instr.slice 22 (.slice (ae adr) ds.length c3) ai (ae (.int .i64 (i:Int))) ai).run ar X=.ok (.slice (ae adr) i c3) X:=by
  intro X
  go_simp
  try simp
 clear hd q0 q2 q3 l9 g9
 go_enter Tryz.func180,Tryz.ntmps180
 go_upto_region 1 with (fail)
 refine aG ?_
 intro gg
 have r1:∀g:G (gw0 gg),g.W.cell? ⟨(adr.add (i*4)).block,(adr.add (i*4)).off+1,ai⟩=ae (.string (aI ds (i:Int)).f1):=fun g=>aE (gout g) q1
 clear q1
 rcases aJ ((cD (ds.take i) (aI ds (i:Int)).f1).isNone)with hn | hn
 ·have hq:=qOf_none (A3:=ae adr) hn
  have HN:=I (show(cD (ds.take i) (aI ds (i:Int)).f1).isSome=J by cases hf:cD (ds.take i) (aI ds (i:Int)).f1 with | none=>rfl | some j=>rw[hf]at hn;cases hn)
  have HQ:=I hq
  clear hn hq
  refine aP (g:=gg) (by kernel_rfl) (by kernel_rfl) ?_
  repeat(go_big_quiet_step (fail))
  go_big_quiet_step (first | (go_at_call 181;exact aC (find_qi HQ.out (by simp;omega) _ _ _ _ _ _ _ _ (Kd.aF HTK.out (gout _)) HLC.out)))
  repeat(go_big_quiet_step (fail))
  refine wpQuiet_nil ?_
  rintro _ ⟨gg,rfl⟩
  go_wp2_with fail
  go_ret
  exact⟨aB (by rw[HR.out,HN.out]),gout _⟩
 ·obtain⟨qa,hq⟩:=qOf_some HTK.out hn
  have HN:=I (show(cD (ds.take i) (aI ds (i:Int)).f1).isSome=af by cases hf:cD (ds.take i) (aI ds (i:Int)).f1 with | none=>rw[hf]at hn;cases hn | some j=>rfl)
  have HQ:=I hq
  clear hn hq
  refine aP (g:=gg) (by kernel_rfl) (by kernel_rfl) ?_
  repeat(go_big_quiet_step (fail))
  go_big_quiet_step (first | (go_at_call 181;exact aC (find_qi HQ.out (by simp;omega) _ _ _ _ _ _ _ _ (Kd.aF HTK.out (gout _)) HLC.out)))
  repeat(go_big_quiet_step (fail))
  refine wpQuiet_nil ?_
  rintro _ ⟨gg,rfl⟩
  go_wp2_with fail
  go_ret
  exact⟨aB (by rw[HR.out,HN.out]),gout _⟩
end
section
attribute [local go_sem] G.cell
set_option maxRecDepth 100000 in
theorem neg_calls (wd x:Int)(bp:Nat)(W:World)(hc:W.cell? ⟨bp,1,ai⟩=ae (.int .i64 wd))(h0:0<=wd)(hx:0<=x)(b:Bool)(hb:fY wd x=b):
 Calls ar 186 #[.int .u64 x,.pointer (ae ⟨bp,0,ai⟩)] W fun e w'=>e=.returned (.bool (!b))/\Below W.heap.size W w':=by
 go_enter Tryz.func186,Tryz.ntmps186
 go_upto_region 1 with (fail)
 refine aG ?_
 intro gg
 have hc2:=aE gg.below hc
 clear hc
 go_wp2_with fail
 refine(aC (g:=gg) (lR wd x gg.W h0 hx b hb)).mono ?_
 rintro _ _ ⟨rfl,gg,rfl⟩
 go_wp2_with fail
 go_ret
 exact⟨rfl,gg.below⟩
def indexS (wd:Int)(l:List Int):Int:=match aZ l.length (fun j=> !fY wd (l.getD j 0))with
 |some i=>(i:Int)
 |none=> -1
set_option maxRecDepth 100000 in
theorem index_calls (wd:Int)(l:List Int)(bp:Nat)(A:Option Addr)(c:Nat)(W:World)(hc:W.cell? ⟨bp,1,ai⟩=ae (.int .i64 wd))(h0:0<=wd)(hx:∀v∈l,0<=v)(hl:(Kd.int .u64).C W A l.length l)(hlc:l.length<=c)(r:Int)(hr:r=indexS wd l):
 Calls ar 248 #[.slice A l.length c,.func (.func 186) #[] #[.pointer (ae ⟨bp,0,ai⟩)]] W fun e w'=>e=.returned (.int .i64 r)/\Below W.heap.size W w':=by
 have HC:=I hc
 have HX:=I hx
 have HL:=I hl
 have HR:=I hr
 have hlm:=hl.2.1
 clear hc hx hl hr
 go_enter Tryz.func248,Tryz.ntmps248
 go_wp2_with fail
 go_loopw [8] (fun i X=>∃(k:Nat) (g:G W),i=.int .i64 k/\X=g.W/\k<=l.length/\Aside0 (∀j,j<k->(!fY wd (l.getD j 0))=J)) (fun i _=>l.length - (intOf i).toNat)
 case atStart=>exact⟨0,⟨W,ak _ _⟩,rfl,rfl,bg _,⟨fun j hj=>absurd hj (ck _)⟩⟩
 case round=>
  obtain⟨k,gx,rfl,rfl,hk,HK⟩:=hrel
  by_cases hlt:k<l.length
  ·obtain⟨adv,cs9,eA,ec9,eK9,hc9⟩:=Kd.nK (d:=Kd.int .u64) HL.out (0:Int) (k:Int) (ba _) (by omega)
   cases eA
   have eK9':cs9=[.int .u64 (l.getD (k:Int).toNat 0)]:=eK9
   subst eK9'
   have s0:=hc9 0 _ rfl
   rw[au]at s0
   clear hc9 eK9 ec9
   replace s0:=aE gx.below s0
   have t0:gx.W.cell? (adv.add (k*1+0))=ae (.int .u64 (l.getD k 0)):=s0
   simp only[gh,fe]at t0
   clear s0
   have hk1:(k:Int)<(l.length:Int):=by omega
   have hv:=I (HX.out _ (oR hlt))
   obtain⟨z,hz⟩:∃z,l.getD k 0=z:=⟨_,rfl⟩
   rw[hz]at hv t0
   have HZ:=I hz
   clear hz
   go_wp2_with fail
   rcases aJ (fY wd z)with hf | hf
   ·have HF:=I hf
    clear hf
    refine(aC (g:=gx) (neg_calls wd z bp gx.W (aE gx.below HC.out) h0 hv.out af HF.out)).mono ?_
    rintro _ _ ⟨rfl,g2,rfl⟩
    go_wp2_with fail
    exact⟨⟨k+1,g2,by go_num,rfl,by omega,⟨fun j hj=>(fw (j=k)).elim (fun h=>by rw[h,HZ.out,HF.out];rfl) (fun h=>HK.out j (by omega))⟩⟩,by simp[intOf];omega⟩
   ·have HF:=I hf
    clear hf
    refine(aC (g:=gx) (neg_calls wd z bp gx.W (aE gx.below HC.out) h0 hv.out J HF.out)).mono ?_
    rintro _ _ ⟨rfl,g2,rfl⟩
    go_wp2_with fail
    go_ret
    have e:r=(k:Int):=by rw[HR.out];unfold indexS;rw[cC hlt (by rw[HZ.out,HF.out];rfl) HK.out]
    exact⟨by rw[e];rfl,g2.below⟩
  ·have hk1:¬(k:Int)<(l.length:Int):=by omega
   go_wp2_with fail
   go_ret
   have e:r= -1:=by rw[HR.out];unfold indexS;rw[bH fun j hj=>HK.out j (by omega)]
   exact⟨by rw[e];rfl,gx.below⟩
theorem index_any (wd:Int)(l:List Int):decide (0<=indexS wd l)=l.any (fun v=> !fY wd v):=by
 unfold indexS
 rcases dC l.length (fun j=> !fY wd (l.getD j 0))with ⟨h1,h2⟩ | ⟨i,h0,h1,h2,_⟩
 ·rw[h1]
  symm
  rw[show decide ((0:Int)<= -1)=J by decide,List.any_eq_false]
  intro v hv
  obtain⟨j,hj,rfl⟩:=gi hv
  have:=h2 j hj
  simp only[av,ay hj]at this
  simpa using this
 ·rw[h1]
  symm
  rw[show decide ((0:Int)<=(i:Int))=af by simp,List.any_eq_true]
  exact⟨_,oR h0,h2⟩
set_option maxRecDepth 100000 in
theorem contains_calls (wd:Int)(l:List Int)(bp:Nat)(A:Option Addr)(c:Nat)(W:World)(hc:W.cell? ⟨bp,1,ai⟩=ae (.int .i64 wd))(h0:0<=wd)(hx:∀v∈l,0<=v)(hl:(Kd.int .u64).C W A l.length l)(hlc:l.length<=c)(b:Bool)(hb:b=l.any (fun v=> !fY wd v)):
 Calls ar 185 #[.slice A l.length c,.func (.func 186) #[] #[.pointer (ae ⟨bp,0,ai⟩)]] W fun e w'=>e=.returned (.bool b)/\Below W.heap.size W w':=by
 have H:=I (ac hc (ac hx hl))
 obtain⟨r,hr⟩:∃r,r=indexS wd l:=⟨_,rfl⟩
 have HR:=I hr
 have HB:=I (hb.trans (index_any wd l).symm)
 clear hc hx hl hr hb
 go_enter Tryz.func185,Tryz.ntmps185
 go_upto_region 1 with (fail)
 refine aG ?_
 intro gg
 go_wp2_with fail
 refine(aC (g:=gg) (index_calls wd l bp A c gg.W (aE gg.below H.out.1) h0 H.out.2.1 (Kd.aF H.out.2.2 gg.below) hlc r HR.out)).mono ?_
 rintro _ _ ⟨rfl,gg,rfl⟩
 rcases cn r 0 with hn | hn
 ·have hn':¬r ≥ 0:=by omega
  have HN:=I hn
  go_wp2_with fail
  go_ret
  exact⟨aB (by rw[HB.out,←HR.out] <;> (symm;exact decide_eq_false (by have:=HN.out;omega))),gg.below⟩
 ·have hn':r ≥ 0:=hn
  have HN:=I hn
  go_wp2_with fail
  go_ret
  exact⟨aB (by rw[HB.out,←HR.out] <;> (symm;exact decide_eq_true HN.out)),gg.below⟩
set_option maxRecDepth 100000 in
theorem c54_calls (nm:ByteArray)(wd ln:Int)(ds:List S70)(bd:List S119)(A3:Option Addr)(c3:Nat)(A4:Option Addr)(c4:Nat)(W:World)(hd:k70.C W A3 ds.length ds)(h0:0<=wd)(hv:∀d∈ds,∀v∈d.f3,0<=v)(i:Nat)(hi:i<ds.length)(b:Bool)(hb:b=cM wd ds i):
 Calls ar 184 #[.agg #[.string nm,.int .i64 wd,.int .i64 ln,.slice A3 ds.length c3,.slice A4 bd.length c4],.int .i64 (i:Int)] W fun e w'=>e=.returned (.bool b)/\Below W.heap.size W w':=by
 have hmf:∀(fn:Fn) (first cap:Array Value) (w:World),(Instr.makeFunc fn first cap).run ar w=.ok (.func fn first cap) w:=fun _ _ _ _=>rfl
 have gout:∀{o:Obj} (g:G (W.alloc o)),Below W.heap.size W g.W:=fun g=>((ak _ _).alloc (aj _) _).trans (g.below.mono (by simp))
 have HR:=I hb
 have HV:=I (hv _ (eE hi))
 have hlm:=hd.2.1
 obtain⟨adr,A9d,c9d,e1,q0,q1,q2,q3,l9,g9⟩:=dW hd (i:Int) (ba _) (by omega)
 cases e1
 rw[au]at q3
 have hi1:(i:Int)<(ds.length:Int):=by omega
 have VAL:=I (ac l9 g9)
 clear hb hv hd q0 q1 q2 l9 g9
 go_enter Tryz.func184,Tryz.ntmps184
 go_upto_region 1 with (fail)
 refine aG ?_
 intro gg
 have r3:=aE (gout gg) q3
 have x1:=I (show gg.W.cell? ⟨W.heap.size,1,ai⟩=ae (.int .i64 wd) from(gg.below.cell (p:=⟨W.heap.size,1,ai⟩) (by simp)).trans (by simp[go_sem]))
 clear q3
 go_wp2_with fail
 refine(aC (g:=gg) (contains_calls wd (aI ds (i:Int)).f3 W.heap.size A9d c9d gg.W x1.out h0 HV.out (Kd.aF VAL.out.2 (gout gg)) VAL.out.1 b HR.out)).mono ?_
 rintro _ _ ⟨rfl,gg,rfl⟩
 go_wp2_with fail
 go_ret
 exact⟨rfl,gout _⟩
end
theorem kX:∀(L:List Obj) (W:World),Below W.heap.size W (L.foldl World.alloc W)
 | [],W=>ak _ _
 |o::r,W=>((ak _ _).alloc (aj _) o).trans ((kX r (W.alloc o)).mono (by simp))
theorem lT:∀(L:List Obj) (W:World) (i:Nat),i<L.length->(L.foldl World.alloc W).heap[W.heap.size+i]? =L[i]?
 | [],_,_,h=>by simp at h
 |o::r,W,0,_=>by
  rw[List.foldl_cons,fe,(kX r (W.alloc o)).block W.heap.size (by simp)]
  exact aY W o
 |o::r,W,i+1,h=>by
  have e:=lT r (W.alloc o) i (by simpa using h)
  have hs:(W.alloc o).heap.size=W.heap.size+1:=by simp
  rw[hs]at e
  rw[List.foldl_cons,show W.heap.size+(i+1)=W.heap.size+1+i by omega]
  simpa using e
def clL (b:Nat):List Obj:=[.cells #[.func (.func 75) #[] #[]] 33,.cells #[.func (.func 175) #[] #[]] 33,.cells #[.func (.func 177) #[] #[]] 33,.cells #[.func (.func 178) #[] #[]] 33,.cells #[.func (.func 180) #[] #[]] 55,.cells #[.func (.func 182) #[] #[]] 55,.cells #[.func (.func 183) #[] #[]] 55,.cells #[.func (.func 184) #[] #[]] 55,.cells #[.func (.func 188) #[] #[]] 33,.cells #[.func (.func 191) #[] #[]] 240,.cells #[.func (.func 193) #[] #[]] 240,.cells #[.func (.func 196) #[] #[]] 240,.cells #[.func (.func 198) #[] #[]] 240,.cells #[.func (.func 199) #[] #[]] 240,.cells #[.func (.func 200) #[] #[]] 240,.cells #[.func (.func 201) #[] #[]] 33,.cells #[.int .i64 1,.func (.func 246) #[] #[.pointer (ae ⟨b+0,0,ai⟩)],.int .i64 5,.func (.func 246) #[] #[.pointer (ae ⟨b+1,0,ai⟩)],.int .i64 163,.func (.func 246) #[] #[.pointer (ae ⟨b+2,0,ai⟩)],.int .i64 4,.func (.func 246) #[] #[.pointer (ae ⟨b+3,0,ai⟩)],.int .i64 160,.func (.func 247) #[] #[.pointer (ae ⟨b+4,0,ai⟩)],.int .i64 163,.func (.func 247) #[] #[.pointer (ae ⟨b+5,0,ai⟩)],.int .i64 164,.func (.func 247) #[] #[.pointer (ae ⟨b+6,0,ai⟩)],.int .i64 165,.func (.func 247) #[] #[.pointer (ae ⟨b+7,0,ai⟩)],.int .i64 169,.func (.func 246) #[] #[.pointer (ae ⟨b+8,0,ai⟩)],.int .i64 152,.func (.func 249) #[] #[.pointer (ae ⟨b+9,0,ai⟩)],.int .i64 161,.func (.func 249) #[] #[.pointer (ae ⟨b+10,0,ai⟩)],.int .i64 162,.func (.func 249) #[] #[.pointer (ae ⟨b+11,0,ai⟩)],.int .i64 165,.func (.func 249) #[] #[.pointer (ae ⟨b+12,0,ai⟩)],.int .i64 166,.func (.func 249) #[] #[.pointer (ae ⟨b+13,0,ai⟩)],.int .i64 167,.func (.func 249) #[] #[.pointer (ae ⟨b+14,0,ai⟩)],.int .i64 168,.func (.func 246) #[] #[.pointer (ae ⟨b+15,0,ai⟩)]] 190]
set_option maxRecDepth 100000 in
theorem clauses_calls (W:World):Calls ar 128 #[] W fun e w'=>e=.returned (.slice (ae ⟨W.heap.size+16,0,ai⟩) 16 16)/\w'=(clL W.heap.size).foldl World.alloc W:=by
 have hmf:∀(fn:Fn) (first cap:Array Value) (w:World),(Instr.makeFunc fn first cap).run ar w=.ok (.func fn first cap) w:=fun _ _ _ _=>rfl
 go_enter Tryz.func128,Tryz.ntmps128
 go_wp2
 go_ret
 exact⟨rfl,rfl⟩
section
attribute [local go_sem] G.cell
set_option maxRecDepth 100000 in
theorem cl12_calls {Wb:World}(nm:ByteArray)(wd ln:Int)(ds:List S70)(bd:List S119)(A3:Option Addr)(c3:Nat)(A4:Option Addr)(c4:Nat)(hp:ProgAt Wb ds bd A3 c3 A4 c4)(hd0:∀d∈ds,0<=d.f2)(W:World)(n:Nat)(dp sp ep:Value)(dI:Int)(lp:Value)(t:Th)(hR:RT t)(hB:Below Wb.heap.size Wb W)(ht:ThP Wb W dp sp ep dI lp t)(h11:kG ds t=J)(b:Bool)(hb:b=bad12 ds t):
 Calls ar 196 #[.agg #[.string nm,.int .i64 wd,.int .i64 ln,.slice A3 ds.length c3,.slice A4 bd.length c4],.agg #[.int .i64 n,dp,sp,ep,.int .i64 dI,lp]] W fun e w'=>e=.returned (.bool b)/\Below W.heap.size W w':=by
 have gout:∀{o o':Obj} (g:G ((W.alloc o).alloc o')),Below W.heap.size W g.W:=fun g=>(((ak _ _).alloc (aj _) _).alloc (by simp) _).trans (g.below.mono (by simp;omega))
 have HB:=I hB
 have HP:=I hp
 have HR:=I hb
 have HT:=I ht
 have HRT:=I hR
 clear hb hB hp hR
 go_enter Tryz.func196,Tryz.ntmps196
 go_upto_region 1 with (fail)
 refine aG ?_
 intro gg
 have goutW:∀(g:G (gw0 gg)),Below W.heap.size W g.W:=fun g=>gout g
 have goutB:∀(g:G (gw0 gg)),Below Wb.heap.size Wb g.W:=fun g=>HB.out.trans ((goutW g).mono HB.out.size)
 clear ht
 obtain⟨r1,h1⟩:∃r,r=(iT t).getD ⟨#[]⟩:=⟨_,rfl⟩
 obtain⟨r2,h2⟩:∃r,r=(iT t).isSome:=⟨_,rfl⟩
 have HU:=I (show(r1,r2)=((iT t).getD ⟨#[]⟩,(iT t).isSome) by rw[h1,h2])
 have HV:=I (ac h1 h2)
 have H11:=I h11
 have HD:=I hd0
 clear h1 h2 h11 hd0
 go_wp2_with fail
 refine(aC (g:=gg) (use_calls gg.W n dp sp ep dI lp t HRT.out (goutB gg) (HT.out.below (goutW gg)) r1 r2 HU.out)).mono ?_
 rintro _ _ ⟨rfl,gg,rfl⟩
 cases hu:iT t with
 |none=>
  have e2:r2=J:=by rw[HV.out.2,hu];rfl
  have HE:=I (show b=J by rw[HR.out];unfold bad12;rw[hu])
  clear hu
  subst e2
  go_wp2_with fail
  go_ret
  exact⟨aB HE.out.symm,goutW _⟩
 |some s=>
  have e2:r2=af:=by rw[HV.out.2,hu];rfl
  have e1:r1=s:=by rw[HV.out.1,hu];rfl
  have HE:=I (show b= !rL ds t s by rw[HR.out];unfold bad12;rw[hu])
  have HUS:=I hu
  have KN:=I (show gZ (fZ t) s=af\/∃i,cD ds s=ae i by
   have h:=H11.out
   unfold kG at h
   rw[hu]at h
   simp only[Bool.and_eq_false_iff,Bool.not_eq_false']at h
   rcases h with h | h
   ·exact .inl h
   ·cases hf:cD ds s with
    |none=>rw[hf]at h;cases h
    |some i=>exact .inr ⟨i,rfl⟩)
  clear hu
  subst e2 e1
  obtain⟨kb,hkb⟩:∃z,z=rL ds t r1:=⟨_,rfl⟩
  have HKB:=I hkb
  clear hkb
  go_wp2_with fail
  refine(aC (g:=gg) (wkind_calls nm wd ln ds bd A3 c3 A4 c4 HP.out HD.out gg.W n dp sp ep dI lp t HRT.out (goutB gg) (HT.out.below (goutW gg)) r1 HUS.out KN.out kb HKB.out)).mono ?_
  rintro _ _ ⟨rfl,gg,rfl⟩
  go_wp2_with fail
  go_ret
  exact⟨aB (by rw[HE.out,←HKB.out]),goutW _⟩
end
section
attribute [local go_sem] G.cell
set_option maxRecDepth 100000 in
theorem cl13_calls {Wb:World}(nm:ByteArray)(wd ln:Int)(ds:List S70)(bd:List S119)(A3:Option Addr)(c3:Nat)(A4:Option Addr)(c4:Nat)(hp:ProgAt Wb ds bd A3 c3 A4 c4)(hw:0<=wd)(W:World)(n:Nat)(dp sp ep:Value)(dI:Int)(lp:Value)(t:Th)(hR:RT t)(hB:Below Wb.heap.size Wb W)(ht:ThP Wb W dp sp ep dI lp t)(b:Bool)(hb:b=bad13 wd t):
 Calls ar 198 #[.agg #[.string nm,.int .i64 wd,.int .i64 ln,.slice A3 ds.length c3,.slice A4 bd.length c4],.agg #[.int .i64 n,dp,sp,ep,.int .i64 dI,lp]] W fun e w'=>e=.returned (.bool b)/\Below W.heap.size W w':=by
 have gout:∀{o o':Obj} (g:G ((W.alloc o).alloc o')),Below W.heap.size W g.W:=fun g=>(((ak _ _).alloc (aj _) _).alloc (by simp) _).trans (g.below.mono (by simp;omega))
 have HB:=I hB
 have HP:=I hp
 have HR:=I hb
 have HT:=I ht
 have HRT:=I hR
 clear hb hB hp hR
 go_enter Tryz.func198,Tryz.ntmps198
 go_upto_region 1 with (fail)
 refine aG ?_
 intro gg
 have goutW:∀(g:G (gw0 gg)),Below W.heap.size W g.W:=fun g=>gout g
 have goutB:∀(g:G (gw0 gg)),Below Wb.heap.size Wb g.W:=fun g=>HB.out.trans ((goutW g).mono HB.out.size)
 cases t with
 |decl i=>
  obtain⟨⟨a,rfl⟩,rfl,rfl,rfl,rfl⟩:=ht
  go_upto_region 1 with (fail)
  refine aP (g:=gg) (by kernel_rfl) (by kernel_rfl) ?_
  repeat(go_big_quiet_step (fail))
  refine wpQuiet_nil ?_
  rintro _ ⟨gg,rfl⟩
  go_wp2_with fail
  go_ret
  exact⟨aB (by rw[HR.out];rfl),goutW _⟩
 |stmt s d lo=>
  obtain⟨rfl,⟨a,A5,c5,A9,c9,A12,c12,A13,c13,rfl,hr,_⟩,rfl,rfl,hsc⟩:=ht
  clear hr hsc
  go_upto_region 1 with (fail)
  refine aP (g:=gg) (by kernel_rfl) (by kernel_rfl) ?_
  repeat(go_big_quiet_step (fail))
  refine wpQuiet_nil ?_
  rintro _ ⟨gg,rfl⟩
  go_wp2_with fail
  go_ret
  exact⟨aB (by rw[HR.out];rfl),goutW _⟩
 |expr x lo=>
  obtain⟨rfl,rfl,⟨a,A,c,rfl,hr,_⟩,rfl,hsc⟩:=ht
  have q0:∀g:G (gw0 gg),g.W.cell? ⟨a.block,a.off,ai⟩=ae (.int .i64 x.f0):=fun g=>aE (goutB g) (by have:=hr 0 _ rfl;rwa [fe]at this)
  have q1:∀g:G (gw0 gg),g.W.cell? ⟨a.block,a.off+1,ai⟩=ae (.int .u64 x.f1):=fun g=>aE (goutB g) (hr 1 _ rfl)
  clear hr hsc
  by_cases k:x.f0=1
  ·have K:=I k
   rw[k]at q0
   clear k
   rcases aJ (fY wd x.f1)with hf | hf
   ·have HF:=I hf
    clear hf
    go_upto_region 1 with (fail)
    refine aP (g:=gg) (by kernel_rfl) (by kernel_rfl) ?_
    repeat(go_big_quiet_step (fail))
    go_big_quiet_step (first | (go_at_call 187;exact aC (lR wd x.f1 _ hw HRT.out.1 _ HF.out)))
    repeat(go_big_quiet_step (fail))
    refine wpQuiet_nil ?_
    rintro _ ⟨gg,rfl⟩
    go_wp2_with fail
    go_ret
    exact⟨aB (by rw[HR.out];simp[bad13,K.out,HF.out]),goutW _⟩
   ·have HF:=I hf
    clear hf
    go_upto_region 1 with (fail)
    refine aP (g:=gg) (by kernel_rfl) (by kernel_rfl) ?_
    repeat(go_big_quiet_step (fail))
    go_big_quiet_step (first | (go_at_call 187;exact aC (lR wd x.f1 _ hw HRT.out.1 _ HF.out)))
    repeat(go_big_quiet_step (fail))
    refine wpQuiet_nil ?_
    rintro _ ⟨gg,rfl⟩
    go_wp2_with fail
    go_ret
    exact⟨aB (by rw[HR.out];simp[bad13,K.out,HF.out]),goutW _⟩
  ·have K:=I k
   have b1:=bf k
   clear k
   go_upto_region 1 with (fail)
   refine aP (g:=gg) (by kernel_rfl) (by kernel_rfl) ?_
   repeat(go_big_quiet_step (fail))
   refine wpQuiet_nil ?_
   rintro _ ⟨gg,rfl⟩
   go_wp2_with fail
   go_ret
   exact⟨aB (by rw[HR.out];simp[bad13,K.out]),goutW _⟩
end
section
attribute [local go_sem] G.cell
theorem iQ {wd:Int}{s:S119}{d:Nat}{lo:List ByteArray}(hk:s.f0=4)(hn:¬s.f5<s.f4)(P:Int)(hP:(2:Int) ^ wd.toNat=P)(hw:¬64<=wd)(hP0:0<P):oH wd (.stmt s d lo)=decide (P<s.f5):=by
 unfold oH fY
 simp only[]
 rw[beq_iff_eq.2 hk,decide_eq_false hn,decide_eq_false hw,hP]
 by_cases h:P<s.f5
 ·rw[decide_eq_true h,decide_eq_true (show 0<s.f5 by omega),decide_eq_false (show ¬s.f5 - 1<P by omega)];rfl
 ·rw[decide_eq_false h,decide_eq_true (show s.f5 - 1<P by omega)];simp
theorem bad14_64 {s:S119}{d:Nat}{lo:List ByteArray}(hk:s.f0=4)(hn:¬s.f5<s.f4):oH 64 (.stmt s d lo)=J:=by
 unfold oH fY
 simp only[]
 rw[beq_iff_eq.2 hk,decide_eq_false hn,decide_eq_true (show(64:Int)<=64 by decide)]
 simp
set_option maxRecDepth 100000 in
theorem cl14_calls {Wb:World}(nm:ByteArray)(wd ln:Int)(ds:List S70)(bd:List S119)(A3:Option Addr)(c3:Nat)(A4:Option Addr)(c4:Nat)(hp:ProgAt Wb ds bd A3 c3 A4 c4)(hw:cU wd=af)(W:World)(n:Nat)(dp sp ep:Value)(dI:Int)(lp:Value)(t:Th)(hR:RT t)(hB:Below Wb.heap.size Wb W)(ht:ThP Wb W dp sp ep dI lp t)(b:Bool)(hb:b=oH wd t):
 Calls ar 199 #[.agg #[.string nm,.int .i64 wd,.int .i64 ln,.slice A3 ds.length c3,.slice A4 bd.length c4],.agg #[.int .i64 n,dp,sp,ep,.int .i64 dI,lp]] W fun e w'=>e=.returned (.bool b)/\Below W.heap.size W w':=by
 have gout:∀{o o':Obj} (g:G ((W.alloc o).alloc o')),Below W.heap.size W g.W:=fun g=>(((ak _ _).alloc (aj _) _).alloc (by simp) _).trans (g.below.mono (by simp;omega))
 have HB:=I hB
 have HP:=I hp
 have HR:=I hb
 have HT:=I ht
 have HRT:=I hR
 clear hb hB hp hR
 go_enter Tryz.func199,Tryz.ntmps199
 go_upto_region 1 with (fail)
 refine aG ?_
 intro gg
 have goutW:∀(g:G (gw0 gg)),Below W.heap.size W g.W:=fun g=>gout g
 have goutB:∀(g:G (gw0 gg)),Below Wb.heap.size Wb g.W:=fun g=>HB.out.trans ((goutW g).mono HB.out.size)
 cases t with
 |decl i=>
  obtain⟨⟨a,rfl⟩,rfl,rfl,rfl,rfl⟩:=ht
  go_upto_region 1 with (fail)
  refine aP (g:=gg) (by kernel_rfl) (by kernel_rfl) ?_
  repeat(go_big_quiet_step (fail))
  refine wpQuiet_nil ?_
  rintro _ ⟨gg,rfl⟩
  go_wp2_with fail
  go_ret
  exact⟨aB (by rw[HR.out];rfl),goutW _⟩
 |stmt s d lo=>
  obtain⟨rfl,⟨a,A5,c5,A9,c9,A12,c12,A13,c13,rfl,hr,_⟩,rfl,rfl,hsc⟩:=ht
  have q0:∀g:G (gw0 gg),g.W.cell? ⟨a.block,a.off,ai⟩=ae (.int .i64 s.f0):=fun g=>aE (goutB g) (by have:=hr 0 _ rfl;rwa [fe]at this)
  have q10:∀g:G (gw0 gg),g.W.cell? ⟨a.block,a.off+10,ai⟩=ae (.int .u64 s.f4):=fun g=>aE (goutB g) (hr 10 _ rfl)
  have q11:∀g:G (gw0 gg),g.W.cell? ⟨a.block,a.off+11,ai⟩=ae (.int .u64 s.f5):=fun g=>aE (goutB g) (hr 11 _ rfl)
  clear hr hsc
  by_cases k:s.f0=4
  ·have K:=I k
   rw[k]at q0
   clear k
   have hww:wd=4\/wd=8\/wd=16\/wd=32\/wd=64:=by
    unfold cU at hw
    simp only[Bool.or_eq_true,beq_iff_eq]at hw
    omega
   clear hw
   by_cases h:s.f5<s.f4
   ·have h':s.f4 > s.f5:=h
    have H:=I h
    clear h
    go_upto_region 1 with (fail)
    refine aP (g:=gg) (by kernel_rfl) (by kernel_rfl) ?_
    repeat(go_big_quiet_step (fail))
    refine wpQuiet_nil ?_
    rintro _ ⟨gg,rfl⟩
    go_wp2_with fail
    go_ret
    exact⟨aB (by rw[HR.out];simp[oH,K.out,H.out]),goutW _⟩
   ·have h':¬s.f4 > s.f5:=h
    have H:=I h
    clear h
    rcases hww with w | w | w | w | w
    ·subst w
     by_cases h2:s.f5 > 16
     ·have H2:=I h2
      clear h2
      go_upto_region 1 with (fail)
      refine aP (g:=gg) (by kernel_rfl) (by kernel_rfl) ?_
      repeat(go_big_quiet_step (fail))
      refine wpQuiet_nil ?_
      rintro _ ⟨gg,rfl⟩
      go_wp2_with fail
      go_ret
      exact⟨aB (by rw[HR.out,iQ K.out (by have:=H.out;omega) 16 (by rfl) (by decide) (by decide)]),goutW _⟩
     ·have H2:=I h2
      clear h2
      go_upto_region 1 with (fail)
      refine aP (g:=gg) (by kernel_rfl) (by kernel_rfl) ?_
      repeat(go_big_quiet_step (fail))
      refine wpQuiet_nil ?_
      rintro _ ⟨gg,rfl⟩
      go_wp2_with fail
      go_ret
      exact⟨aB (by rw[HR.out,iQ K.out (by have:=H.out;omega) 16 (by rfl) (by decide) (by decide)]),goutW _⟩
    ·subst w
     by_cases h2:s.f5 > 256
     ·have H2:=I h2
      clear h2
      go_upto_region 1 with (fail)
      refine aP (g:=gg) (by kernel_rfl) (by kernel_rfl) ?_
      repeat(go_big_quiet_step (fail))
      refine wpQuiet_nil ?_
      rintro _ ⟨gg,rfl⟩
      go_wp2_with fail
      go_ret
      exact⟨aB (by rw[HR.out,iQ K.out (by have:=H.out;omega) 256 (by rfl) (by decide) (by decide)]),goutW _⟩
     ·have H2:=I h2
      clear h2
      go_upto_region 1 with (fail)
      refine aP (g:=gg) (by kernel_rfl) (by kernel_rfl) ?_
      repeat(go_big_quiet_step (fail))
      refine wpQuiet_nil ?_
      rintro _ ⟨gg,rfl⟩
      go_wp2_with fail
      go_ret
      exact⟨aB (by rw[HR.out,iQ K.out (by have:=H.out;omega) 256 (by rfl) (by decide) (by decide)]),goutW _⟩
    ·subst w
     by_cases h2:s.f5 > 65536
     ·have H2:=I h2
      clear h2
      go_upto_region 1 with (fail)
      refine aP (g:=gg) (by kernel_rfl) (by kernel_rfl) ?_
      repeat(go_big_quiet_step (fail))
      refine wpQuiet_nil ?_
      rintro _ ⟨gg,rfl⟩
      go_wp2_with fail
      go_ret
      exact⟨aB (by rw[HR.out,iQ K.out (by have:=H.out;omega) 65536 (by rfl) (by decide) (by decide)]),goutW _⟩
     ·have H2:=I h2
      clear h2
      go_upto_region 1 with (fail)
      refine aP (g:=gg) (by kernel_rfl) (by kernel_rfl) ?_
      repeat(go_big_quiet_step (fail))
      refine wpQuiet_nil ?_
      rintro _ ⟨gg,rfl⟩
      go_wp2_with fail
      go_ret
      exact⟨aB (by rw[HR.out,iQ K.out (by have:=H.out;omega) 65536 (by rfl) (by decide) (by decide)]),goutW _⟩
    ·subst w
     by_cases h2:s.f5 > 4294967296
     ·have H2:=I h2
      clear h2
      go_upto_region 1 with (fail)
      refine aP (g:=gg) (by kernel_rfl) (by kernel_rfl) ?_
      repeat(go_big_quiet_step (fail))
      refine wpQuiet_nil ?_
      rintro _ ⟨gg,rfl⟩
      go_wp2_with fail
      go_ret
      exact⟨aB (by rw[HR.out,iQ K.out (by have:=H.out;omega) 4294967296 (by rfl) (by decide) (by decide)]),goutW _⟩
     ·have H2:=I h2
      clear h2
      go_upto_region 1 with (fail)
      refine aP (g:=gg) (by kernel_rfl) (by kernel_rfl) ?_
      repeat(go_big_quiet_step (fail))
      refine wpQuiet_nil ?_
      rintro _ ⟨gg,rfl⟩
      go_wp2_with fail
      go_ret
      exact⟨aB (by rw[HR.out,iQ K.out (by have:=H.out;omega) 4294967296 (by rfl) (by decide) (by decide)]),goutW _⟩
    ·subst w
     go_upto_region 1 with (fail)
     refine aP (g:=gg) (by kernel_rfl) (by kernel_rfl) ?_
     repeat(go_big_quiet_step (fail))
     refine wpQuiet_nil ?_
     rintro _ ⟨gg,rfl⟩
     go_wp2_with fail
     go_ret
     exact⟨aB (by rw[HR.out,bad14_64 K.out (by have:=H.out;omega)]),goutW _⟩
  ·have K:=I k
   have b1:=bf k
   clear k
   go_upto_region 1 with (fail)
   refine aP (g:=gg) (by kernel_rfl) (by kernel_rfl) ?_
   repeat(go_big_quiet_step (fail))
   refine wpQuiet_nil ?_
   rintro _ ⟨gg,rfl⟩
   go_wp2_with fail
   go_ret
   exact⟨aB (by rw[HR.out];simp[oH,K.out]),goutW _⟩
 |expr x lo=>
  obtain⟨rfl,rfl,⟨a,A,c,rfl,hr,_⟩,rfl,hsc⟩:=ht
  clear hr hsc
  go_upto_region 1 with (fail)
  refine aP (g:=gg) (by kernel_rfl) (by kernel_rfl) ?_
  repeat(go_big_quiet_step (fail))
  refine wpQuiet_nil ?_
  rintro _ ⟨gg,rfl⟩
  go_wp2_with fail
  go_ret
  exact⟨aB (by rw[HR.out];rfl),goutW _⟩
end
end Go.Proofs.YtfigjpehecibeaaGreat.L
