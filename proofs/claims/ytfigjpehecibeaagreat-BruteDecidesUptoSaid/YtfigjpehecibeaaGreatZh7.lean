/- Texts joined by a program of mine: Uq Ya Ur Uv Rt Bn Bm Ba Ea Ma Mb Mc Md Bb Me Mf Mg Mh. -/
import Derived.WalkKit
import Derived.WalkSpells
import Derived.Maps.OwnOps
import Derived.Maps.OwnSet
import Derived.Maps.Views
import Derived.StringKeys
import Derived.Deep.RegionHeld3
import Derived.Test.YtfigjpehecibeaaGreatZh0
import Derived.Test.YtfigjpehecibeaaGreatZh3
import Derived.Test.YtfigjpehecibeaaGreatZh4
import Derived.Test.YtfigjpehecibeaaGreatZh5
import Derived.Test.YtfigjpehecibeaaGreatZh6
set_option maxRecDepth 100000
open And renaming intro -> aj
open Array renaming getElem?_eq_some_iff -> ck
open Bool renaming true -> af, and_eq_true -> cb, false -> ac, true_eq_false -> fg
open Decidable renaming em -> gy
open Go.Act renaming put -> ay
open Go.Ending renaming returned -> gj
open Go.Instr renaming lookup -> iw
open Go.IntKind renaming bits -> jf, signed -> js
open Go.Proofs.Tryz renaming prog -> au, underlying9 -> jo, underlying3 -> kg, underlying74 -> ky
open Go.Proofs.YtfigjpehecibeaaGreatW.PrintWords.Aside0 renaming mk -> aa
open Go.RowKit.Below renaming refl -> ar, heap_setCell -> dn
open Go.Value renaming int -> bh
open Go.WideMaps renaming keyOf_string_mk -> kw
open Go.World renaming setCell -> ji
open Int renaming toNat_natCast -> ax, natCast_nonneg -> bo, natCast_emod -> jp, natCast_mul -> iy, eq_ofNat_of_zero_le -> ew, emod_lt_of_pos -> kp, natCast_add -> kz, lt_or_le -> dh
open List renaming mem_cons -> iv, mem_append -> fk, getElem_of_mem -> gr, getD_eq_getElem?_getD -> aw, getElem?_eq_getElem -> az, all_eq_true -> fw, range -> bu, cons_append -> gp, length_append -> ba, range_succ -> jz, length_singleton -> bq, getElem?_set -> jr, setIfInBounds_toArray -> ae, set_cons_zero -> ah, set_cons_succ -> ai, any_cons -> jv, mem_cons_self -> ig, append_nil -> ed
open Nat renaming not_lt -> jt, le_trans -> bi, le_refl -> aq, zero_le -> bk, not_lt_zero -> da, min_eq_left -> di, mod_eq_of_lt -> fp, lt_of_lt_of_le -> br, pow_le_pow_right -> ju, min_eq_right -> iz, testBit_two_pow_sub_one -> lf, mod_lt -> ij, two_pow_pos -> df, lt_of_le_of_lt -> gh, mul_le_mul_right -> fq, mul_one -> ib, add_zero -> gm, div_le_self -> jh, le_mul_of_pos_right -> fu, eq_zero_or_pos -> cq
open Option renaming none -> ak, some -> ag, map_eq_some_iff -> iq
open Or renaming inl -> bc
set_option linter.unusedVariables false
set_option linter.unusedSimpArgs false
set_option maxHeartbeats 8000000
namespace Go.Proofs.YtfigjpehecibeaaGreat.L
open Go.RowKit Go.Proofs.YtfigjpehecibeaaGreatW.PrintWords Go.Proofs.YtfigjpehecibeaaGreatW.PrintLast Go.Proofs.YtfigjpehecibeaaGreatW.PrintMore Go.Proofs.YtfigjpehecibeaaGreat.Gr
def KW:Th->Prop
 | .decl _=>True
 | .stmt s _ _=>1<=s.f0/\s.f0<=5
 | .expr e _=>aM e<=8388608
mutual
theorem kw_exTh:∀(e:S116) (lo:List ByteArray),aM e<=8388608->∀t∈eB e lo,KW t
 | ⟨a,b,s,l⟩,lo,h,t,ht=>by
   rw[eB]at ht
   rcases iv.1 ht with rfl | ht
   ·exact h
   ·rw[aM]at h;exact kw_exThs l lo (by omega) t ht
theorem kw_exThs:∀(l:List S116) (lo:List ByteArray),bM l<=8388608->∀t∈e7 l lo,KW t
 | [],_,_,t,ht=>by rw[e7]at ht;cases ht
 |x::r,lo,h,t,ht=>by
  rw[bM]at h;rw[e7]at ht
  rcases fk.1 ht with ht | ht
  ·exact kw_exTh x lo (by omega) t ht
  ·exact kw_exThs r lo (by omega) t ht
end
mutual
theorem kw_stTh:∀(x:S119) (d:Nat) (lo:List ByteArray),stB x=af->Ot.oM x<=1048576->∀t∈stTh x d lo,KW t
 | ⟨k,nm,e,f,l,h,th,el⟩,d,lo,hs,hb,t,ht=>by
   have F:=st_form hs;rw[Ot.oM]at hb;rw[stTh]at ht;have h1:=aS e;have h2:=aS f
   rcases iv.1 ht with rfl | ht
   ·exact⟨F.1,F.2.1⟩
   ·rcases fk.1 ht with ht | ht
    ·rcases fk.1 ht with ht | ht
     ·split at ht
      ·exact kw_exTh e lo (by omega) t ht
      ·cases ht
     ·split at ht
      ·exact kw_exTh f lo (by omega) t ht
      ·cases ht
    ·rcases fk.1 ht with ht | ht
     ·exact qP th _ _ F.2.2.2.2.1 (by omega) t ht
     ·exact qP el _ _ F.2.2.2.2.2 (by omega) t ht
theorem qP:∀(l:List S119) (d:Nat) (lo:List ByteArray),bdB l=af->Ot.cK l<=1048576->∀t∈aN l d lo,KW t
 | [],_,_,_,_,t,ht=>by rw[aN]at ht;cases ht
 |x::r,d,lo,hs,hb,t,ht=>by
  rw[lT,List.all_cons,cb,←lT]at hs;rw[Ot.cK]at hb;rw[aN]at ht
  rcases fk.1 ht with ht | ht
  ·exact kw_stTh x d lo hs.1 (by omega) t ht
  ·exact qP r d lo hs.2 (by omega) t ht
end
theorem rw_things {ds:List S70}{bd:List S119}(h:∀t∈bd,Ot.jV t)(hf:bdB bd=af)(hb:Ot.cK bd<=1048576):∀t∈things ds bd,RW t:=by
 intro t ht;have h1:=r8 (ds:=ds) h t ht
 have h2:KW t:=by
  unfold things at ht
  rcases fk.1 ht with ht | ht
  ·obtain⟨i,_,rfl⟩:=List.mem_map.1 ht;trivial
  ·exact qP bd 1 [] hf hb t ht
 cases t with
 |decl i=>exact⟨⟨h1,trivial⟩,trivial⟩
 |stmt s d l=>exact⟨⟨h1,h2⟩,trivial⟩
 |expr e l=>exact⟨⟨h1,trivial⟩,h2⟩
theorem bP {f:Th->Bool}{l:List Th}(h:(fW f l).2=ac):bB l.length (fun i=>f (bK l i))=ak:=by
 unfold fW at h
 cases e:bB l.length (fun i=>f (bK l i))with
 |none=>rfl
 |some i=>rw[e]at h;cases h
theorem iK {f:Th->Bool}{l:List Th}(h:(fW f l).2=af):∃i:Nat,bB l.length (fun i=>f (bK l i))=ag i/\(fW f l).1=(i:Int):=by
 unfold fW at h ⊢
 cases e:bB l.length (fun i=>f (bK l i))with
 |none=>rw[e]at h;cases h
 |some i=>exact⟨i,rfl,rfl⟩
theorem aV {f:Nat->Bool}{n:Nat}(h:(fB f n).2=ac):bB n f=ak:=by
 unfold fB at h
 cases e:bB n f with
 |none=>rfl
 |some i=>rw[e]at h;cases h
theorem mG {f:Nat->Bool}{n:Nat}(h:(fB f n).2=af):∃i:Nat,bB n f=ag i/\(fB f n).1=(i:Int):=by
 unfold fB at h ⊢
 cases e:bB n f with
 |none=>rw[e]at h;cases h
 |some i=>exact⟨i,rfl,rfl⟩
theorem kE {n:Nat}{f:Nat->Bool}(h:bB n f=ak):∀j,j<n->f j=ac:=by
 rcases dK n f with ⟨_,h2⟩ | ⟨i,_,h1,_,_⟩
 ·exact h2
 ·rw[h]at h1;cases h1
theorem iN {f:Th->Bool}{l:List Th}(h:(fW f l).2=ac):∀t∈l,f t=ac:=by
 intro t ht;obtain⟨i,hi,rfl⟩:=gr ht;have:=kE (bP h) i hi
 rwa [thAt_lt hi]at this
def cR (nm:ByteArray)(wd ln:Int)(ds:List S70)(bd:List S119):Nat->Int × Bool
 |0=>(-1,!dR nm wd ln ds bd)
 |1=>(-1,!dB wd)
 |2=>(-1,!dJ ln)
 |3=>(-1,!decide (ds.length<=256))
 |4=>fB (dL ds) ds.length
 |5=>fB (bZ ds) ds.length
 |6=>fB (bH ds) ds.length
 |7=>fB (cS wd ds) ds.length
 |8=>(-1,!decide (dG ds<=4096))
 |9=>fW (badC wd ds 10) (things ds bd)
 |10=>fW (badC wd ds 11) (things ds bd)
 |11=>fW (badC wd ds 12) (things ds bd)
 |12=>fW (badC wd ds 13) (things ds bd)
 |13=>fW (badC wd ds 14) (things ds bd)
 |14=>fW (badC wd ds 15) (things ds bd)
 |_=>(-1,!decide (bS bd<=65536))
def cF:Nat->FuncId
 |4=>247
 |5=>247
 |6=>247
 |7=>247
 |9=>249
 |10=>249
 |11=>249
 |12=>249
 |13=>249
 |14=>249
 |_=>246
def cE:Nat->Int
 |0=>1
 |1=>5
 |2=>163
 |3=>4
 |4=>160
 |5=>163
 |6=>164
 |7=>165
 |8=>169
 |9=>152
 |10=>161
 |11=>162
 |12=>165
 |13=>166
 |14=>167
 |_=>168
theorem iC {b:Bool}(h:(!b)=ac):b=af:=by cases b <;> simp_all
theorem b_yes {b:Bool}(h:(!b)=af):b=ac:=by cases b <;> simp_all
theorem qK {p:Prop} [Decidable p](h:(!decide p)=ac):p:=by simpa using h
theorem d_yes {p:Prop} [Decidable p](h:(!decide p)=af):¬p:=by simpa using h
theorem clause_calls (nm:ByteArray)(wd ln:Int)(ds:List S70)(bd:List S119)(A3:Option Addr)(c3:Nat)(A4:Option Addr)(c4:Nat)(b:Nat)(X:World)(hp:ProgAt X ds bd A3 c3 A4 c4)(hg:PGood nm wd ln ds bd)(hbx:∀i,i<16->X.heap[b+i]? =(clL b)[i]?)(k:Nat)(hk:k<16)(hprev:∀j,j<k->(cR nm wd ln ds bd j).2=ac):
 Calls au (cF k) #[.agg #[.string nm,.int .i64 wd,.int .i64 ln,.slice A3 ds.length c3,.slice A4 bd.length c4],.pointer (ag ⟨b+k,0,ak⟩)] X fun e w'=>e=.returned (.tuple #[.int .i64 (cR nm wd ln ds bd k).1,.bool (cR nm wd ln ds bd k).2])/\Below X.heap.size X w':=by
 have hdl:=hg.sizes.1;have hbk:=hg.sizes.2;have FF:0<k->0<=wd/\0<=ln/\(∀d∈ds,0<=d.f2)/\bdB bd=af:=fun h=>oR (iC (hprev 0 h));have RWt:0<k->∀t∈things ds bd,RW t:=fun h=>rw_things hg.good.bd (FF h).2.2.2 hbk;have HV:∀d∈ds,∀v∈d.f3,0<=v:=fun d hd v hv=>(okU_b ((hg.good.ds d hd).2.2.2.2 v hv)).1
 have hcs:k=0\/k=1\/k=2\/k=3\/k=4\/k=5\/k=6\/k=7\/k=8\/k=9\/k=10\/k=11\/k=12\/k=13\/k=14\/k=15:=by omega
 rcases hcs with rfl | rfl | rfl | rfl | rfl | rfl | rfl | rfl | rfl | rfl | rfl | rfl | rfl | rfl | rfl | rfl
 ·exact whole44_calls nm wd ln ds bd A3 c3 A4 c4 (b+0) X ((hbx 0 (by decide)).trans rfl) (dR nm wd ln ds bd) fun Y hY=>wf_v (hp.below hY) rfl
 ·exact whole45_calls nm wd ln ds bd A3 c3 A4 c4 (b+1) X ((hbx 1 (by decide)).trans rfl) (dB wd) fun Y hY=>c45_calls nm wd ln ds bd A3 c3 A4 c4 Y _ rfl
 ·exact whole47_calls nm wd ln ds bd A3 c3 A4 c4 (b+2) X ((hbx 2 (by decide)).trans rfl) (dJ ln) fun Y hY=>c47_calls nm wd ln ds bd A3 c3 A4 c4 Y _ rfl
 ·exact whole48_calls nm wd ln ds bd A3 c3 A4 c4 (b+3) X ((hbx 3 (by decide)).trans rfl) (decide (ds.length<=256)) fun Y hY=>c48_calls nm wd ln ds bd A3 c3 A4 c4 Y hdl _ rfl
 ·exact decls50_calls nm wd ln ds bd A3 c3 A4 c4 (b+4) X hdl ((hbx 4 (by decide)).trans rfl) (dL ds) (fun Y i hY hi=>c50_calls nm wd ln ds bd A3 c3 A4 c4 Y (hp.below hY).hd hp.hld i hi _ rfl) _ rfl
 ·exact decls52_calls nm wd ln ds bd A3 c3 A4 c4 (b+5) X hdl ((hbx 5 (by decide)).trans rfl) (bZ ds) (fun Y i hY hi=>c52_calls nm wd ln ds bd A3 c3 A4 c4 Y (hp.below hY).hd i hi _ rfl) _ rfl
 ·exact decls53_calls nm wd ln ds bd A3 c3 A4 c4 (b+6) X hdl ((hbx 6 (by decide)).trans rfl) (bH ds) (fun Y i hY hi=>c53_calls nm wd ln ds bd A3 c3 A4 c4 Y (hp.below hY).hd i hi _ rfl) _ rfl
 ·exact decls54_calls nm wd ln ds bd A3 c3 A4 c4 (b+7) X hdl ((hbx 7 (by decide)).trans rfl) (cS wd ds) (fun Y i hY hi=>c54_calls nm wd ln ds bd A3 c3 A4 c4 Y (hp.below hY).hd (FF (by decide)).1 HV i hi _ rfl) _ rfl
 ·have HW:∀d∈ds,d.f2=0\/dJ d.f2=af:=by
   intro d hd;obtain⟨i,hi,rfl⟩:=gr hd;have h:=size_good (kE (aV (hprev 5 (by decide))) i hi)
   have e:aI ds (i:Int)=ds[i]:=by unfold aI;rw[ax,aw,az hi];rfl
   rwa [e]at h
  exact whole58_calls nm wd ln ds bd A3 c3 A4 c4 (b+8) X ((hbx 8 (by decide)).trans rfl) (decide (dG ds<=4096)) fun Y hY=>c58_calls nm wd ln ds bd A3 c3 A4 c4 Y (hp.below hY).hd hdl HW _ rfl
 ·refine e8 (R:=RW) (f:=badC wd ds 10) nm wd ln ds bd A3 c3 A4 c4 (b+9) X hp (FF (by decide)).2.2.2 hdl hbk (RWt (by decide)) (fun Y b2 hY h2=>wrong61_ok (W0:=Y) (nm:=nm) (wd:=wd) (ln:=ln) (ds:=ds) (bd:=bd) (A3:=A3) (c3:=c3) (A4:=A4) (c4:=c4) ?_ ((hY.block _ (aX ((hbx 9 (by decide)).trans rfl))).trans ((hbx 9 (by decide)).trans rfl)) h2) _ rfl;intro Wb W n dp sp ep dI lp t hR h0 hB ht;exact cl10_calls nm wd ln ds bd A3 c3 A4 c4 W n dp sp ep dI lp t hR hB ht _ rfl
 ·refine e8 (R:=RW) (f:=badC wd ds 11) nm wd ln ds bd A3 c3 A4 c4 (b+10) X hp (FF (by decide)).2.2.2 hdl hbk (RWt (by decide)) (fun Y b2 hY h2=>wrong63_ok (W0:=Y) (nm:=nm) (wd:=wd) (ln:=ln) (ds:=ds) (bd:=bd) (A3:=A3) (c3:=c3) (A4:=A4) (c4:=c4) ?_ ((hY.block _ (aX ((hbx 10 (by decide)).trans rfl))).trans ((hbx 10 (by decide)).trans rfl)) h2) _ rfl;intro Wb W n dp sp ep dI lp t hR h0 hB ht;exact cl11_calls nm wd ln ds bd A3 c3 A4 c4 ((hp.below hY).below h0) W n dp sp ep dI lp t hR.1 hB ht _ rfl
 ·refine e8 (R:=(fun t=>RW t/\lG ds t=ac)) (f:=badC wd ds 12) nm wd ln ds bd A3 c3 A4 c4 (b+11) X hp (FF (by decide)).2.2.2 hdl hbk (fun t ht=>⟨RWt (by decide) t ht,iN (hprev 10 (by decide)) t ht⟩) (fun Y b2 hY h2=>wrong66_ok (W0:=Y) (nm:=nm) (wd:=wd) (ln:=ln) (ds:=ds) (bd:=bd) (A3:=A3) (c3:=c3) (A4:=A4) (c4:=c4) ?_ ((hY.block _ (aX ((hbx 11 (by decide)).trans rfl))).trans ((hbx 11 (by decide)).trans rfl)) h2) _ rfl;intro Wb W n dp sp ep dI lp t hR h0 hB ht;exact cl12_calls nm wd ln ds bd A3 c3 A4 c4 ((hp.below hY).below h0) (FF (by decide)).2.2.1 W n dp sp ep dI lp t hR.1.1 hB ht hR.2 _ rfl
 ·refine e8 (R:=RW) (f:=badC wd ds 13) nm wd ln ds bd A3 c3 A4 c4 (b+12) X hp (FF (by decide)).2.2.2 hdl hbk (RWt (by decide)) (fun Y b2 hY h2=>wrong68_ok (W0:=Y) (nm:=nm) (wd:=wd) (ln:=ln) (ds:=ds) (bd:=bd) (A3:=A3) (c3:=c3) (A4:=A4) (c4:=c4) ?_ ((hY.block _ (aX ((hbx 12 (by decide)).trans rfl))).trans ((hbx 12 (by decide)).trans rfl)) h2) _ rfl;intro Wb W n dp sp ep dI lp t hR h0 hB ht;exact cl13_calls nm wd ln ds bd A3 c3 A4 c4 ((hp.below hY).below h0) (FF (by decide)).1 W n dp sp ep dI lp t hR.1 hB ht _ rfl
 ·refine e8 (R:=RW) (f:=badC wd ds 14) nm wd ln ds bd A3 c3 A4 c4 (b+13) X hp (FF (by decide)).2.2.2 hdl hbk (RWt (by decide)) (fun Y b2 hY h2=>wrong69_ok (W0:=Y) (nm:=nm) (wd:=wd) (ln:=ln) (ds:=ds) (bd:=bd) (A3:=A3) (c3:=c3) (A4:=A4) (c4:=c4) ?_ ((hY.block _ (aX ((hbx 13 (by decide)).trans rfl))).trans ((hbx 13 (by decide)).trans rfl)) h2) _ rfl;intro Wb W n dp sp ep dI lp t hR h0 hB ht;exact cl14_calls nm wd ln ds bd A3 c3 A4 c4 ((hp.below hY).below h0) (iC (hprev 1 (by decide))) W n dp sp ep dI lp t hR.1 hB ht _ rfl
 ·refine e8 (R:=RW) (f:=badC wd ds 15) nm wd ln ds bd A3 c3 A4 c4 (b+14) X hp (FF (by decide)).2.2.2 hdl hbk (RWt (by decide)) (fun Y b2 hY h2=>wrong70_ok (W0:=Y) (nm:=nm) (wd:=wd) (ln:=ln) (ds:=ds) (bd:=bd) (A3:=A3) (c3:=c3) (A4:=A4) (c4:=c4) ?_ ((hY.block _ (aX ((hbx 14 (by decide)).trans rfl))).trans ((hbx 14 (by decide)).trans rfl)) h2) _ rfl;intro Wb W n dp sp ep dI lp t hR h0 hB ht;exact cl15_calls nm wd ln ds bd A3 c3 A4 c4 ((hp.below hY).below h0) W n dp sp ep dI lp t hR.1 hB ht _ rfl
 ·exact whole71_calls nm wd ln ds bd A3 c3 A4 c4 (b+15) X ((hbx 15 (by decide)).trans rfl) (decide (bS bd<=65536)) fun Y hY=>c71_calls nm wd ln ds bd A3 c3 A4 c4 Y (hp.below hY).hb hp.hlb ((Ot.cV bd).2 hg.good.bd) hbk _ rfl
theorem s9 {nm:ByteArray}{wd ln:Int}{ds:List S70}{bd:List S119}{k:Nat}(hk:k<16)(hprev:∀j,j<k->(cR nm wd ln ds bd j).2=ac)(hb:(cR nm wd ln ds bd k).2=af):bC nm wd ln ds bd=⟨(k:Int)+1,(cR nm wd ln ds bd k).1,cE k⟩:=by
 have hcs:k=0\/k=1\/k=2\/k=3\/k=4\/k=5\/k=6\/k=7\/k=8\/k=9\/k=10\/k=11\/k=12\/k=13\/k=14\/k=15:=by omega
 rcases hcs with rfl | rfl | rfl | rfl | rfl | rfl | rfl | rfl | rfl | rfl | rfl | rfl | rfl | rfl | rfl | rfl
 ·have hh:dR nm wd ln ds bd=ac:=b_yes hb
  simp only[bC,eX,dQ,qH,fg,if_false,if_true,reduceIte,reduceCtorEq,Nat.reduceSub,hh] <;> rfl
 ·have h0:dR nm wd ln ds bd=af:=iC (hprev 0 (by decide));have hh:dB wd=ac:=b_yes hb
  simp only[bC,eX,dQ,qH,fg,if_false,if_true,reduceIte,reduceCtorEq,Nat.reduceSub,hh,h0] <;> rfl
 ·have h0:dR nm wd ln ds bd=af:=iC (hprev 0 (by decide));have h1:dB wd=af:=iC (hprev 1 (by decide));have hh:dJ ln=ac:=b_yes hb
  simp only[bC,eX,dQ,qH,fg,if_false,if_true,reduceIte,reduceCtorEq,Nat.reduceSub,hh,h0,h1] <;> rfl
 ·have h0:dR nm wd ln ds bd=af:=iC (hprev 0 (by decide));have h1:dB wd=af:=iC (hprev 1 (by decide));have h2:dJ ln=af:=iC (hprev 2 (by decide));have hh:256<ds.length:=Nat.not_le.1 (d_yes hb)
  simp only[bC,eX,dQ,qH,fg,if_false,if_true,reduceIte,reduceCtorEq,Nat.reduceSub,hh,h0,h1,h2] <;> rfl
 ·have h0:dR nm wd ln ds bd=af:=iC (hprev 0 (by decide));have h1:dB wd=af:=iC (hprev 1 (by decide));have h2:dJ ln=af:=iC (hprev 2 (by decide));have h3:¬256<ds.length:=jt.2 (qK (hprev 3 (by decide)));obtain⟨i,hh,hv⟩:=mG hb;have hv2:(cR nm wd ln ds bd 4).1=(i:Int):=hv
  simp only[bC,eX,dQ,qH,fg,if_false,if_true,reduceIte,reduceCtorEq,Nat.reduceSub,hh,hv2,h0,h1,h2,h3] <;> rfl
 ·have h0:dR nm wd ln ds bd=af:=iC (hprev 0 (by decide));have h1:dB wd=af:=iC (hprev 1 (by decide));have h2:dJ ln=af:=iC (hprev 2 (by decide));have h3:¬256<ds.length:=jt.2 (qK (hprev 3 (by decide)));have h4:bB ds.length (dL ds)=ak:=aV (hprev 4 (by decide));obtain⟨i,hh,hv⟩:=mG hb;have hv2:(cR nm wd ln ds bd 5).1=(i:Int):=hv
  simp only[bC,eX,dQ,qH,fg,if_false,if_true,reduceIte,reduceCtorEq,Nat.reduceSub,hh,hv2,h0,h1,h2,h3,h4] <;> rfl
 ·have h0:dR nm wd ln ds bd=af:=iC (hprev 0 (by decide));have h1:dB wd=af:=iC (hprev 1 (by decide));have h2:dJ ln=af:=iC (hprev 2 (by decide));have h3:¬256<ds.length:=jt.2 (qK (hprev 3 (by decide)));have h4:bB ds.length (dL ds)=ak:=aV (hprev 4 (by decide));have h5:bB ds.length (bZ ds)=ak:=aV (hprev 5 (by decide));obtain⟨i,hh,hv⟩:=mG hb;have hv2:(cR nm wd ln ds bd 6).1=(i:Int):=hv
  simp only[bC,eX,dQ,qH,fg,if_false,if_true,reduceIte,reduceCtorEq,Nat.reduceSub,hh,hv2,h0,h1,h2,h3,h4,h5] <;> rfl
 ·have h0:dR nm wd ln ds bd=af:=iC (hprev 0 (by decide));have h1:dB wd=af:=iC (hprev 1 (by decide));have h2:dJ ln=af:=iC (hprev 2 (by decide));have h3:¬256<ds.length:=jt.2 (qK (hprev 3 (by decide)));have h4:bB ds.length (dL ds)=ak:=aV (hprev 4 (by decide));have h5:bB ds.length (bZ ds)=ak:=aV (hprev 5 (by decide));have h6:bB ds.length (bH ds)=ak:=aV (hprev 6 (by decide));obtain⟨i,hh,hv⟩:=mG hb;have hv2:(cR nm wd ln ds bd 7).1=(i:Int):=hv
  simp only[bC,eX,dQ,qH,fg,if_false,if_true,reduceIte,reduceCtorEq,Nat.reduceSub,hh,hv2,h0,h1,h2,h3,h4,h5,h6] <;> rfl
 ·have h0:dR nm wd ln ds bd=af:=iC (hprev 0 (by decide));have h1:dB wd=af:=iC (hprev 1 (by decide));have h2:dJ ln=af:=iC (hprev 2 (by decide));have h3:¬256<ds.length:=jt.2 (qK (hprev 3 (by decide)));have h4:bB ds.length (dL ds)=ak:=aV (hprev 4 (by decide));have h5:bB ds.length (bZ ds)=ak:=aV (hprev 5 (by decide));have h6:bB ds.length (bH ds)=ak:=aV (hprev 6 (by decide));have h7:bB ds.length (cS wd ds)=ak:=aV (hprev 7 (by decide));have hh:4096<dG ds:=Int.not_le.1 (d_yes hb)
  simp only[bC,eX,dQ,qH,fg,if_false,if_true,reduceIte,reduceCtorEq,Nat.reduceSub,hh,h0,h1,h2,h3,h4,h5,h6,h7] <;> rfl
 ·have h0:dR nm wd ln ds bd=af:=iC (hprev 0 (by decide));have h1:dB wd=af:=iC (hprev 1 (by decide));have h2:dJ ln=af:=iC (hprev 2 (by decide));have h3:¬256<ds.length:=jt.2 (qK (hprev 3 (by decide)));have h4:bB ds.length (dL ds)=ak:=aV (hprev 4 (by decide));have h5:bB ds.length (bZ ds)=ak:=aV (hprev 5 (by decide));have h6:bB ds.length (bH ds)=ak:=aV (hprev 6 (by decide));have h7:bB ds.length (cS wd ds)=ak:=aV (hprev 7 (by decide));have h8:¬4096<dG ds:=Int.not_lt.2 (qK (hprev 8 (by decide)));obtain⟨i,hh,hv⟩:=iK hb;have hv2:(cR nm wd ln ds bd 9).1=(i:Int):=hv;have hh:bJ wd ds (things ds bd) 10=ag i:=hh
  simp only[bC,eX,dQ,qH,fg,if_false,if_true,reduceIte,reduceCtorEq,Nat.reduceSub,hh,hv2,h0,h1,h2,h3,h4,h5,h6,h7,h8] <;> rfl
 ·have h0:dR nm wd ln ds bd=af:=iC (hprev 0 (by decide));have h1:dB wd=af:=iC (hprev 1 (by decide));have h2:dJ ln=af:=iC (hprev 2 (by decide));have h3:¬256<ds.length:=jt.2 (qK (hprev 3 (by decide)));have h4:bB ds.length (dL ds)=ak:=aV (hprev 4 (by decide));have h5:bB ds.length (bZ ds)=ak:=aV (hprev 5 (by decide));have h6:bB ds.length (bH ds)=ak:=aV (hprev 6 (by decide));have h7:bB ds.length (cS wd ds)=ak:=aV (hprev 7 (by decide));have h8:¬4096<dG ds:=Int.not_lt.2 (qK (hprev 8 (by decide)));have h9:bJ wd ds (things ds bd) 10=ak:=bP (hprev 9 (by decide));obtain⟨i,hh,hv⟩:=iK hb;have hv2:(cR nm wd ln ds bd 10).1=(i:Int):=hv;have hh:bJ wd ds (things ds bd) 11=ag i:=hh
  simp only[bC,eX,dQ,qH,fg,if_false,if_true,reduceIte,reduceCtorEq,Nat.reduceSub,hh,hv2,h0,h1,h2,h3,h4,h5,h6,h7,h8,h9] <;> rfl
 ·have h0:dR nm wd ln ds bd=af:=iC (hprev 0 (by decide));have h1:dB wd=af:=iC (hprev 1 (by decide));have h2:dJ ln=af:=iC (hprev 2 (by decide));have h3:¬256<ds.length:=jt.2 (qK (hprev 3 (by decide)));have h4:bB ds.length (dL ds)=ak:=aV (hprev 4 (by decide));have h5:bB ds.length (bZ ds)=ak:=aV (hprev 5 (by decide));have h6:bB ds.length (bH ds)=ak:=aV (hprev 6 (by decide));have h7:bB ds.length (cS wd ds)=ak:=aV (hprev 7 (by decide));have h8:¬4096<dG ds:=Int.not_lt.2 (qK (hprev 8 (by decide)));have h9:bJ wd ds (things ds bd) 10=ak:=bP (hprev 9 (by decide));have h10:bJ wd ds (things ds bd) 11=ak:=bP (hprev 10 (by decide));obtain⟨i,hh,hv⟩:=iK hb;have hv2:(cR nm wd ln ds bd 11).1=(i:Int):=hv;have hh:bJ wd ds (things ds bd) 12=ag i:=hh
  simp only[bC,eX,dQ,qH,fg,if_false,if_true,reduceIte,reduceCtorEq,Nat.reduceSub,hh,hv2,h0,h1,h2,h3,h4,h5,h6,h7,h8,h9,h10] <;> rfl
 ·have h0:dR nm wd ln ds bd=af:=iC (hprev 0 (by decide));have h1:dB wd=af:=iC (hprev 1 (by decide));have h2:dJ ln=af:=iC (hprev 2 (by decide));have h3:¬256<ds.length:=jt.2 (qK (hprev 3 (by decide)));have h4:bB ds.length (dL ds)=ak:=aV (hprev 4 (by decide));have h5:bB ds.length (bZ ds)=ak:=aV (hprev 5 (by decide));have h6:bB ds.length (bH ds)=ak:=aV (hprev 6 (by decide));have h7:bB ds.length (cS wd ds)=ak:=aV (hprev 7 (by decide));have h8:¬4096<dG ds:=Int.not_lt.2 (qK (hprev 8 (by decide)));have h9:bJ wd ds (things ds bd) 10=ak:=bP (hprev 9 (by decide));have h10:bJ wd ds (things ds bd) 11=ak:=bP (hprev 10 (by decide));have h11:bJ wd ds (things ds bd) 12=ak:=bP (hprev 11 (by decide));obtain⟨i,hh,hv⟩:=iK hb;have hv2:(cR nm wd ln ds bd 12).1=(i:Int):=hv;have hh:bJ wd ds (things ds bd) 13=ag i:=hh
  simp only[bC,eX,dQ,qH,fg,if_false,if_true,reduceIte,reduceCtorEq,Nat.reduceSub,hh,hv2,h0,h1,h2,h3,h4,h5,h6,h7,h8,h9,h10,h11] <;> rfl
 ·have h0:dR nm wd ln ds bd=af:=iC (hprev 0 (by decide));have h1:dB wd=af:=iC (hprev 1 (by decide));have h2:dJ ln=af:=iC (hprev 2 (by decide));have h3:¬256<ds.length:=jt.2 (qK (hprev 3 (by decide)));have h4:bB ds.length (dL ds)=ak:=aV (hprev 4 (by decide));have h5:bB ds.length (bZ ds)=ak:=aV (hprev 5 (by decide));have h6:bB ds.length (bH ds)=ak:=aV (hprev 6 (by decide));have h7:bB ds.length (cS wd ds)=ak:=aV (hprev 7 (by decide));have h8:¬4096<dG ds:=Int.not_lt.2 (qK (hprev 8 (by decide)));have h9:bJ wd ds (things ds bd) 10=ak:=bP (hprev 9 (by decide));have h10:bJ wd ds (things ds bd) 11=ak:=bP (hprev 10 (by decide));have h11:bJ wd ds (things ds bd) 12=ak:=bP (hprev 11 (by decide));have h12:bJ wd ds (things ds bd) 13=ak:=bP (hprev 12 (by decide));obtain⟨i,hh,hv⟩:=iK hb;have hv2:(cR nm wd ln ds bd 13).1=(i:Int):=hv;have hh:bJ wd ds (things ds bd) 14=ag i:=hh
  simp only[bC,eX,dQ,qH,fg,if_false,if_true,reduceIte,reduceCtorEq,Nat.reduceSub,hh,hv2,h0,h1,h2,h3,h4,h5,h6,h7,h8,h9,h10,h11,h12] <;> rfl
 ·have h0:dR nm wd ln ds bd=af:=iC (hprev 0 (by decide));have h1:dB wd=af:=iC (hprev 1 (by decide));have h2:dJ ln=af:=iC (hprev 2 (by decide));have h3:¬256<ds.length:=jt.2 (qK (hprev 3 (by decide)));have h4:bB ds.length (dL ds)=ak:=aV (hprev 4 (by decide));have h5:bB ds.length (bZ ds)=ak:=aV (hprev 5 (by decide));have h6:bB ds.length (bH ds)=ak:=aV (hprev 6 (by decide));have h7:bB ds.length (cS wd ds)=ak:=aV (hprev 7 (by decide));have h8:¬4096<dG ds:=Int.not_lt.2 (qK (hprev 8 (by decide)));have h9:bJ wd ds (things ds bd) 10=ak:=bP (hprev 9 (by decide));have h10:bJ wd ds (things ds bd) 11=ak:=bP (hprev 10 (by decide));have h11:bJ wd ds (things ds bd) 12=ak:=bP (hprev 11 (by decide));have h12:bJ wd ds (things ds bd) 13=ak:=bP (hprev 12 (by decide));have h13:bJ wd ds (things ds bd) 14=ak:=bP (hprev 13 (by decide));obtain⟨i,hh,hv⟩:=iK hb;have hv2:(cR nm wd ln ds bd 14).1=(i:Int):=hv;have hh:bJ wd ds (things ds bd) 15=ag i:=hh
  simp only[bC,eX,dQ,qH,fg,if_false,if_true,reduceIte,reduceCtorEq,Nat.reduceSub,hh,hv2,h0,h1,h2,h3,h4,h5,h6,h7,h8,h9,h10,h11,h12,h13] <;> rfl
 ·have h0:dR nm wd ln ds bd=af:=iC (hprev 0 (by decide));have h1:dB wd=af:=iC (hprev 1 (by decide));have h2:dJ ln=af:=iC (hprev 2 (by decide));have h3:¬256<ds.length:=jt.2 (qK (hprev 3 (by decide)));have h4:bB ds.length (dL ds)=ak:=aV (hprev 4 (by decide));have h5:bB ds.length (bZ ds)=ak:=aV (hprev 5 (by decide));have h6:bB ds.length (bH ds)=ak:=aV (hprev 6 (by decide));have h7:bB ds.length (cS wd ds)=ak:=aV (hprev 7 (by decide));have h8:¬4096<dG ds:=Int.not_lt.2 (qK (hprev 8 (by decide)));have h9:bJ wd ds (things ds bd) 10=ak:=bP (hprev 9 (by decide));have h10:bJ wd ds (things ds bd) 11=ak:=bP (hprev 10 (by decide));have h11:bJ wd ds (things ds bd) 12=ak:=bP (hprev 11 (by decide));have h12:bJ wd ds (things ds bd) 13=ak:=bP (hprev 12 (by decide));have h13:bJ wd ds (things ds bd) 14=ak:=bP (hprev 13 (by decide));have h14:bJ wd ds (things ds bd) 15=ak:=bP (hprev 14 (by decide));have hh:65536<bS bd:=Nat.not_le.1 (d_yes hb)
  simp only[bC,eX,dQ,qH,fg,if_false,if_true,reduceIte,reduceCtorEq,Nat.reduceSub,hh,h0,h1,h2,h3,h4,h5,h6,h7,h8,h9,h10,h11,h12,h13,h14] <;> rfl
theorem faultS_none {nm:ByteArray}{wd ln:Int}{ds:List S70}{bd:List S119}(hprev:∀j,j<16->(cR nm wd ln ds bd j).2=ac):bC nm wd ln ds bd=⟨0,0,0⟩:=by
 have h0:dR nm wd ln ds bd=af:=iC (hprev 0 (by decide));have h1:dB wd=af:=iC (hprev 1 (by decide));have h2:dJ ln=af:=iC (hprev 2 (by decide));have h3:¬256<ds.length:=jt.2 (qK (hprev 3 (by decide)));have h4:bB ds.length (dL ds)=ak:=aV (hprev 4 (by decide));have h5:bB ds.length (bZ ds)=ak:=aV (hprev 5 (by decide));have h6:bB ds.length (bH ds)=ak:=aV (hprev 6 (by decide));have h7:bB ds.length (cS wd ds)=ak:=aV (hprev 7 (by decide));have h8:¬4096<dG ds:=Int.not_lt.2 (qK (hprev 8 (by decide)));have h9:bJ wd ds (things ds bd) 10=ak:=bP (hprev 9 (by decide));have h10:bJ wd ds (things ds bd) 11=ak:=bP (hprev 10 (by decide));have h11:bJ wd ds (things ds bd) 12=ak:=bP (hprev 11 (by decide));have h12:bJ wd ds (things ds bd) 13=ak:=bP (hprev 12 (by decide));have h13:bJ wd ds (things ds bd) 14=ak:=bP (hprev 13 (by decide));have h14:bJ wd ds (things ds bd) 15=ak:=bP (hprev 14 (by decide));have h15:¬65536<bS bd:=jt.2 (qK (hprev 15 (by decide)));simp only[bC,eX,dQ,qH,fg,if_false,if_true,reduceIte,reduceCtorEq,Nat.reduceSub,h0,h1,h2,h3,h4,h5,h6,h7,h8,h9,h10,h11,h12,h13,h14,h15]
end Go.Proofs.YtfigjpehecibeaaGreat.L
namespace Go.Proofs.YtfigjpehecibeaaGreat.L
open Go.RowKit
theorem lI {nm:ByteArray}{wd ln:Int}{ds:List S70}{bd:List S119}(h:(bC nm wd ln ds bd).e=0):∀k,k<16->(cR nm wd ln ds bd k).2=ac:=by
 rcases dK 16 (fun k=>(cR nm wd ln ds bd k).2)with ⟨_,h2⟩ | ⟨i,h0,h1,h2,h3⟩
 ·exact h2
 ·rw[s9 h0 h3 h2]at h
  exfalso
  revert h
  have hcs:i=0\/i=1\/i=2\/i=3\/i=4\/i=5\/i=6\/i=7\/i=8\/i=9\/i=10\/i=11\/i=12\/i=13\/i=14\/i=15:=by omega
  rcases hcs with rfl | rfl | rfl | rfl | rfl | rfl | rfl | rfl | rfl | rfl | rfl | rfl | rfl | rfl | rfl | rfl <;> intro h <;> cases h
end Go.Proofs.YtfigjpehecibeaaGreat.L
namespace Go.Proofs.YtfigjpehecibeaaGreat.L
open Go.RowKit Go.Proofs.YtfigjpehecibeaaGreatW.PrintWords Go.Proofs.YtfigjpehecibeaaGreatW.PrintLast Go.Proofs.YtfigjpehecibeaaGreatW.PrintMore Go.Proofs.YtfigjpehecibeaaGreat.Gr
section
attribute [local go_sem] G.cell
theorem run_store_fn (P:Program)(w:World)(a:Addr)(m:Mode)(fn:Fn)(x y:Array Value):(store a (.func fn x y) m).run P w=stored P w a (.func fn x y) m:=run_store P w a _ m rfl
attribute [local go_sem] run_store_fn
def BoxAt (b:Nat)(W:World):Prop:=b+17<=W.heap.size/\∀i,i<17->W.heap[b+i]? =(clL b)[i]?
theorem BoxAt.below {b:Nat}{W W':World}(h:BoxAt b W)(hb:Below W.heap.size W W'):BoxAt b W':=
 ⟨bi h.1 hb.size,fun i hi=>(hb.block (b+i) (by have:=h.1;omega)).trans (h.2 i hi)⟩
theorem sM {f:FuncId}{fn:Func}{c:Code}(hf:Tryz.prog.funcs[f]? =ag fn)(hname:(fn.name== "runtime.NumGoroutine")=ac)(hb:fn.body=ag c)(args:Array Value)(w:World):(callFunc f args).run au w=.ok (.enter f args) w:=by
 have h1:fn.name≠ "runtime.NumGoroutine" :=by simpa using hname
 simp[callFunc,hf,h1,hb]
theorem enter87 (args:Array Value)(w:World):(callFunc 246 args).run au w=.ok (.enter 246 args) w:=sM Tryz.func246 (by kernel_rfl) rfl args w
theorem enter91 (args:Array Value)(w:World):(callFunc 247 args).run au w=.ok (.enter 247 args) w:=sM Tryz.func247 (by kernel_rfl) rfl args w
theorem enter93 (args:Array Value)(w:World):(callFunc 249 args).run au w=.ok (.enter 249 args) w:=sM Tryz.func249 (by kernel_rfl) rfl args w
theorem cF_cases {k:Nat}(hk:k<16):cF k=246\/cF k=247\/cF k=249:=by
 have hcs:k=0\/k=1\/k=2\/k=3\/k=4\/k=5\/k=6\/k=7\/k=8\/k=9\/k=10\/k=11\/k=12\/k=13\/k=14\/k=15:=by omega
 rcases hcs with rfl | rfl | rfl | rfl | rfl | rfl | rfl | rfl | rfl | rfl | rfl | rfl | rfl | rfl | rfl | rfl <;> decide
theorem enterF {k:Nat}(hk:k<16)(args:Array Value)(w:World):(callFunc (cF k) args).run au w=.ok (.enter (cF k) args) w:=by
 rcases cF_cases hk with h | h | h <;> rw[h]
 ·exact enter87 args w
 ·exact enter91 args w
 ·exact enter93 args w
def RowAt (b:Nat)(adr:Addr)(W:World):Prop:=adr=⟨b+16,0,ak⟩/\BoxAt b W
theorem RowAt.below {b:Nat}{adr:Addr}{W W':World}(h:RowAt b adr W)(hb:Below W.heap.size W W'):RowAt b adr W':=⟨h.1,h.2.below hb⟩
theorem RowAt.at {b:Nat}{adr:Addr}{W:World}(h:RowAt b adr W){k:Nat}(hk:k<16):W.cell? (adr.add (k*2))=ag (.int .i64 (cE k))/\W.cell? ⟨(adr.add (k*2)).block,(adr.add (k*2)).off+1,ak⟩=ag (.func (.func (cF k)) #[] #[.pointer (ag ⟨b+k,0,ak⟩)]):=by
 obtain⟨rfl,hb⟩:=h;have q:=hb.2 16 (by decide)
 have hcs:k=0\/k=1\/k=2\/k=3\/k=4\/k=5\/k=6\/k=7\/k=8\/k=9\/k=10\/k=11\/k=12\/k=13\/k=14\/k=15:=by omega
 rcases hcs with rfl | rfl | rfl | rfl | rfl | rfl | rfl | rfl | rfl | rfl | rfl | rfl | rfl | rfl | rfl | rfl <;> exact⟨(aA q _).trans rfl,(aA q _).trans rfl⟩
theorem clauses_v {w:World}(g:G w):Calls au 128 #[] g.W fun e w'=>∃(b:Nat) (adr:Addr) (g':G w),e=.returned (.slice (ag adr) 16 16)/\w'=g'.W/\RowAt b adr g'.W:=by
 refine(clauses_calls g.W).mono ?_;rintro _ _ ⟨rfl,rfl⟩;have hb:=lM (clL g.W.heap.size) g.W;refine⟨g.W.heap.size,⟨g.W.heap.size+16,0,ak⟩,⟨_,g.below.trans (hb.mono g.below.size)⟩,rfl,rfl,rfl,?_,fun i hi=>mT _ _ i (by simpa[clL]using hi)⟩;have q:=mT (clL g.W.heap.size) g.W 16 (by simp[clL]);have:=aX (q.trans (show(clL g.W.heap.size)[16]? =ag _ from rfl))
 show g.W.heap.size+17<=((clL g.W.heap.size).foldl World.alloc g.W).heap.size
 omega
theorem fault_calls (nm:ByteArray)(wd ln:Int)(ds:List S70)(bd:List S119)(A3:Option Addr)(c3:Nat)(A4:Option Addr)(c4:Nat)(W:World)(hp:ProgAt W ds bd A3 c3 A4 c4)(hg:PGood nm wd ln ds bd)(r:Ans)(hr:r=bC nm wd ln ds bd):
 Calls au 81 #[.agg #[.string nm,.int .i64 wd,.int .i64 ln,.slice A3 ds.length c3,.slice A4 bd.length c4]] W fun e w'=>e=.returned (.tuple #[.int .i64 r.c,.int .i64 r.at',.int .i64 r.e])/\Below W.heap.size W w':=by
 have gout:=@gA W;have PAt:=aa hp;have HR:=aa hr;have HG:=aa hg;clear hp hr hg;go_enter Tryz.func81,Tryz.ntmps81
 go_upto_region 1 with (fail)
 refine aG ?_;intro gg;have goutW:∀(g:G (gw0 gg)),Below W.heap.size W g.W:=fun g=>gout g;go_wp2_with fail;refine(clauses_v gg).mono ?_;rintro _ _ ⟨b,adr,gg,rfl,rfl,hrow⟩;have HB:=aa hrow;clear hrow;go_wp2_with fail
 go_loopw [11] (fun i X=>∃(k:Nat) (g:G (gw0 gg)),i=.int .i64 k/\X=g.W/\k<=16/\Aside0 (RowAt b adr g.W/\∀j,j<k->(cR nm wd ln ds bd j).2=ac)) (fun i _=>16 - (intOf i).toNat)
 case atStart=>exact⟨0,gg,rfl,rfl,bk _,⟨HB.out,fun j hj=>absurd hj (da _)⟩⟩
 case round=>
  obtain⟨k,gx,rfl,rfl,hk,HK⟩:=hrel
  by_cases hlt:k<16
  ·have hk1:(k:Int)<16:=by omega
   obtain⟨fn,hfn⟩:∃fn,fn=cF k:=⟨_,rfl⟩;obtain⟨er,her⟩:∃er,er=cE k:=⟨_,rfl⟩;obtain⟨q0,q1⟩:=HK.out.1.at hlt;have hent:=enterF hlt;rw[←hfn]at q1 hent;rw[←her]at q0;have HF:=aa (aj hfn her);clear hfn her
   go_upto_region 4 with (fail)
   refine aG ?_;intro g2;have goutX:∀(g:G (gw0 g2)),Below gx.W.heap.size gx.W g.W:=fun g=>((ar _ _).alloc (aq _) _).trans (g.below.mono (by simp[gw0]));have KB:∀g:G (gw0 g2),g.W.heap[W.heap.size]? =ag (.cells #[.string nm,.int .i64 wd,.int .i64 ln,.slice A3 ds.length c3,.slice A4 bd.length c4] 25 (0,0)):=fun g=>aB (aB (aW _ _) gx.below) (goutX g);have z0:∀g:G (gw0 g2),g.W.cell? ⟨W.heap.size,0,ak⟩=ag (.string nm):=fun g=>(aA (KB g) 0).trans rfl;have z1:∀g:G (gw0 g2),g.W.cell? ⟨W.heap.size,1,ak⟩=ag (.int .i64 wd):=fun g=>(aA (KB g) 1).trans rfl;have z2:∀g:G (gw0 g2),g.W.cell? ⟨W.heap.size,2,ak⟩=ag (.int .i64 ln):=fun g=>(aA (KB g) 2).trans rfl;have z3:∀g:G (gw0 g2),g.W.cell? ⟨W.heap.size,3,ak⟩=ag (.slice A3 ds.length c3):=fun g=>(aA (KB g) 3).trans rfl;have z4:∀g:G (gw0 g2),g.W.cell? ⟨W.heap.size,4,ak⟩=ag (.slice A4 bd.length c4):=fun g=>(aA (KB g) 4).trans rfl;clear KB;have goutY:∀(g:G (gw0 g2)),Below (gw0 gg).heap.size (gw0 gg) g.W:=fun g=>(gx.below.alloc gx.below.size _).trans (g.below.mono (bi gx.below.size (by simp[gw0])));obtain⟨p,hp⟩:∃p,p=cR nm wd ln ds bd k:=⟨_,rfl⟩;have C:=clause_calls nm wd ln ds bd A3 c3 A4 c4 b g2.W (PAt.out.below ((goutW gx).trans ((goutX g2).mono (goutW gx).size))) HG.out (fun i hi=>((HK.out.1.below (goutX g2)).2.2 i (by omega))) k hlt HK.out.2;rw[←HF.out.1,←hp]at C;have HC:=aa C;have HP:=aa hp;clear C hp;go_wp2_with fail;refine(aD (g:=g2) HC.out).mono ?_;rintro _ _ ⟨rfl,g2,rfl⟩
   rcases aL p.2 with hb | hb
   ·have HBB:=aa hb;go_wp2_with fail;have y0:∀g:G g2.W,g.W.cell? ⟨gx.W.heap.size,0,ak⟩=ag (.int .i64 er):=fun g=>(aA (aB (aB (aW _ _) g2.below) g.below) 0).trans rfl;refine bG (by kernel_rfl) (by kernel_rfl) ?_
    repeat go_big_quiet_step (fail)
    refine wpQuiet_nil ?_;rintro _ ⟨gz,rfl⟩;go_wp2_with fail;go_ret3
    have e:r=⟨(k:Int)+1,p.1,er⟩:=by
     rw[HR.out,s9 hlt HK.out.2 (HP.out ▸ HBB.out),HF.out.2,HP.out]
    exact⟨iU e,(goutW gx).trans (((goutX g2).trans (gz.below.mono (goutX g2).size)).mono (goutW gx).size)⟩
   ·have HBB:=aa hb;go_wp2_with fail;exact⟨⟨k+1,mkG (goutY g2),by go_num,rfl,by omega,⟨HK.out.1.below (goutX g2),fun j hj=>(gy (j=k)).elim (fun h=>h ▸ HP.out ▸ HBB.out) (fun h=>HK.out.2 j (by omega))⟩⟩,by simp[intOf];omega⟩
  ·have hk1:¬(k:Int)<16:=by omega
   go_wp2_with fail;go_ret3
   have e:r=⟨0,0,0⟩:=by rw[HR.out,faultS_none fun j hj=>HK.out.2 j (by omega)]
   exact⟨iU e,goutW _⟩
end
section
attribute [local go_sem] G.cell
theorem size_le {nm:ByteArray}{wd ln:Int}{ds:List S70}{bd:List S119}(h:(bC nm wd ln ds bd).e=0):bS bd<=65536:=by
 rcases dK 16 (fun k=>(cR nm wd ln ds bd k).2)with ⟨_,h2⟩ | ⟨i,h0,h1,h2,h3⟩
 ·exact qK (h2 15 (by decide))
 ·rw[s9 h0 h3 h2]at h
  exfalso
  revert h
  have hcs:i=0\/i=1\/i=2\/i=3\/i=4\/i=5\/i=6\/i=7\/i=8\/i=9\/i=10\/i=11\/i=12\/i=13\/i=14\/i=15:=by omega
  rcases hcs with rfl | rfl | rfl | rfl | rfl | rfl | rfl | rfl | rfl | rfl | rfl | rfl | rfl | rfl | rfl | rfl <;> intro h <;> cases h
theorem tG (nm:ByteArray)(wd ln:Int)(ds:List S70)(bd:List S119)(A3:Option Addr)(c3:Nat)(A4:Option Addr)(c4:Nat)(w:World)(hp:ProgAt w ds bd A3 c3 A4 c4)(hg:PGood nm wd ln ds bd)(r:Ans)(hr:r=bC nm wd ln ds bd):
 Calls au 60 #[.agg #[.string nm,.int .i64 wd,.int .i64 ln,.slice A3 ds.length c3,.slice A4 bd.length c4]] w fun e w'=>e=.returned (.int .i64 r.e)/\Below w.heap.size w w':=by
 have gout:=@gA w;have PAt:=aa hp;have HR:=aa hr;have HG:=aa hg;clear hp hr hg;go_enter Tryz.func60,Tryz.ntmps60
 go_upto_region 1 with (fail)
 refine aG ?_;intro gg;go_wp2_with fail;refine(aD (g:=gg) (fault_calls nm wd ln ds bd A3 c3 A4 c4 gg.W (PAt.out.below (gout gg)) HG.out r HR.out)).mono ?_;rintro _ _ ⟨rfl,gg,rfl⟩;go_wp2_with fail;go_ret;exact⟨rfl,gout _⟩
theorem size_calls (nm:ByteArray)(wd ln:Int)(ds:List S70)(bd:List S119)(A3:Option Addr)(c3:Nat)(A4:Option Addr)(c4:Nat)(w:World)(hp:ProgAt w ds bd A3 c3 A4 c4)(hg:PGood nm wd ln ds bd)(r:Int × Int)(hr:r=sizeS 1099511627776 nm wd ln ds bd):
 Calls au 65 #[.agg #[.string nm,.int .i64 wd,.int .i64 ln,.slice A3 ds.length c3,.slice A4 bd.length c4]] w fun e w'=>e=.returned (.tuple #[.int .i64 r.1,.int .i64 r.2])/\Below w.heap.size w w':=by
 have gout:=@gA w;have PAt:=aa hp;have HR:=aa hr;have HG:=aa hg;clear hp hr hg;obtain⟨f,hf⟩:∃f,f=bC nm wd ln ds bd:=⟨_,rfl⟩;have HF:=aa hf;clear hf;go_enter Tryz.func65,Tryz.ntmps65
 go_upto_region 1 with (fail)
 refine aG ?_;intro gg;go_wp2_with fail;refine(aD (g:=gg) (tG nm wd ln ds bd A3 c3 A4 c4 gg.W (PAt.out.below (gout gg)) HG.out f HF.out)).mono ?_;rintro _ _ ⟨rfl,gg,rfl⟩
 by_cases h:f.e=0
 ·have H:=aa h
  have b:(f.e != 0)=ac:=by simp[h]
  clear h;obtain⟨m,hm⟩:∃m,m=min (bS bd) 1099511627776:=⟨_,rfl⟩;have HM:=aa hm;clear hm;go_wp2_with fail;refine(aD (g:=gg) (mK (rZ _ bd (aq _) ((Ot.cV bd).2 HG.out.good.bd) HG.out.sizes.2) HM.out A4 c4 gg.W (Kd.aF PAt.out.hb (gout gg)) PAt.out.hlb)).mono ?_;rintro _ _ ⟨rfl,gg,rfl⟩;go_wp2_with fail;go_ret2
  have e:r=((m:Int),0):=by rw[HR.out,sizeS,←HF.out,if_pos H.out,HM.out]
  exact⟨mZ (by rw[e]) (by rw[e]),gout _⟩
 ·have H:=aa h;have b:=bn h;clear h;go_wp2_with fail;go_ret2
  have e:r=(0,f.e):=by rw[HR.out,sizeS,←HF.out,if_neg H.out]
  exact⟨mZ (by rw[e]) (by rw[e]),gout _⟩
end
end Go.Proofs.YtfigjpehecibeaaGreat.L
namespace Go.Proofs.YtfigjpehecibeaaGreat.L
open Go.RowKit Go.Proofs.YtfigjpehecibeaaGreatW.PrintWords
theorem cJ {nm:ByteArray}{wd ln:Int}{ds:List S70}{bd:List S119}(h:(bC nm wd ln ds bd).e=0):∀i:Nat,i<ds.length->1<=(aI ds (i:Int)).f0/\((aI ds (i:Int)).f2=0\/dJ (aI ds (i:Int)).f2=af):=by
 intro i hi;have hr:=lI h;refine⟨?_,?_⟩
 ·have hform:dR nm wd ln ds bd=af:=iC (hr 0 (by decide));unfold dR at hform;simp only[cb]at hform;have:=fw.1 hform.2.1 _ (eJ hi);unfold dcB at this;simp only[cb,decide_eq_true_eq]at this;exact this.1.1.1.1
 ·have h6:=kE (aV (hr 5 (by decide))) i hi;unfold bZ at h6;simp only[Bool.and_eq_false_iff,bne_eq_false_iff_eq,Bool.not_eq_false']at h6;exact h6
theorem size_right {nm:ByteArray}{wd ln:Int}{ds:List S70}{bd:List S119}(h:(bC nm wd ln ds bd).e=0):(((bS bd:Nat):Int),(0:Int))=sizeS 1099511627776 nm wd ln ds bd:=by
 unfold sizeS;have:=size_le h;rw[if_pos h,di (by omega)]
end Go.Proofs.YtfigjpehecibeaaGreat.L
namespace Go.Proofs.YtfigjpehecibeaaGreat.Bn
theorem rolbit (m x n i:Nat)(hx:x<2 ^ m)(hn:n<m)(hi:i<m):
 ((x*2 ^ n ||| x / 2 ^ (m - n)) % 2 ^ m).testBit i=x.testBit ((i+(m - n)) % m):=by
 rw[Nat.testBit_mod_two_pow,Nat.testBit_or,←Nat.shiftLeft_eq,←Nat.shiftRight_eq_div_pow,Nat.testBit_shiftLeft,Nat.testBit_shiftRight]
 by_cases h:n<=i
 ·have e:(i+(m - n)) % m=i - n:=by
   rw[show i+(m - n)=(i - n)+m from by omega,Nat.add_mod_right];exact fp (by omega)
  have z:x.testBit (m - n+i)=ac:=Nat.testBit_lt_two_pow (br hx (ju (by decide) (by omega)));rw[e,z];simp[hi,h]
 ·have e:(i+(m - n)) % m=m - n+i:=by
   rw[Nat.add_comm];exact fp (by omega)
  rw[e];simp[hi,h]
theorem shlbit (m x n i:Nat)(hi:i<m):(x*2 ^ n % 2 ^ m).testBit i=(decide (n<=i)&&x.testBit (i - n)):=by
 rw[Nat.testBit_mod_two_pow,←Nat.shiftLeft_eq,Nat.testBit_shiftLeft];simp[hi]
theorem shrbit (m x n i:Nat)(hx:x<2 ^ m):(x / 2 ^ n).testBit i=(decide (i+n<m)&&x.testBit (i+n)):=by
 rw[←Nat.shiftRight_eq_div_pow,Nat.testBit_shiftRight,Nat.add_comm n i]
 by_cases h:i+n<m
 ·simp[h]
 ·have z:x.testBit (i+n)=ac:=Nat.testBit_lt_two_pow (br hx (ju (by decide) (by omega)));simp[h,z]
theorem sarbit (m x n i:Nat)(hx:x<2 ^ m)(hh:x.testBit (m - 1)=af)(hm:0<m)(hi:i<m):
 ((x+2 ^ m*(2 ^ n - 1)) / 2 ^ n).testBit i=x.testBit (min (i+n) (m - 1)):=by
 rw[←Nat.shiftRight_eq_div_pow,Nat.testBit_shiftRight,Nat.add_comm x,Nat.testBit_two_pow_mul_add _ hx,Nat.add_comm n i]
 by_cases h:i+n<m
 ·rw[if_pos h,di (by omega)]
 ·rw[if_neg h,iz (by omega),hh,lf]
  simp;omega
theorem mQ (x i:Nat):(x.testBit i).toNat=x / 2 ^ i % 2:=by
 rw[Nat.testBit_eq_decide_div_mod_eq];have:=ij (x / 2 ^ i) (show 0<2 by decide)
 by_cases h:x / 2 ^ i % 2=1 <;> simp[h]
 omega
theorem half (N j:Nat):2*(N / 2 ^ (j+1))+N / 2 ^ j % 2=N / 2 ^ j:=by
 rw[Nat.pow_succ,←Nat.div_div_eq_div_mul];omega
end Go.Proofs.YtfigjpehecibeaaGreat.Bn
namespace Go.Proofs.YtfigjpehecibeaaGreat.Bm
open Go.RowKit Go.Proofs.YtfigjpehecibeaaGreatW.PrintWords Go.Proofs.YtfigjpehecibeaaGreatW.PrintLast Go.Proofs.YtfigjpehecibeaaGreatW.PrintMore
theorem qN (n:Int):IntKind.u64.wrap n=n % 18446744073709551616:=by simp[IntKind.wrap,jf,js]
theorem i64w (n:Int):IntKind.i64.wrap n=wrap64 n:=IntWalk.i64_left n
theorem wf_i64 {a:Int}(h:(Lit.int .i64 a).wf=af): -9223372036854775808<=a/\a<=9223372036854775807:=by
 have hmin:IntKind.i64.min= -9223372036854775808:=rfl;have hmax:IntKind.i64.max=9223372036854775807:=rfl;simp only[Lit.wf,cb,decide_eq_true_eq]at h;omega
theorem wf_u64 {a:Int}(h:(Lit.int .u64 a).wf=af):∃n:Nat,a=n/\n<2 ^ 64:=by
 have hmin:IntKind.u64.min=0:=rfl;have hmax:IntKind.u64.max=18446744073709551615:=rfl;simp only[Lit.wf,cb,decide_eq_true_eq]at h;refine⟨a.toNat,by omega,by omega⟩
theorem p64:(2:Nat) ^ 64=18446744073709551616:=by decide
theorem p63:(2:Nat) ^ 63=9223372036854775808:=by decide
theorem pow_lt64 {m:Nat}(h:m<64):2 ^ m<=9223372036854775808:=by
 rw[←p63];exact ju (by decide) (by omega)
theorem gE {m:Nat}(h:m<=64):2 ^ m<=18446744073709551616:=by
 rw[←p64];exact ju (by decide) h
theorem sV (n:Int)(h₀:0<=n)(h₁:n<2 ^ 64):IntKind.u64.wrap n=n:=by
 rw[qN];have:(2:Int) ^ 64=18446744073709551616:=by decide
 omega
theorem and_nat {a b:Nat}(ha:a<2 ^ 64)(hb:b<2 ^ 64):Go.bits .and .u64 (a:Int) (b:Int)=((a &&& b:Nat):Int):=
 (bits_nat .u64 64 (by decide) sV a b ha hb).1
theorem or_nat {a b:Nat}(ha:a<2 ^ 64)(hb:b<2 ^ 64):Go.bits .or .u64 (a:Int) (b:Int)=((a ||| b:Nat):Int):=
 (bits_nat .u64 64 (by decide) sV a b ha hb).2
theorem xor_nat {a b:Nat}(ha:a<2 ^ 64)(hb:b<2 ^ 64):Go.bits .xor .u64 (a:Int) (b:Int)=((a ^^^ b:Nat):Int):=by
 have ha':a % 2 ^ IntKind.u64.bits=a:=fp ha;have hb':b % 2 ^ IntKind.u64.bits=b:=fp hb;simp only[Go.bits,BitVec.ofInt_natCast,BitVec.toNat_xor,BitVec.toNat_ofNat,ha',hb'];exact sV _ (bo _) (by exact_mod_cast Nat.xor_lt_two_pow ha hb)
theorem shl_nat (x:Nat){n:Int}{m:Nat}(hn:n=m)(hm:m<=64):shl .u64 (x:Int) n=((x*2 ^ m % 2 ^ 64:Nat):Int):=by
 subst hn;unfold shl;rw[show min ((m:Int).toNat) IntKind.u64.bits=m from by simp[jf];omega,qN,p64,jp,iy,Int.natCast_pow];rfl
theorem tmod_nat (a b:Nat):Int.tmod (a:Int) (b:Int)=((a % b:Nat):Int):=by rw[Int.tmod_eq_emod_of_nonneg (by omega)];simp
theorem tdiv_nat (a b:Nat):Int.tdiv (a:Int) (b:Int)=((a / b:Nat):Int):=by rw[Int.tdiv_eq_ediv_of_nonneg (by omega)];simp
theorem nA (a:Nat):IntKind.u64.wrap (a:Int)=((a % 2 ^ 64:Nat):Int):=by rw[qN,p64];simp
def trn (w:Int)(x:Nat):Nat:=if w<1 then 0 else if w ≥ 64 then x else x % 2 ^ w.toNat
theorem gC {w:Int}{m x:Nat}(hw:w=m)(h1:1<=m)(h2:m<=64)(hx:x<2 ^ 64):trn w x=x % 2 ^ m:=by
 subst hw;unfold trn;rw[if_neg (by omega)]
 by_cases h:(m:Int) ≥ 64
 ·rw[if_pos h]
  have:m=64:=by omega
  subst this;exact(fp hx).symm
 ·rw[if_neg h];simp
theorem sQ {w:Int}{m x:Nat}(hw:w=m)(h1:1<=m)(h2:m<=64)(hx:x<2 ^ 64):trn w x<2 ^ m:=by
 rw[gC hw h1 h2 hx];exact ij _ (df m)
theorem trn_le {w:Int}{x:Nat}(hx:x<2 ^ 64):trn w x<2 ^ 64:=by
 unfold trn
 split
 ·decide
 ·split
  ·exact hx
  ·exact gh (Nat.mod_le _ _) hx
theorem mask_is {w:Int}{x:Nat}(hx:x<2 ^ 64)(h1:¬w<1)(h2:¬w ≥ 64):0<=IntKind.u64.wrap w/\Go.bits .and .u64 (x:Int) (IntKind.u64.wrap ((shl .u64 1 (IntKind.u64.wrap w)) - 1))=(trn w x:Int)/\
 shl .u64 1 (IntKind.u64.wrap w)≠0/\Int.tmod (x:Int) (shl .u64 1 (IntKind.u64.wrap w))=(trn w x:Int):=by
 obtain⟨m,rfl⟩:=ew (show 0<=w by omega);have hp:2 ^ m<=9223372036854775808:=pow_lt64 (by omega);have hpos:0<2 ^ m:=df m
 have e:IntKind.u64.wrap (m:Int)=(m:Int):=by rw[qN];omega
 have es:shl .u64 1 (IntKind.u64.wrap (m:Int))=((2 ^ m:Nat):Int):=by
  rw[e,show(1:Int)=((1:Nat):Int) from rfl,shl_nat 1 rfl (by omega),Nat.one_mul,fp (by rw[p64];omega)]
 have et:trn (m:Int) x=x % 2 ^ m:=gC rfl (by omega) (by omega) hx;refine⟨by rw[e];omega,?_,?_,?_⟩
 ·rw[es,show((2 ^ m:Nat):Int) - 1=((2 ^ m - 1:Nat):Int) from by omega,nA,fp (by rw[p64];omega),and_nat hx (by rw[p64];omega),Nat.and_two_pow_sub_one_eq_mod,et]
 ·rw[es];omega
 ·rw[es,tmod_nat,et]
def sgn (w:Int)(x:Nat):Int:=if 1<=w/\w<=64 then(if 2 ^ (w - 1).toNat<=trn w x then(trn w x:Int) - ((2 ^ w.toNat:Nat):Int)else(trn w x:Int))else 0
theorem w64 (n:Int):wrap64 n=(n+9223372036854775808) % 18446744073709551616 - 9223372036854775808:=by unfold wrap64;rfl
theorem signed_prog {w:Int}{x:Nat}(hx:x<2 ^ 64)(h1:1<=w)(h2:w<=64):0<=IntKind.u64.wrap (wrap64 (64 - w))/\
 shr .i64 (wrap64 (shl .u64 (x:Int) (IntKind.u64.wrap (wrap64 (64 - w))))) (IntKind.u64.wrap (wrap64 (64 - w)))=sgn w x:=by
 obtain⟨m,rfl⟩:=ew (show 0<=w by omega);obtain⟨m,rfl⟩:∃k,m=k+1:=⟨m - 1,by omega⟩
 have e:IntKind.u64.wrap (wrap64 (64 - ((m+1:Nat):Int)))=((63 - m:Nat):Int):=by rw[qN,w64];omega
 have et:trn ((m+1:Nat):Int) x=x % 2 ^ (m+1):=gC rfl (by omega) (by omega) hx;refine⟨by rw[e];omega,?_⟩
 have hq:2 ^ (m+1)*2 ^ (63 - m)=2 ^ 64:=by rw[←Nat.pow_add];congr 1;omega
 have hh:2 ^ m*2 ^ (63 - m)=2 ^ 63:=by rw[←Nat.pow_add];congr 1;omega
 have hpos:0<2 ^ (63 - m):=df _;rw[e,shl_nat x rfl (by omega)]
 have em:x*2 ^ (63 - m) % 2 ^ 64=(x % 2 ^ (m+1))*2 ^ (63 - m):=by
  rw[←hq,Nat.mul_mod_mul_right]
 rw[em];unfold sgn;rw[if_pos ⟨by omega,by omega⟩,et,show(((m+1:Nat):Int) - 1).toNat=m from by omega,show((m+1:Nat):Int).toNat=m+1 from by omega];generalize ht:x % 2 ^ (m+1)=t
 have htl:t<2 ^ (m+1):=by rw[←ht];exact ij _ (df _)
 generalize hqe:2 ^ (63 - m)=q at*
 have hsh:∀z:Int,shr .i64 z ((63 - m:Nat):Int)=z / (q:Int):=by
  intro z;unfold shr;rw[show min (((63 - m:Nat):Int).toNat) IntKind.i64.bits=63 - m from by simp[jf];omega,←hqe]
  push_cast;rfl
 rw[hsh];have hlt:t*q<2 ^ (m+1)*q:=Nat.mul_lt_mul_of_pos_right htl hpos;rw[p64]at hq;rw[p63]at hh
 by_cases hge:2 ^ m<=t
 ·rw[if_pos hge];have hge':2 ^ m*q<=t*q:=fq q hge
  have:wrap64 ((t*q:Nat):Int)=((t:Int) - ((2 ^ (m+1):Nat):Int))*(q:Int):=by
   rw[Int.sub_mul,w64]
   have h3:((2 ^ (m+1):Nat):Int)*(q:Int)=18446744073709551616:=by rw[←iy,hq];rfl
   rw[h3];have h4:((t*q:Nat):Int)=(t:Int)*(q:Int):=iy _ _;rw[←h4];omega
  rw[this];exact Int.mul_ediv_cancel _ (by omega)
 ·rw[if_neg hge];have hge':t*q<2 ^ m*q:=Nat.mul_lt_mul_of_pos_right (by omega) hpos;rw[w64]
  have h5:(((t*q:Nat):Int)+9223372036854775808) % 18446744073709551616 - 9223372036854775808=((t*q:Nat):Int):=by omega
  rw[h5,iy];exact Int.mul_ediv_cancel _ (by omega)
theorem high_bit {t m:Nat}(h:t<2 ^ (m+1)):t / 2 ^ m % 2=if 2 ^ m<=t then 1 else 0:=by
 rw[Nat.pow_succ]at h;have hpos:=df m
 by_cases hge:2 ^ m<=t
 ·rw[if_pos hge,Nat.div_eq_of_lt_le (k:=1) (by omega) (by omega)]
 ·rw[if_neg hge,Nat.div_eq_of_lt (by omega)]
end Go.Proofs.YtfigjpehecibeaaGreat.Bm
namespace Go.Proofs.YtfigjpehecibeaaGreat.C
open Go.RowKit Bm
def movn (op:Int)(m x n:Nat):Nat:=
 if op=25 then x*2 ^ n % 2 ^ m else if op=26 then x / 2 ^ n
 else if op=27 then(if 2 ^ (m - 1)<=x then(x+2 ^ m*(2 ^ n - 1)) / 2 ^ n else x / 2 ^ n)
 else if op=29 then(x*2 ^ ((m - n) % m) ||| x / 2 ^ (m - (m - n) % m)) % 2 ^ m
 else(x*2 ^ n ||| x / 2 ^ (m - n)) % 2 ^ m
def pw (m:Nat):Bool:=m==1||m==2||m==4||m==8||m==16||m==32||m==64
def opn (op:Int)(m x y:Nat):Nat:=
 if op=17 then x &&& y else if op=18 then x ||| y else if op=19 then x ^^^ y
 else if op=20 then(x+y) % 2 ^ m else if op=21 then(x+2 ^ m - y) % 2 ^ m else if op=22 then x*y % 2 ^ m
 else if op=23 then(if y=0 then 2 ^ m - 1 else x / y)else(if y=0 then x else x % y)
def binn (op w:Int)(x y:Nat):Int × Int:=
 if op<17\/29<op then(0,73)else if ¬(1<=w/\w<=64)\/(25<=op/\pw w.toNat=ac)then(0,5)
 else if 25<=op then((movn op w.toNat (x % 2 ^ w.toNat) (y % 2 ^ w.toNat % w.toNat):Int),0)else((opn op w.toNat (x % 2 ^ w.toNat) (y % 2 ^ w.toNat):Int),0)
end Go.Proofs.YtfigjpehecibeaaGreat.C
namespace Go.Proofs.YtfigjpehecibeaaGreat.L
open Go.RowKit Bm C
def unW (k wd x:Int):Int:=if k=4 then(trn wd (18446744073709551615 - x).toNat:Int)else(trn wd ((-x) % 18446744073709551616).toNat:Int)
def opK (k:Int):Int:=if k=6 then 22 else if k=7 then 23 else if k=8 then 24 else if k=9 then 20 else if k=10 then 21 else if k=11 then 25 else if k=12 then 26 else if k=13 then 28 else if k=14 then 29 else if k=15 then 17 else if k=16 then 19 else if k=17 then 18 else if k=24 then 27 else 0
def binW (k wd x y:Int):Int:=(binn (opK k) wd x.toNat y.toNat).1
def cmpB (k wd x y:Int):Bool:=if k=18 then x==y else if k=19 then x != y else if k=20 then decide (x<y)else if k=21 then decide (x<=y)else if k=22 then decide (x > y)else if k=23 then decide (x ≥ y)else decide (sgn wd x.toNat<sgn wd y.toNat)
def cmpW (k wd x y:Int):Int:=if cmpB k wd x y=af then 1 else 0
def rowOf (R:List (List Int))(d:Nat):List Int:=R.getD d []
def dM (R:List (List Int))(d k:Nat):Int:=(rowOf R d).getD k 0
def putW (R:List (List Int))(d k:Nat)(v:Int):List (List Int):=R.set d ((rowOf R d).set k v)
def lkL (L:List (ByteArray × Int))(nm:ByteArray):Option Int:=(L.find? fun p=>eqS p.1 nm).map (·.2)
def dNo (ds:List S70)(nm:ByteArray):Nat:=(cG ds nm).getD 0
def nC (wd ln:Int)(ds:List S70)(R:List (List Int))(k:Int)(nm:ByteArray)(x y z:Int):Int × List S101:=
 if k=3 then(dM R (dNo ds nm) (x % ((rowOf R (dNo ds nm)).length:Int)).toNat,[⟨2,dNo ds nm,x % ((rowOf R (dNo ds nm)).length:Int) / ln⟩])
 else if k=4\/k=5 then(unW k wd x,[])
 else if k=26 then(if x≠0 then y else z,[])
 else if opK k≠0 then(binW k wd x y,if k=7\/k=8 then [⟨4,x,y⟩]else [])
 else(cmpW k wd x y,[])
mutual
def evE (wd ln:Int)(ds:List S70)(R:List (List Int))(L:List (ByteArray × Int)):S116->Int × List S101
 | ⟨k,num,nm,l⟩=>if k=1 then(num,[])else if k=2 then((lkL L nm).getD (dM R (dNo ds nm) 0),[])else
     ((nC wd ln ds R k nm ((eG wd ln ds R L l).1.getD 0 0) ((eG wd ln ds R L l).1.getD 1 0) ((eG wd ln ds R L l).1.getD 2 0)).1,(eG wd ln ds R L l).2++(nC wd ln ds R k nm ((eG wd ln ds R L l).1.getD 0 0) ((eG wd ln ds R L l).1.getD 1 0) ((eG wd ln ds R L l).1.getD 2 0)).2)
def eG (wd ln:Int)(ds:List S70)(R:List (List Int))(L:List (ByteArray × Int)):List S116->List Int × List S101
 | []=>([],[])
 |x::r=>((evE wd ln ds R L x).1::(eG wd ln ds R L r).1,(evE wd ln ds R L x).2++(eG wd ln ds R L r).2)
end
theorem evE_eq (wd ln:Int)(ds:List S70)(R:List (List Int))(L:List (ByteArray × Int))(e:S116):evE wd ln ds R L e=if e.f0=1 then(e.f1,[])else if e.f0=2 then((lkL L e.f2).getD (dM R (dNo ds e.f2) 0),[])else
 ((nC wd ln ds R e.f0 e.f2 ((eG wd ln ds R L e.f3).1.getD 0 0) ((eG wd ln ds R L e.f3).1.getD 1 0) ((eG wd ln ds R L e.f3).1.getD 2 0)).1,(eG wd ln ds R L e.f3).2++(nC wd ln ds R e.f0 e.f2 ((eG wd ln ds R L e.f3).1.getD 0 0) ((eG wd ln ds R L e.f3).1.getD 1 0) ((eG wd ln ds R L e.f3).1.getD 2 0)).2):=by
 obtain⟨a,b,c,l⟩:=e;rw[evE]
abbrev Sta:=List (List Int) × List S101
mutual
def exS (wd ln:Int)(ds:List S70):S119->List (ByteArray × Int)->Sta->Sta
 | ⟨k,nm,a,e,lo,hi,th,el⟩,L,s=>
   if k=1 then(putW s.1 (dNo ds nm) 0 (evE wd ln ds s.1 L e).1,s.2++(evE wd ln ds s.1 L e).2)
   else if k=2 then(putW s.1 (dNo ds nm) ((evE wd ln ds s.1 L a).1 % ((rowOf s.1 (dNo ds nm)).length:Int)).toNat (evE wd ln ds s.1 L e).1,s.2++(evE wd ln ds s.1 L a).2++(evE wd ln ds s.1 L e).2++[⟨3,dNo ds nm,(evE wd ln ds s.1 L a).1 % ((rowOf s.1 (dNo ds nm)).length:Int) / ln⟩])
   else if k=3 then if(evE wd ln ds s.1 L e).1≠0 then eO wd ln ds th L (s.1,s.2++(evE wd ln ds s.1 L e).2++[⟨1,1,0⟩])else eO wd ln ds el L (s.1,s.2++(evE wd ln ds s.1 L e).2++[⟨1,0,0⟩])
   else if k=4 then(bu (hi - lo).toNat).foldl (fun s (i:Nat)=>eO wd ln ds th (L++[(nm,lo+((i:Nat):Int))]) s) s
   else(s.1,s.2++[⟨5,dM s.1 (dNo ds nm) 0,0⟩])
def eO (wd ln:Int)(ds:List S70):List S119->List (ByteArray × Int)->Sta->Sta
 | [],_,s=>s
 |x::r,L,s=>eO wd ln ds r L (exS wd ln ds x L s)
end
theorem jB (wd ln:Int)(ds:List S70)(x:S119)(L:List (ByteArray × Int))(s:Sta):exS wd ln ds x L s=
 if x.f0=1 then(putW s.1 (dNo ds x.f1) 0 (evE wd ln ds s.1 L x.f3).1,s.2++(evE wd ln ds s.1 L x.f3).2)
 else if x.f0=2 then(putW s.1 (dNo ds x.f1) ((evE wd ln ds s.1 L x.f2).1 % ((rowOf s.1 (dNo ds x.f1)).length:Int)).toNat (evE wd ln ds s.1 L x.f3).1,s.2++(evE wd ln ds s.1 L x.f2).2++(evE wd ln ds s.1 L x.f3).2++[⟨3,dNo ds x.f1,(evE wd ln ds s.1 L x.f2).1 % ((rowOf s.1 (dNo ds x.f1)).length:Int) / ln⟩])
 else if x.f0=3 then if(evE wd ln ds s.1 L x.f3).1≠0 then eO wd ln ds x.f6 L (s.1,s.2++(evE wd ln ds s.1 L x.f3).2++[⟨1,1,0⟩])else eO wd ln ds x.f7 L (s.1,s.2++(evE wd ln ds s.1 L x.f3).2++[⟨1,0,0⟩])
 else if x.f0=4 then(bu (x.f5 - x.f4).toNat).foldl (fun s (i:Nat)=>eO wd ln ds x.f6 (L++[(x.f1,x.f4+(i:Int))]) s) s
 else(s.1,s.2++[⟨5,dM s.1 (dNo ds x.f1) 0,0⟩]):=by
 obtain⟨k,nm,a,e,lo,hi,th,el⟩:=x;rw[exS]
theorem exSs_app (wd ln:Int)(ds:List S70)(a b:List S119)(L:List (ByteArray × Int))(s:Sta):eO wd ln ds (a++b) L s=eO wd ln ds b L (eO wd ln ds a L s):=by
 induction a generalizing s with
 |nil=>rw[List.nil_append,eO]
 |cons x r ih=>rw[gp,eO,ih,eO]
theorem evEs_app (wd ln:Int)(ds:List S70)(R:List (List Int))(L:List (ByteArray × Int))(a:List S116)(x:S116):eG wd ln ds R L (a++[x])=((eG wd ln ds R L a).1++[(evE wd ln ds R L x).1],(eG wd ln ds R L a).2++(evE wd ln ds R L x).2):=by
 induction a with
 |nil=>simp[eG]
 |cons y r ih=>rw[gp,eG,ih,eG];simp
theorem evEs_len (wd ln:Int)(ds:List S70)(R:List (List Int))(L:List (ByteArray × Int))(l:List S116):(eG wd ln ds R L l).1.length=l.length:=by
 induction l with
 |nil=>simp[eG]
 |cons y r ih=>rw[eG];simp[ih]
theorem fin_len (wd ln:Int)(ds:List S70)(R:List (List Int))(k:Int)(nm:ByteArray)(x y z:Int):(nC wd ln ds R k nm x y z).2.length<=1:=by
 unfold nC
 repeat' split
 all_goals simp
mutual
theorem gU (wd ln:Int)(ds:List S70)(R:List (List Int))(L:List (ByteArray × Int)):∀e:S116,(evE wd ln ds R L e).2.length<=aM e
 | ⟨k,num,nm,l⟩=>by
   rw[evE,aM];have:=kI wd ln ds R L l
   split
   ·simp
   ·split
    ·simp
    ·have h:=fin_len wd ln ds R k nm ((eG wd ln ds R L l).1.getD 0 0) ((eG wd ln ds R L l).1.getD 1 0) ((eG wd ln ds R L l).1.getD 2 0);rw[ba];omega
theorem kI (wd ln:Int)(ds:List S70)(R:List (List Int))(L:List (ByteArray × Int)):∀l:List S116,(eG wd ln ds R L l).2.length<=bM l
 | []=>by simp[eG]
 |x::r=>by
  rw[eG,bM,ba];have:=gU wd ln ds R L x;have:=kI wd ln ds R L r;omega
end
theorem qV {f:Sta->Nat->Sta}{m:Nat}(h:∀s i,(f s i).2.length<=s.2.length+m)(n:Nat)(s:Sta):((bu n).foldl f s).2.length<=s.2.length+n*m:=by
 induction n with
 |zero=>simp
 |succ n ih=>
  rw[jz,List.foldl_append,List.foldl_cons,List.foldl_nil];have:=h ((bu n).foldl f s) n;rw[Nat.succ_mul];omega
mutual
theorem exS_seen (wd ln:Int)(ds:List S70):∀(x:S119) (L:List (ByteArray × Int)) (s:Sta),(exS wd ln ds x L s).2.length<=s.2.length+sizeT x
 | ⟨k,nm,a,e,lo,hi,th,el⟩,L,s=>by
   have he:=gU wd ln ds s.1 L e;have ha:=gU wd ln ds s.1 L a;have ht:=gZ wd ln ds th;have hl:=gZ wd ln ds el;rw[exS,sizeT]
   split
   ·rw[ba];omega
   split
   ·simp only[ba,bq];omega
   split
   ·split
    ·have:=ht L (s.1,s.2++(evE wd ln ds s.1 L e).2++[⟨1,1,0⟩]);simp only[ba,bq]at this;omega
    ·have:=hl L (s.1,s.2++(evE wd ln ds s.1 L e).2++[⟨1,0,0⟩]);simp only[ba,bq]at this;omega
   split
   ·have:=qV (f:=fun s (i:Nat)=>eO wd ln ds th (L++[(nm,lo+((i:Nat):Int))]) s) (m:=1+bS th) (fun s i=>by have:=ht (L++[(nm,lo+(i:Int))]) s;omega) (hi - lo).toNat s;omega
   ·rw[ba];simp
theorem gZ (wd ln:Int)(ds:List S70):∀(l:List S119) (L:List (ByteArray × Int)) (s:Sta),(eO wd ln ds l L s).2.length<=s.2.length+bS l
 | [],L,s=>by rw[eO,bS];omega
 |x::r,L,s=>by
  rw[eO,bS];have:=exS_seen wd ln ds x L s;have:=gZ wd ln ds r L (exS wd ln ds x L s);omega
end
end Go.Proofs.YtfigjpehecibeaaGreat.L
namespace Go.Proofs.YtfigjpehecibeaaGreat.L
open Go.RowKit Go.Maps Go.Proofs.YtfigjpehecibeaaGreatW.PrintWords Go.Proofs.YtfigjpehecibeaaGreatW.PrintLast Go.Proofs.YtfigjpehecibeaaGreatW.PrintMore Go.Proofs.YtfigjpehecibeaaGreat.Gr
structure Kt (ts:List Nat)(lb:Option Nat)(W W':World):Prop where
 size:W.heap.size<=W'.heap.size
 blk:∀(g:Nat) (cs:Array Value) (t:TypeId) (fr:Nat × Nat),W.heap[g]? =ag (.cells cs t fr)->t ∉ ts->W'.heap[g]? =ag (.cells cs t fr)
 maps:∀(g:Nat) es k,ag g≠lb->W.heap[g]? =ag (.map es k)->W'.heap[g]? =ag (.map es k)
theorem Kt.refl (ts:List Nat)(lb:Option Nat)(W:World):Kt ts lb W W:=⟨aq _,fun _ _ _ _ h _=>h,fun _ _ _ _ h=>h⟩
theorem Kt.trans {ts:List Nat}{lb:Option Nat}{a b c:World}(h:Kt ts lb a b)(k:Kt ts lb b c):Kt ts lb a c:=
 ⟨bi h.size k.size,fun g cs t fr hg ht=>k.blk g cs t fr (h.blk g cs t fr hg ht) ht,fun g es x hg he=>k.maps g es x hg (h.maps g es x hg he)⟩
theorem Kt.of_below {W W':World}(h:Below W.heap.size W W')(ts:List Nat)(lb:Option Nat):Kt ts lb W W':=
 ⟨h.size,fun g _ _ _ hg _=>(h.block g (aX hg)).trans hg,fun g _ _ _ hg=>(h.block g (aX hg)).trans hg⟩
theorem Kt.more {ts ts':List Nat}{lb lb':Option Nat}{W W':World}(h:Kt ts lb W W')(hs:∀t,t∈ts->t∈ts')(hl:∀g,ag g≠lb'->ag g≠lb):Kt ts' lb' W W':=
 ⟨h.size,fun g cs t fr hg ht=>h.blk g cs t fr hg fun x=>ht (hs _ x),fun g es x hg he=>h.maps g es x (hl g hg) he⟩
theorem Kt.set {ts:List Nat}{lb:Option Nat}{W W':World}(h:Kt ts lb W W'){g:Nat}{cs:Array Value}{t:TypeId}{fr:Nat × Nat}(hb:W'.heap[g]? =ag (.cells cs t fr))(ht:t∈ts)(j:Nat)(u:Value):Kt ts lb W (W'.setCell ⟨g,j,ak⟩ u):=by
 refine⟨by simpa[ji]using h.size,fun g' cs' t' fr' hg' ht'=> ?_,fun g' es x hl he=> ?_⟩
 ·have h1:=h.blk g' cs' t' fr' hg' ht';rw[dn _ _ _ _ (fun e=> ?_),h1];have e:g'=g:=e;rw[e,hb]at h1;injection h1 with h1;injection h1 with _ h1;exact ht' (h1 ▸ ht)
 ·have h1:=h.maps g' es x hl he;rw[dn _ _ _ _ (fun e=> ?_),h1];have e:g'=g:=e;rw[e,hb]at h1;cases h1
theorem Kt.grown {ts:List Nat}{lb:Option Nat}{W W' W2:World}(h:Kt ts lb W W'){row:Option Nat}(hg:W'.grownBy W2 row)(hr:∀k,row=ag k->∃cs t fr,t∈ts/\W'.heap[k]? =ag (.cells cs t fr)):Kt ts lb W W2:=by
 refine⟨bi h.size hg.size,fun g cs t fr hb ht=> ?_,fun g es x hl he=> ?_⟩
 ·have h1:=h.blk g cs t fr hb ht;rw[hg.block g (aX h1) (fun e=> ?_),h1];obtain⟨cs',t',fr',h2,h3⟩:=hr g e.symm;rw[h1]at h3;injection h3 with h3;injection h3 with _ h3;exact ht (h3 ▸ h2)
 ·have h1:=h.maps g es x hl he;rw[hg.block g (aX h1) (fun e=> ?_),h1];obtain⟨cs',t',fr',h2,h3⟩:=hr g e.symm;rw[h1]at h3;cases h3
theorem Kt.cell {ts:List Nat}{lb:Option Nat}{W W':World}(h:Kt ts lb W W'){g:Nat}{cs:Array Value}{t:TypeId}(hb:W.heap[g]? =ag (.cells cs t (0,0)))(ht:t ∉ ts)(i:Nat):W'.cell? ⟨g,i,ak⟩=cs[i]? :=aA (h.blk g cs t _ hb ht) i
theorem Kt.row {ts:List Nat}{lb:Option Nat}{W W':World}(h:Kt ts lb W W'){α:Type}{d:Kd α}{e base:Nat}{ok:Nat->Prop}{v:Value}{xs:List α}(hr:d.R e W base ok v xs)(he:∀q,q∈e::d.E->q ∉ ts):d.R e W' base ok v xs:=
 Kd.dW (Kd.R_move (Kd.d7 hr) fun k hk=>by
  obtain⟨_,_,_,q,hq,cells,hc⟩:=hk
  rw[hc];exact h.blk k cells q _ hc (he q hq)) fun k hk=>hk.1
theorem Kt.own {ts:List Nat}{lb:Option Nat}{W W':World}(h:Kt ts lb W W'){H:Type}{P:Program}{k:TypeId}{R:Value->Option (DataW H × List MemPlace)}{b n:Nat}{D:DataW H}(hm:W.ownsMap P k R b n D)(hb:ag b≠lb):W'.ownsMap P k R b n D:=by
 obtain⟨es,clock,h1,h2⟩:=hm;exact⟨es,clock,h.maps b es clock hb h1,h2⟩
def kSl:Kd (Nat × Nat × Nat):=Kd.scalar (fun p=>.slice (ag ⟨p.1,0,ak⟩) p.2.1 p.2.2) (fun _=>rfl)
def zSl:Nat × Nat × Nat:=(0,0,0)
def jI (w:World)(b:Nat)(l:List Int):Prop:=∃cs:Array Value,w.heap[b]? =ag (.cells cs 74 (0,0))/\∀k,k<l.length->cs[k]? =ag (.int .u64 (l.getD k 0))
theorem jI.set {w:World}{b:Nat}{l:List Int}(h:jI w b l){k:Nat}(hk:k<l.length)(v:Int):jI (w.setCell ⟨b,k,ak⟩ (.int .u64 v)) b (l.set k v):=by
 obtain⟨cs,hb,hc⟩:=h;refine⟨_,bU hb k _,fun j hj=> ?_⟩;rw[List.length_set]at hj;have h1:=hc j hj
 by_cases e:j=k
 ·subst e;have hlt:j<cs.size:=(ck.1 h1).1;rw[Array.getElem?_setIfInBounds,if_pos rfl,if_pos hlt];simp[aw,jr,hk]
 ·rw[Array.getElem?_setIfInBounds,if_neg (Ne.symm e),h1];simp[aw,jr,Ne.symm e]
theorem jI.far {w:World}{b:Nat}{l:List Int}(h:jI w b l){p:Addr}(hp:b≠p.block)(u:Value):jI (w.setCell p u) b l:=by
 obtain⟨cs,hb,hc⟩:=h;exact⟨cs,blk_far hb hp u,hc⟩
theorem jI.kt {ts:List Nat}{lb:Option Nat}{w w':World}(hk:Kt ts lb w w'){b:Nat}{l:List Int}(h:jI w b l)(ht:74 ∉ ts):jI w' b l:=by
 obtain⟨cs,hb,hc⟩:=h;exact⟨cs,hk.blk b cs 74 _ hb ht,hc⟩
structure RowsT (w:World)(base:Nat)(v:Value)(ts:List (Nat × Nat × Nat))(R:List (List Int)):Prop where
 out:kSl.R 36 w base (fun _=>True) v ts
 len:ts.length=R.length
 row:∀i,i<R.length->base<=(ts.getD i zSl).1/\(ts.getD i zSl).2.1=(rowOf R i).length/\jI w (ts.getD i zSl).1 (rowOf R i)
 ne:∀i j,i<R.length->j<R.length->i≠j->(ts.getD i zSl).1≠(ts.getD j zSl).1
def RowsB (w:World)(base:Nat)(v:Value)(R:List (List Int)):Prop:=∃ts,RowsT w base v ts R
theorem RowsT.kt {ts:List Nat}{lb:Option Nat}{w w':World}(hk:Kt ts lb w w'){base:Nat}{v:Value}{l:List (Nat × Nat × Nat)}{R:List (List Int)}(h:RowsT w base v l R)(h36:36 ∉ ts)(h74:74 ∉ ts):RowsT w' base v l R:=by
 refine⟨hk.row h.out ?_,h.len,fun i hi=>⟨(h.row i hi).1,(h.row i hi).2.1,(h.row i hi).2.2.kt hk h74⟩,h.ne⟩;intro q hq
 have:q=36:=by simpa[kSl,Kd.scalar]using hq
 rw[this];exact h36
theorem RowsB.kt {ts:List Nat}{lb:Option Nat}{w w':World}(hk:Kt ts lb w w'){base:Nat}{v:Value}{R:List (List Int)}(h:RowsB w base v R)(h36:36 ∉ ts)(h74:74 ∉ ts):RowsB w' base v R:=h.imp fun l h=>h.kt hk h36 h74
theorem RowsT.at' {w:World}{base:Nat}{v:Value}{l:List (Nat × Nat × Nat)}{R:List (List Int)}(h:RowsT w base v l R){d:Nat}(hd:d<R.length):∃(A:Addr) (cap c:Nat),v=.slice (ag A) R.length cap/\w.cell? (A.add d)=ag (.slice (ag ⟨(l.getD d zSl).1,0,ak⟩) (rowOf R d).length c)/\base<=(l.getD d zSl).1/\
 (∃cs,w.heap[(l.getD d zSl).1]? =ag (.cells cs 74 (0,0)))/\(∀k,k<(rowOf R d).length->w.cell? ⟨(l.getD d zSl).1,k,ak⟩=ag (.int .u64 (dM R d k))/\∀x,RowsT (w.setCell ⟨(l.getD d zSl).1,k,ak⟩ (.int .u64 x)) base v l (putW R d k x)):=by
 obtain⟨A0,cap,rfl,hl,hC⟩:=Kd.cO h.out
 have hdl:d<l.length:=by rw[h.len];exact hd
 obtain⟨A,c0,rfl,_,hK,hc⟩:=Kd.oZ hC zSl (d:Int) (by omega) (by omega);rw[ax]at hK hc;obtain⟨hb,hn,hi⟩:=h.row d hd;have hK:c0=[.slice (ag ⟨(l.getD d zSl).1,0,ak⟩) (l.getD d zSl).2.1 (l.getD d zSl).2.2]:=hK;have h0:=hc 0 _ (by rw[hK];rfl);rw[show kSl.sz=1 from rfl,ib,gm,hn]at h0;obtain⟨cs,hbb,hcs⟩:=hi;refine⟨A,cap,_,by rw[h.len],h0,hb,⟨cs,hbb⟩,fun k hk=>⟨(aA hbb k).trans (hcs k hk),fun x=>⟨?_,?_,fun i hi=> ?_,fun i j hi hj=> ?_⟩⟩⟩
 ·exact Kd.R_set h.out hbb (fun q hq=>by have:q=36:=by simpa[kSl,Kd.scalar]using hq
                                         rw[this];decide) k _
 ·rw[h.len];simp[putW]
 ·have hi':i<R.length:=by simpa[putW]using hi
  obtain⟨g1,g2,g3⟩:=h.row i hi'
  by_cases e:i=d
  ·subst e
   have e2:rowOf (putW R i k x) i=(rowOf R i).set k x:=by simp[rowOf,putW,aw,jr,hi']
   rw[e2,List.length_set];exact⟨g1,g2,g3.set hk x⟩
  ·have e2:rowOf (putW R d k x) i=rowOf R i:=by simp[rowOf,putW,aw,jr,Ne.symm e]
   rw[e2];exact⟨g1,g2,g3.far (p:=⟨(l.getD d zSl).1,k,ak⟩) (h.ne i d hi' hd e) _⟩
 ·have hl:(putW R d k x).length=R.length:=by simp[putW]
  rw[hl]at hi hj;exact h.ne i j hi hj
theorem RowsB.at' {w:World}{base:Nat}{v:Value}{R:List (List Int)}(h:RowsB w base v R){d:Nat}(hd:d<R.length):∃(A:Addr) (cap b c:Nat),v=.slice (ag A) R.length cap/\w.cell? (A.add d)=ag (.slice (ag ⟨b,0,ak⟩) (rowOf R d).length c)/\base<=b/\
 (∃cs,w.heap[b]? =ag (.cells cs 74 (0,0)))/\(∀k,k<(rowOf R d).length->w.cell? ⟨b,k,ak⟩=ag (.int .u64 (dM R d k))/\∀x,RowsB (w.setCell ⟨b,k,ak⟩ (.int .u64 x)) base v (putW R d k x)):=by
 obtain⟨l,h⟩:=h;obtain⟨A,cap,c,h1,h2,h3,h4,h5⟩:=h.at' hd;exact⟨A,cap,_,c,h1,h2,h3,h4,fun k hk=>⟨(h5 k hk).1,fun x=>⟨l,(h5 k hk).2 x⟩⟩⟩
abbrev DU:=DataW Unit
abbrev rP (nm:ByteArray):Lit:=.string nm.data.toList
theorem lJ:Keyed au 9:=string_keyed jo
theorem zero3 (w:World):(zeroValue 3).run au w=.ok (.int .i64 0) w:=by kernel_rfl
theorem zero74 (w:World):(zeroValue 74).run au w=.ok (.int .u64 0) w:=by kernel_rfl
def AtOK (ds:List S70)(D:DU):Prop:=∀nm i,cG ds nm=ag i->∀z,D.atKey (rP nm) z=.lit (.int .i64 (i:Int))
structure LoOK (L:List (ByteArray × Int))(D:DU):Prop where
 size:Maps.size D<=L.length
 at':∀nm,Maps.has D (rP nm)=(lkL L nm).isSome/\∀v,lkL L nm=ag v->∀z,D.atKey (rP nm) z=.lit (.int .u64 v)
structure Cfg where
 w0:World
 nm:ByteArray
 wd:Int
 ln:Int
 ds:List S70
 bd:List S119
 A3:Option Addr
 c3:Nat
 A4:Option Addr
 c4:Nat
 mb:Nat
 eb:Nat
 ab:Nat
 lb:Nat
 most:Int
abbrev Cfg.cells (c:Cfg)(vr:Value):Array Value:= #[.string c.nm,.int .i64 c.wd,.int .i64 c.ln,.slice c.A3 c.ds.length c.c3,.slice c.A4 c.bd.length c.c4,.map (ag c.ab),vr,.map (ag c.lb),.iface 80 (.pointer (ag ⟨c.eb,0,ak⟩))]
def EyeAt (c:Cfg)(W:World)(T:List S101):Prop:=∃vt,W.heap[c.eb]? =ag (.cells #[vt,.int .i64 c.most] 84 (0,0))/\lE.R 101 W c.w0.heap.size (fun _=>True) vt T
structure MAt (c:Cfg)(R:List (List Int))(L:List (ByteArray × Int))(T:List S101)(W:World):Prop where
 low:Below c.w0.heap.size c.w0 W
 base:c.w0.heap.size<=c.mb/\c.w0.heap.size<=c.eb/\c.w0.heap.size<=c.ab/\c.w0.heap.size<=c.lb/\c.ab≠c.lb
 hm:∃vr,W.heap[c.mb]? =ag (.cells (c.cells vr) 93 (0,0))/\RowsB W c.w0.heap.size vr R
 he:EyeAt c W T
 ha:∃D:DU,W.ownsMap au 9 (plainElem au 3) c.ab c.ds.length D/\AtOK c.ds D
 hl:∃D:DU,W.ownsMap au 9 (plainElem au 74) c.lb (Maps.size D) D/\LoOK L D
theorem MAt.seen {c:Cfg}{R:List (List Int)}{L:List (ByteArray × Int)}{T T':List S101}{W W':World}(h:MAt c R L T W){ts:List Nat}(hk:Kt ts ak W W')(h93:93 ∉ ts)(h36:36 ∉ ts)(h74:74 ∉ ts)(low:Below c.w0.heap.size c.w0 W')(he:EyeAt c W' T'):MAt c R L T' W':=by
 obtain⟨vr,g1,g2⟩:=h.hm;obtain⟨D,a1,a2⟩:=h.ha;obtain⟨E,l1,l2⟩:=h.hl;exact⟨low,h.base,⟨vr,hk.blk _ _ _ _ g1 h93,g2.kt hk h36 h74⟩,he,⟨D,hk.own a1 (by simp),a2⟩,⟨E,hk.own l1 (by simp),l2⟩⟩
theorem EyeAt.below {c:Cfg}{W W':World}{T:List S101}(h:EyeAt c W T)(hb:Below W.heap.size W W'):EyeAt c W' T:=by
 obtain⟨vt,h1,h2⟩:=h;exact⟨vt,aB h1 hb,Kd.bF h2 hb⟩
theorem MAt.below {c:Cfg}{R:List (List Int)}{L:List (ByteArray × Int)}{T:List S101}{W W':World}(h:MAt c R L T W)(hb:Below W.heap.size W W'):MAt c R L T W':=
 h.seen (Kt.of_below hb [] ak) (by simp) (by simp) (by simp) (h.low.trans (hb.mono h.low.size)) (h.he.below hb)
theorem MAt.look {c:Cfg}{R:List (List Int)}{L:List (ByteArray × Int)}{T:List S101}{W:World}(h:MAt c R L T W){nm:ByteArray}(hn:nm.size<=maxLen)(hf:(cG c.ds nm).isSome=af):(iw 88 (.map (ag c.ab)) (.string nm) ac).run au W=.ok (.int .i64 (dNo c.ds nm:Int)) W:=by
 obtain⟨D,h1,h2⟩:=h.ha;obtain⟨i,hi⟩:=Option.isSome_iff_exists.1 hf;obtain⟨x,e,hx,_⟩:=h1.lookup_int lJ Tryz.underlying88 kg (zero3 W) (kw jo hn);rw[h2 nm i hi]at hx;injection hx with hx;injection hx with _ hx;rw[e,←hx,dNo,hi];rfl
theorem MAt.loop {c:Cfg}{R:List (List Int)}{L:List (ByteArray × Int)}{T:List S101}{W:World}(h:MAt c R L T W){nm:ByteArray}(hn:nm.size<=maxLen):(iw 89 (.map (ag c.lb)) (.string nm) af).run au W=.ok (.tuple #[.int .u64 ((lkL L nm).getD 0),.bool (lkL L nm).isSome]) W:=by
 obtain⟨D,h1,h2⟩:=h.hl;obtain⟨v,ps,e,hv⟩:=h1.look_ok lJ Tryz.underlying89 (zero74 W) (plainElem_int ky (by decide)) (kw jo hn);obtain⟨x,rfl,hx,_⟩:=plainElem_int_inv ky hv;have hh:=(h2.at' nm).1;rw[hh]at e;rw[e];have hx:=congrArg Prod.fst hx
 cases hl:lkL L nm with
 |none=>
  rw[hl]at hh;rw[atKey_of_not_has hh]at hx;injection hx with hx;injection hx with _ hx;rw[←hx];rfl
 |some v=>
  rw[(h2.at' nm).2 v hl]at hx;injection hx with hx;injection hx with _ hx;rw[←hx];rfl
theorem info101:(Tryz.prog.info? 101).map (fun i=>(i.zero,i.size,i.bytes))=ag (ag (.agg #[.int .i64 0,.int .u64 0,.int .u64 0]),3,24):=by kernel_rfl
theorem under38:Tryz.prog.underlying 38=ag (.slice 101):=by kernel_rfl
theorem eye_set {c:Cfg}{W W1:World}{vt v1:Value}{T T':List S101}(hb:W.heap[c.eb]? =ag (.cells #[vt,.int .i64 c.most] 84 (0,0)))(hr:lE.R 101 W c.w0.heap.size (fun _=>True) vt T)(hg:W.grownBy W1 vt.ownBlock)(h1:lE.R 101 W1 c.w0.heap.size (fun _=>True) v1 T')(hB:Below c.w0.heap.size c.w0 W1)(heb:c.w0.heap.size<=c.eb):
 EyeAt c (W1.setCell ⟨c.eb,0,ak⟩ v1) T'/\Kt [84,101] ak W (W1.setCell ⟨c.eb,0,ak⟩ v1)/\Below c.w0.heap.size c.w0 (W1.setCell ⟨c.eb,0,ak⟩ v1)/\W1.heap[c.eb]? =ag (.cells #[vt,.int .i64 c.most] 84 (0,0)):=by
 have hne:ag c.eb≠vt.ownBlock:=Kd.R_ne hr hb (by decide);have hb1:=fV hb hg hne
 have hk:Kt [84,101] ak W W1:=(Kt.refl _ _ _).grown hg fun k hk=>by
  obtain⟨inner,ho⟩:=Kd.mH hr;obtain⟨cells,hc⟩:=dO ho k hk;exact⟨cells,101,_,by simp,hc⟩
 refine⟨⟨v1,by simpa using bU hb1 0 v1,Kd.R_set h1 hb1 (fun q hq=> ?_) 0 _⟩,hk.set hb1 (by simp) 0 v1,hB.setCell (p:=⟨c.eb,0,ak⟩) heb _,hb1⟩
 have:q=101:=by simpa[lE,Kd.iso,Kd.pair,Kd.int,Kd.scalar]using hq
 rw[this];decide
theorem lH (c:Cfg){T:List S101}(W:World)(k a b:Int)(hE:EyeAt c W T)(hB:Below c.w0.heap.size c.w0 W)(heb:c.w0.heap.size<=c.eb)(hl:T.length<1073741824):
 Calls au 310 #[.pointer (ag ⟨c.eb,0,ak⟩),.agg #[.int .i64 k,.int .u64 a,.int .u64 b]] W fun r W'=>r=.returned (.tuple #[])/\EyeAt c W' (T++[⟨k,a,b⟩])/\Kt [84,101] ak W W'/\Below c.w0.heap.size c.w0 W':=by
 obtain⟨vt,hb,hr⟩:=hE;have HR:=aa (aj hb (aj hr (aj hB (aj heb hl))));clear hb hr hB heb hl;go_enter Tryz.func310,Tryz.ntmps310
 go_upto_region 1 with (fail)
 obtain⟨X,hX⟩:∃X,X=W.alloc (.cells #[.int .i64 k,.int .u64 a,.int .u64 b] 101):=⟨_,rfl⟩
 have hXB:Below W.heap.size W X:=by rw[hX];exact(ar _ _).alloc (aq _) _
 have hbx:X.heap[W.heap.size]? =ag (.cells #[.int .i64 k,.int .u64 a,.int .u64 b] 101 (0,0)):=by rw[hX];exact aW _ _
 rw[←hX];clear hX;refine aG ?_;intro gg;have HX:=aa (show ∀g:G X,Below W.heap.size W g.W from fun g=>hXB.trans (g.below.mono hXB.size));have c0:∀g:G X,g.W.cell? ⟨c.eb,0,ak⟩=ag vt:=fun g=>(aA (aB HR.out.1 (HX.out g)) 0).trans rfl;have e0:∀g:G X,g.W.cell? ⟨W.heap.size,0,ak⟩=ag (.int .i64 k):=fun g=>(aA (aB hbx g.below) 0).trans rfl;have e1:∀g:G X,g.W.cell? ⟨W.heap.size,1,ak⟩=ag (.int .u64 a):=fun g=>(aA (aB hbx g.below) 1).trans rfl;have e2:∀g:G X,g.W.cell? ⟨W.heap.size,2,ak⟩=ag (.int .u64 b):=fun g=>(aA (aB hbx g.below) 2).trans rfl;have HD:=aa (show ∀g:G X,lE.R 101 g.W c.w0.heap.size (fun _=>True) vt T/\Below c.w0.heap.size c.w0 g.W/\c.w0.heap.size<=g.W.heap.size from fun g=>⟨Kd.bF HR.out.2.1 (HX.out g),HR.out.2.2.1.trans ((HX.out g).mono HR.out.2.2.1.size),bi HR.out.2.2.1.size (HX.out g).size⟩);clear hXB hbx;refine eP (n:=11) (S:=fun w'=>∃g':G _,w'=g'.W) (ds:=[7,10]) #[ac,ac,ac,ac,ac,ac,ac,ac,ac,ac,ac] (by kernel_rfl) rfl rfl ⟨mkG (gg.2.drew),rfl⟩ (fun hHeld=> ?_);obtain⟨gd,hgd⟩:=hHeld;rw[hgd];clear hgd;refine aP (i:=0) (N:=ag 4) (v:= ?_) (a':= ?_) #[af,ac,ac,ac,ac,ac,ac,ac,ac,ac,ac] rfl rfl (by kernel_rfl) (fun _ _ _ h=>h) (bc ⟨by rfl,?_⟩) ?_ ?_;rotate_left
 ·intro w';go_simp;with_reducible rfl
 rotate_left
 ·simp only[ay,ae,ah,ai,aJ,aK];rfl
 refine aP (i:=1) (N:=ag 5) (v:= ?_) (a':= ?_) #[af,af,ac,ac,ac,ac,ac,ac,ac,ac,ac] rfl rfl (by kernel_rfl) (fun _ _ _ h=>h) (bc ⟨by rfl,?_⟩) ?_ ?_;rotate_left
 ·intro w';go_simp;with_reducible rfl
 rotate_left
 ·simp only[ay,ae,ah,ai,aJ,aK];rfl
 refine aP (i:=2) (N:=ag 6) (v:= ?_) (a':= ?_) #[af,af,af,ac,ac,ac,ac,ac,ac,ac,ac] rfl rfl (by kernel_rfl) (fun _ _ _ h=>h) (bc ⟨by rfl,?_⟩) ?_ ?_;rotate_left
 ·intro w';go_simp;with_reducible rfl
 rotate_left
 ·simp only[ay,ae,ah,ai,aJ,aK];rfl
 refine aP (i:=3) (N:=ag 7) (v:= ?_) (a':= ?_) #[af,af,af,af,ac,ac,ac,ac,ac,ac,ac] rfl rfl (by kernel_rfl) (fun _ _ _ h=>h) (bc ⟨by rfl,?_⟩) ?_ ?_;rotate_left
 ·intro w';go_simp;with_reducible rfl
 rotate_left
 ·simp only[ay,ae,ah,ai,aJ,aK];rfl
 refine cY (i:=4) (N:=ag 8) (v:= ?_) (a':= ?_) #[af,af,af,af,af,ac,ac,ac,ac,ac,ac] rfl rfl (by kernel_rfl) (fun _ _ _ h=>h) (bc ⟨by rfl,?_⟩) ⟨gd,rfl⟩ ?_ ?_;rotate_left
 ·rintro w' ⟨g',rfl⟩;go_simp;with_reducible rfl
 rotate_left
 ·simp only[ay,ae,ah,ai,aJ,aK];rfl
 refine cY (i:=5) (N:=ag 9) (v:= ?_) (a':= ?_) #[af,af,af,af,af,af,ac,ac,ac,ac,ac] rfl rfl (by kernel_rfl) (fun _ _ _ h=>h) (bc ⟨by rfl,?_⟩) ⟨gd,rfl⟩ ?_ ?_;rotate_left
 ·rintro w' ⟨g',rfl⟩;go_simp;with_reducible rfl
 rotate_left
 ·simp only[ay,ae,ah,ai,aJ,aK];rfl
 refine kH (i:=6) (N:=ag 10) #[af,af,af,af,af,af,af,ac,ac,ac,ac] rfl rfl (by kernel_rfl) (by simp) (fun Kr hKr=> ?_);refine eC (v:=.slice (ag ⟨gd.W.heap.size,0,ak⟩) 1 1) (w1:=gd.W.alloc (.cells #[.int .i64 k,.int .u64 a,.int .u64 b] 101)) (by rfl) (by first | (go_simp;done) | (go_simp;rfl)) ?_;refine hKr.out _ _ ⟨mkG (G.ball gd _),rfl⟩ (fun _=> ?_);clear hKr Kr;refine cW (a':= ?_) ?_ ?_;rotate_left
 ·show ay _ (ag 10) _ = _
  simp only[ay,ae,ah,ai,aJ,aK];rfl
 refine o4 (i:=7) (N:=ag 11) #[af,af,af,af,af,af,af,af,ac,ac,ac] rfl rfl (by kernel_rfl) (by simp) (fun Kr hKr=> ?_);refine Kd.iJ lE (w0:=c.w0) c.w0.heap.size (by rfl) (.tmp 8) (.tmp 10) 38 101 (.agg #[.int .i64 0,.int .u64 0,.int .u64 0]) 24 rfl under38 info101 rfl (show 0<3 by decide) (by decide) vt T ⟨k,a,b⟩ [.int .i64 k,.int .u64 a,.int .u64 b] (fun _=>True) (fun _=>False) (by rfl) (by rfl) (k101_mkM _ _ _ _) (fun _ h=>h.elim) (fun _ _=>trivial) (HD.out gd).1 (HD.out gd).2.1 (HD.out gd).2.2 (by have:=HR.out.2.2.2.2;omega) ?_;intro v1 w1 hr1 hb1 hg1 hat1;have HE:=aa (eye_set (aB HR.out.1 (HX.out gd)) (HD.out gd).1 hg1 hr1 hb1 HR.out.2.2.2.1);have y0:=aA HE.out.2.2.2 0;have y1:=aH HE.out.2.2.2 0;clear hb1 hg1 hat1;obtain⟨A1,k1,rfl⟩:=Kd.bN hr1;clear hr1;refine hKr.out _ _ ?_;clear hKr Kr;refine cW (a':= ?_) ?_ ?_;rotate_left
 ·show ay _ (ag 11) _ = _
  simp only[ay,ae,ah,ai,aJ,aK];rfl
 refine aP (i:=8) (N:=ag 12) (v:= ?_) (a':= ?_) #[af,af,af,af,af,af,af,af,af,ac,ac] rfl rfl (by kernel_rfl) (fun _ _ _ h=>h) (bc ⟨by rfl,?_⟩) ?_ ?_;rotate_left
 ·intro w';go_simp;with_reducible rfl
 rotate_left
 ·simp only[ay,ae,ah,ai,aJ,aK];rfl
 refine aP (i:=9) (N:=ag 13) (v:= ?_) (a':= ?_) #[af,af,af,af,af,af,af,af,af,af,ac] rfl rfl (by kernel_rfl) (fun _ _ _ h=>h) (bc ⟨by rfl,?_⟩) ?_ ?_;rotate_left
 ·intro w';go_simp;with_reducible rfl
 rotate_left
 ·simp only[ay,ae,ah,ai,aJ,aK];rfl
 refine o4 (i:=10) (N:=ak) #[af,af,af,af,af,af,af,af,af,af,af] rfl rfl (by kernel_rfl) (by simp) (fun Kr hKr=> ?_);refine skip_ (w1:=w1.setCell ⟨c.eb,0,ak⟩ (.slice A1 (T++[(⟨k,a,b⟩:S101)]).length k1)) (by rfl) rfl (by first | (go_simp;done) | (go_simp;rfl)) ?_;refine hKr.out _ _ ?_;clear hKr Kr;refine iF (by kernel_rfl) ?_;clear y0 y1 c0 e0 e1 e2;go_wp2_with fail
 first | go_end0 | skip
 exact⟨rfl,HE.out.1,(Kt.of_below (HX.out gd) _ _).trans HE.out.2.1,HE.out.2.2.1⟩
theorem MAt.put {c:Cfg}{R R':List (List Int)}{L:List (ByteArray × Int)}{T:List S101}{W:World}(h:MAt c R L T W){b k:Nat}{u vr:Value}(hb:∃cs,W.heap[b]? =ag (.cells cs 74 (0,0)))(hle:c.w0.heap.size<=b)(g1:W.heap[c.mb]? =ag (.cells (c.cells vr) 93 (0,0)))(hr:RowsB (W.setCell ⟨b,k,ak⟩ u) c.w0.heap.size vr R'):MAt c R' L T (W.setCell ⟨b,k,ak⟩ u):=by
 obtain⟨cs,hb⟩:=hb;have hk:Kt [74] ak W (W.setCell ⟨b,k,ak⟩ u):=(Kt.refl _ _ _).set hb (by simp) k u;obtain⟨D,a1,a2⟩:=h.ha;obtain⟨E,l1,l2⟩:=h.hl;obtain⟨vt,t1,t2⟩:=h.he
 exact⟨h.low.setCell (p:=⟨b,k,ak⟩) hle _,h.base,⟨vr,hk.blk _ _ _ _ g1 (by simp),hr⟩,⟨vt,hk.blk _ _ _ _ t1 (by simp),hk.row t2 (fun q hq=>by
  have:q=101:=by simpa[lE,Kd.iso,Kd.pair,Kd.int,Kd.scalar]using hq
  rw[this];simp)⟩,⟨D,hk.own a1 (by simp),a2⟩,⟨E,hk.own l1 (by simp),l2⟩⟩
theorem Kt.undrew {ts:List Nat}{lb:Option Nat}{W W':World}(h:Kt ts lb W.drew W'):Kt ts lb W W':=⟨h.size,h.blk,h.maps⟩
theorem l7 (b:Nat)(w:World):(method 414 80 (.pointer (ag ⟨b,0,ak⟩)) "cadence/run.see").run au w=.ok (310,.pointer (ag ⟨b,0,ak⟩)) w:=by kernel_rfl
theorem sB (c:Cfg){vr:Value}{ts:List (Nat × Nat × Nat)}{R:List (List Int)}{L:List (ByteArray × Int)}{T:List S101}(W:World)(hM:MAt c R L T W)(hmb:W.heap[c.mb]? =ag (.cells (c.cells vr) 93 (0,0)))(hrb:RowsT W c.w0.heap.size vr ts R)(k x:Int)(d n j b:Nat)(hbt:b=(ts.getD d zSl).1)(hd:d<R.length)(hn:(rowOf R d).length=n)(h1:1<=n)(h2:n<=65536)(hx0:0<=x)(hx:x % (n:Int)=(j:Int))(hd2:R.length<=65536)(hl1:1<=c.ln)(hl2:c.ln<=65536)(hl:T.length<1073741824):
 Calls au 116 #[.pointer (ag ⟨c.mb,0,ak⟩),.int .i64 k,.int .i64 d,.int .u64 x] W fun r W'=>r=.returned (.pointer (ag ⟨b,j,ak⟩))/\MAt c R L (T++[⟨k,d,(j:Int) / c.ln⟩]) W'/\Kt [84,101] ak W W'/\
  W'.cell? ⟨b,j,ak⟩=ag (.int .u64 (dM R d j))/\(∃cs,W'.heap[b]? =ag (.cells cs 74 (0,0)))/\∀v,MAt c (putW R d j v) L (T++[⟨k,d,(j:Int) / c.ln⟩]) (W'.setCell ⟨b,j,ak⟩ (.int .u64 v)):=by
 obtain⟨A,cap,c0,rfl,hcd,hb0,hbb,hcell⟩:=hrb.at' hd;rw[←hbt]at hcd hb0 hbb hcell;have m2:W.cell? ⟨c.mb,2,ak⟩=ag (.int .i64 c.ln):=(aA hmb 2).trans rfl;have m6:W.cell? ⟨c.mb,6,ak⟩=ag (.slice (ag A) R.length cap):=(aA hmb 6).trans rfl;have m8:W.cell? ⟨c.mb,8,ak⟩=ag (.iface 80 (.pointer (ag ⟨c.eb,0,ak⟩))):=(aA hmb 8).trans rfl;obtain⟨D,hD⟩:∃D:Int,D=(d:Int):=⟨_,rfl⟩;obtain⟨N,hN⟩:∃N:Int,N=(n:Int):=⟨_,rfl⟩;obtain⟨RN,hRN⟩:∃N:Nat,N=R.length:=⟨_,rfl⟩;obtain⟨ln,hln⟩:∃ln,ln=c.ln:=⟨_,rfl⟩;rw[hn]at hcd;rw[←hRN]at m6;rw[←hln]at m2;rw[←hD]
 have hd0:0<=D:=by omega
 have hd1:D<(RN:Int):=by omega
 have hcd:W.cell? (A.add D.toNat)=ag (.slice (ag ⟨b,0,ak⟩) n c0):=by rw[hD];exact hcd
 have hw:IntKind.u64.wrap (n:Int)=(n:Int):=by rw[Bm.qN];omega
 have hw0:¬(n:Int)=0:=by omega
 have hj:Int.tmod x (n:Int)=(j:Int):=by rw[Int.tmod_eq_emod_of_nonneg hx0];exact hx
 have hwd:IntKind.u64.wrap D=D:=by rw[Bm.qN];omega
 have hwl:IntKind.u64.wrap ln=ln:=by rw[Bm.qN];omega
 have hl0:¬ln=0:=by omega
 have hq:Int.tdiv (j:Int) ln=(j:Int) / ln:=Int.tdiv_eq_ediv_of_nonneg (by omega);obtain⟨q,hqq⟩:∃q,q=(j:Int) / ln:=⟨_,rfl⟩;rw[←hqq]at hq
 have hwq:IntKind.u64.wrap q=q:=by
  have h3:q<=(j:Int):=hqq ▸ Int.ediv_le_self _ (by omega);have h4:0<=q:=hqq ▸ Int.ediv_nonneg (by omega) (by omega);have h5:(j:Int)<(n:Int):=hx ▸ kp _ (by omega);rw[Bm.qN];omega
 have hmt:=l7 c.eb;have HM:=aa (aj hM (aj hmb (aj hrb (aj hd hbt))));have HH:=aa (aj hn (aj h1 (aj h2 (aj hx0 (aj hx (aj hd2 (aj hl1 (aj hl2 (aj hl (aj hD (aj hN (aj hRN (aj hln hqq)))))))))))));clear hM hmb hrb hbt hd hn h1 h2 hx0 hx hd2 hl1 hl2 hl hD hN hRN hln hqq hb0 hbb hcell;go_enter Tryz.func116,Tryz.ntmps116;go_wp2_with fail;have HK:=aa (show ∀w1,Kt [84,101] ak W w1->w1.cell? ⟨c.mb,8,ak⟩=ag (.iface 80 (.pointer (ag ⟨c.eb,0,ak⟩)))/\w1.cell? ⟨c.mb,2,ak⟩=ag (.int .i64 ln) from fun w1 hk=>⟨(hk.cell HM.out.2.1 (by simp) 8).trans rfl,by rw[HH.out.2.2.2.2.2.2.2.2.2.2.2.2.1];exact(hk.cell HM.out.2.1 (by simp) 2).trans rfl⟩)
 go_region_held3 (fun w'=>w'.cell? ⟨c.mb,8,ak⟩=ag (.iface 80 (.pointer (ag ⟨c.eb,0,ak⟩)))/\w'.cell? ⟨c.mb,2,ak⟩=ag (.int .i64 ln))
  (first | go_keep | exact HK.out _ hk1)
  (first | (go_at_call 310;refine(lH c W.drew k D q (HM.out.1.he.below (ar _ _).drew) HM.out.1.low.drew HM.out.1.base.2.1 HH.out.2.2.2.2.2.2.2.2.1).mono ?_;rintro _ w1 ⟨rfl,he1,hk1,hb1⟩;have hk1:=hk1.undrew))
 have hM1:MAt c R L (T++[⟨k,D,q⟩]) w1:=HM.out.1.seen hk1 (by simp) (by simp) (by simp) hb1 he1;have g1:=hk1.blk _ _ _ _ HM.out.2.1 (by simp);obtain⟨A1,cap1,c1,e1,hcd1,hb2,hbb,hcell⟩:=(HM.out.2.2.1.kt hk1 (by simp) (by simp)).at' HM.out.2.2.2.1;rw[←HM.out.2.2.2.2]at hcd1 hb2 hbb hcell;injection e1 with e1 e2 e3;injection e1 with e1;subst e1
 have m6:w1.cell? ⟨c.mb,6,ak⟩=ag (.slice (ag A) RN cap):=by rw[HH.out.2.2.2.2.2.2.2.2.2.2.2.1];exact(aA g1 6).trans rfl
 have hD:=HH.out.2.2.2.2.2.2.2.2.2.1;have hx:=HH.out.2.2.2.2.1;have h1:=HH.out.2.1
 have hcd:w1.cell? (A.add D.toNat)=ag (.slice (ag ⟨b,0,ak⟩) n c1):=by rw[hD,←HH.out.1];exact hcd1
 have j1:(j:Int)<(n:Int):=hx ▸ kp _ (by omega)
 have j0:(0:Int)<=(j:Int):=by omega
 obtain⟨q1,q2⟩:=hcell j (by rw[HH.out.1];omega);have HE:=aa (aj hM1 (aj hk1 (aj q1 (aj hbb (aj q2 (aj hb2 (aj g1 HH.out.2.2.2.2.2.2.2.2.2.2.2.2)))))));clear hM1 hk1 hbb hcell g1 hD hx h1 hcd1 q1 q2 hb1 he1 hb2;go_wp2_with fail;go_ret;obtain⟨f1,f2,f3,f4,f5,f6,f7,f8,f9⟩:=HE.out;rw[show(j:Int) / c.ln=q by rw[←f8];exact f9.symm];exact⟨rfl,f1,f2,f3,f4,fun v=>f1.put f4 f6 f7 ⟨_,f5 v⟩⟩
theorem two_index (k:Int)(w:World)(h0:6<=k)(h1:k<=25):(Instr.index 264 (.agg #[.int .i64 0,.int .i64 0,.int .i64 0,.int .i64 0,.int .i64 0,.int .i64 0,.int .i64 22,.int .i64 23,.int .i64 24,.int .i64 20,.int .i64 21,.int .i64 25,.int .i64 26,.int .i64 28,.int .i64 29,.int .i64 17,.int .i64 19,.int .i64 18,.int .i64 0,.int .i64 0,.int .i64 0,.int .i64 0,.int .i64 0,.int .i64 0,.int .i64 27,.int .i64 0,.int .i64 0]) (.int .i64 k)).run au w=.ok (.int .i64 (opK k)) w:=by
 have hk:k=6\/k=7\/k=8\/k=9\/k=10\/k=11\/k=12\/k=13\/k=14\/k=15\/k=16\/k=17\/k=18\/k=19\/k=20\/k=21\/k=22\/k=23\/k=24\/k=25:=by omega
 clear h0 h1
 rcases hk with rfl | rfl | rfl | rfl | rfl | rfl | rfl | rfl | rfl | rfl | rfl | rfl | rfl | rfl | rfl | rfl | rfl | rfl | rfl | rfl
 all_goals(show _ = _;kernel_rfl)
theorem two_calls (k:Int)(W:World)(h0:6<=k)(h1:k<=25):Calls au 159 #[.int .i64 k] W fun e W'=>e=.returned (.int .i64 (opK k))/\Below W.heap.size W W':=by
 have hix:=fun w=>two_index k w h0 h1;clear h0 h1;go_enter Tryz.func159,Tryz.ntmps159;go_wp2_with fail;go_ret;exact⟨rfl,ar _ _⟩
theorem compared_calls (c:Cfg){R:List (List Int)}{L:List (ByteArray × Int)}{T:List S101}(W:World)(hM:MAt c R L T W)(k x y:Int)(hk:k=18\/k=19\/k=20\/k=21\/k=22\/k=23):
 Calls au 161 #[.pointer (ag ⟨c.mb,0,ak⟩),.int .i64 k,.int .u64 x,.int .u64 y] W fun e W'=>e=.returned (.int .u64 (cmpW k c.wd x y))/\Below W.heap.size W W':=by
 clear hM;obtain⟨b,hb⟩:∃b,b=cmpB k c.wd x y:=⟨_,rfl⟩
 have hr:cmpW k c.wd x y=if b=af then 1 else 0:=by unfold cmpW;rw[hb]
 rw[hr];clear hr
 rcases hk with rfl | rfl | rfl | rfl | rfl | rfl
 all_goals(
  rcases aL b with rfl | rfl
  all_goals(
   simp only[cmpB]at hb
   simp at hb
   go_enter Tryz.func161,Tryz.ntmps161;go_wp2_with fail;go_ret
   exact⟨rfl,ar _ _⟩))
end Go.Proofs.YtfigjpehecibeaaGreat.L
namespace Go.Proofs.YtfigjpehecibeaaGreat.C
open Go.RowKit Bm
theorem r9 (z:Nat){m:Nat}(h:m<=64):z % 2 ^ 64 % 2 ^ m=z % 2 ^ m:=Nat.mod_mod_of_dvd _ (Nat.pow_dvd_pow 2 h)
theorem lt64 {m x:Nat}(h2:m<=64)(hx:x<2 ^ m):x<2 ^ 64:=br hx (by rw[p64];exact gE h2)
theorem kC {a:Int}(h0:0<=a)(h1:a<18446744073709551616):IntKind.u64.wrap a=a:=by rw[qN];omega
theorem castpow (x n:Nat):(x:Int)*2 ^ n=((x*2 ^ n:Nat):Int):=by rw[iy,Int.natCast_pow];rfl
theorem castdiv (x n:Nat):(x:Int) / 2 ^ n=((x / 2 ^ n:Nat):Int):=by rw[Int.natCast_ediv,Int.natCast_pow];rfl
theorem shl_val (x n:Nat):IntKind.u64.wrap ((x:Int)*2 ^ n)=((x*2 ^ n % 2 ^ 64:Nat):Int):=by rw[castpow,nA]
theorem trn_mod {m:Nat}(z:Nat)(h1:1<=m)(h2:m<=64):trn (m:Int) (z % 2 ^ 64)=z % 2 ^ m:=by rw[gC rfl h1 h2 (ij _ (df _)),r9 _ h2]
theorem sgn_in {m x:Nat}(h1:1<=m)(h2:m<=64)(hx:x<2 ^ m):sgn (m:Int) x=if 2 ^ (m - 1)<=x then(x:Int) - ((2 ^ m:Nat):Int)else(x:Int):=by
 unfold sgn;rw[if_pos ⟨by omega,by omega⟩,gC rfl h1 h2 (br hx (by rw[p64];exact gE h2)),fp hx,show((m:Int) - 1).toNat=m - 1 from by omega];rfl
theorem turn_val {m x k:Nat}(h1:1<=m)(h2:m<=64)(hx:x<2 ^ m)(hk:k<=m):∃N:Nat,N<2 ^ 64/\Go.bits .or .u64 (IntKind.u64.wrap ((x:Int)*2 ^ k)) ((x:Int) / 2 ^ (m - k))=(N:Int)/\trn (m:Int) N=(x*2 ^ k ||| x / 2 ^ (m - k)) % 2 ^ m:=by
 have l1:x*2 ^ k % 2 ^ 64<2 ^ 64:=ij _ (df _);have l2:x / 2 ^ (m - k)<2 ^ 64:=gh (jh _ _) (lt64 h2 hx);refine⟨x*2 ^ k % 2 ^ 64 ||| x / 2 ^ (m - k),Nat.or_lt_two_pow l1 l2,?_,?_⟩
 ·rw[shl_val,castdiv,or_nat l1 l2]
 ·rw[gC rfl h1 h2 (Nat.or_lt_two_pow l1 l2),Nat.or_mod_two_pow,r9 _ h2,←Nat.or_mod_two_pow]
theorem sar_val {m x n:Nat}(h1:1<=m)(h2:m<=64)(hx:x<2 ^ m)(hn:n<m):∃N:Nat,N<2 ^ 64/\IntKind.u64.wrap (sgn (m:Int) x / 2 ^ n)=(N:Int)/\trn (m:Int) N=movn 27 m x n:=by
 have hx64:=lt64 h2 hx;unfold movn;rw[if_neg (by decide),if_neg (by decide),if_pos rfl,sgn_in h1 h2 hx,show(2:Int) ^ n=((2 ^ n:Nat):Int) from by rw[Int.natCast_pow];rfl]
 by_cases g:2 ^ (m - 1)<=x
 ·rw[if_pos g,if_pos g]
  have hM:(x+2 ^ m*(2 ^ n - 1)) / 2 ^ n<2 ^ m:=by
   rw[Nat.div_lt_iff_lt_mul (df n),Nat.mul_sub,ib];have:2 ^ m<=2 ^ m*2 ^ n:=fu _ (df n);omega
  have hl:(x+2 ^ m*(2 ^ n - 1)) / 2 ^ n+(2 ^ 64 - 2 ^ m)<2 ^ 64:=by
   have:=gE h2;rw[p64];omega
  refine⟨(x+2 ^ m*(2 ^ n - 1)) / 2 ^ n+(2 ^ 64 - 2 ^ m),hl,?_,?_⟩
  ·have hd:((x:Int) - ((2 ^ m:Nat):Int)) / ((2 ^ n:Nat):Int)=(((x+2 ^ m*(2 ^ n - 1)) / 2 ^ n:Nat):Int) - ((2 ^ m:Nat):Int):=by
    have hne:((2 ^ n:Nat):Int)≠0:=by have:=df n;omega
    have hs1:(x:Int) - ((2 ^ m:Nat):Int)=((x+2 ^ m*(2 ^ n - 1):Nat):Int)+(-((2 ^ m:Nat):Int))*((2 ^ n:Nat):Int):=by
     have h3:2 ^ m*(2 ^ n - 1)+2 ^ m=2 ^ m*2 ^ n:=by
      have:=df n;rw[←Nat.mul_succ];congr 1;omega
     have h4:((2 ^ m:Nat):Int)*((2 ^ n:Nat):Int)=((2 ^ m*(2 ^ n - 1)+2 ^ m:Nat):Int):=by rw[h3,iy]
     rw[Int.neg_mul,h4,kz,kz];omega
    rw[hs1,Int.add_mul_ediv_right _ _ hne,←Int.natCast_ediv];omega
   rw[hd,qN];have hp:=gE h2;rw[p64];generalize (x+2 ^ m*(2 ^ n - 1)) / 2 ^ n=M at*;generalize 2 ^ m=P at*;omega
  ·rw[gC rfl h1 h2 hl]
   have hdv:2 ^ 64 - 2 ^ m=2 ^ m*(2 ^ (64 - m) - 1):=by
    rw[Nat.mul_sub,←Nat.pow_add,ib];congr 2;omega
   rw[hdv,Nat.add_mul_mod_self_left,fp hM]
 ·rw[if_neg g,if_neg g,←Int.natCast_ediv,nA];have l:x / 2 ^ n<2 ^ m:=gh (jh _ _) hx;exact⟨x / 2 ^ n,lt64 h2 l,by rw[fp (lt64 h2 l)],by rw[gC rfl h1 h2 (lt64 h2 l),fp l]⟩
theorem sub_wrap {m x y:Nat}(h2:m<=64)(hx:x<2 ^ m)(hy:y<2 ^ m):
 ∃z:Nat,IntKind.u64.wrap ((x:Int) - (y:Int))=IntKind.u64.wrap (z:Int)/\z % 2 ^ m=(x+2 ^ m - y) % 2 ^ m:=by
 have hp:=gE h2;refine⟨x+2 ^ 64 - y,?_,?_⟩
 ·rw[qN,qN,p64];generalize 2 ^ m=P at*;omega
 ·have hd:2 ^ 64=2 ^ m+2 ^ m*(2 ^ (64 - m) - 1):=by
   have h3:2 ^ m*2 ^ (64 - m)=2 ^ 64:=by rw[←Nat.pow_add];congr 1;omega
   have h4:2 ^ m*(2 ^ (64 - m) - 1)+2 ^ m=2 ^ m*2 ^ (64 - m):=by
    have:=df (64 - m);rw[←Nat.mul_succ];congr 1;omega
   omega
  rw[hd,show x+(2 ^ m+2 ^ m*(2 ^ (64 - m) - 1)) - y=(x+2 ^ m - y)+2 ^ m*(2 ^ (64 - m) - 1) from by omega,Nat.add_mul_mod_self_left]
theorem ones_mod {m:Nat}(h2:m<=64):(2 ^ 64 - 1) % 2 ^ m=2 ^ m - 1:=by
 refine Nat.eq_of_testBit_eq fun i=> ?_;rw[Nat.testBit_mod_two_pow,lf,lf]
 by_cases h:i<m
 ·have:i<64:=by omega
  simp[h,this]
 ·simp[h]
end Go.Proofs.YtfigjpehecibeaaGreat.C
namespace Go.Proofs.YtfigjpehecibeaaGreat.L
open Go.RowKit Bm C Go.Proofs.YtfigjpehecibeaaGreatW.PrintWords Go.Proofs.YtfigjpehecibeaaGreatW.PrintLast Go.Proofs.YtfigjpehecibeaaGreatW.PrintMore Go.Proofs.YtfigjpehecibeaaGreat.Gr
section
attribute [local go_sem] G.cell
theorem jA (w:Int)(h1:1<=w)(h2:w<=64)(W:World):Calls au 231 #[.int .i64 w] W fun e W'=>e=.returned (.bool af)/\Below W.heap.size W W':=by
 go_enter Tryz.func231,Tryz.ntmps231;go_wp2_with fail;go_ret;exact⟨by first | rfl | (simp;done) | (simp[*];done),ar _ _⟩
theorem d5 (w:Int)(h1:1<=w)(h2:w<=64)(W:World):Calls au 277 #[.int .i64 w] W fun e W'=>e=.returned (.bool af)/\Below W.heap.size W W':=by
 go_enter Tryz.func277,Tryz.ntmps277;go_wp2_with fail;go_ret;exact⟨by first | rfl | (simp;done) | (simp[*];done),ar _ _⟩
theorem shifts_calls (op:Int)(h2:op<=29)(b:Bool)(hb:decide (25<=op)=b)(W:World):Calls au 232 #[.int .i64 op] W fun e W'=>e=.returned (.bool b)/\Below W.heap.size W W':=by
 rcases aL b with rfl | rfl
 ·have h:=of_decide_eq_true hb;go_enter Tryz.func232,Tryz.ntmps232;go_wp2_with fail;go_ret;exact⟨by first | rfl | (simp;done) | (simp[*];done),ar _ _⟩
 ·have h:=of_decide_eq_false hb;go_enter Tryz.func232,Tryz.ntmps232;go_wp2_with fail;go_ret;exact⟨by first | rfl | (simp;done) | (simp[*];done),ar _ _⟩
theorem trim_calls (w:Int)(h1:1<=w)(x:Nat)(hx:x<2 ^ 64)(W:World):Calls au 72 #[.int .i64 w,.int .u64 (x:Int)] W fun e W'=>e=.returned (.int .u64 (trn w x:Int))/\Below W.heap.size W W':=by
 have h3:¬w<1:=by omega
 rcases dh w 64 with h2 | h2
 ·obtain⟨a,b,_,_⟩:=mask_is hx h3 (by omega)
  have hs:shl .u64 1 (IntKind.u64.wrap w)=IntKind.u64.wrap (2 ^ w.toNat):=by
   unfold shl;rw[kC (a:=w) (by omega) (by omega),Int.one_mul,show min w.toNat IntKind.u64.bits=w.toNat from by simp[jf];omega]
  obtain⟨p,hq⟩:∃p,IntKind.u64.wrap (2 ^ w.toNat)=p:=⟨_,rfl⟩;rw[hs,hq]at b;clear hs;clear hx;go_enter Tryz.func72,Tryz.ntmps72;go_wp2_with fail;go_ret;exact⟨by first | rfl | (simp;done) | (simp[*];done),ar _ _⟩
 ·have e:trn w x=x:=by unfold trn;rw[if_neg h3,if_pos h2]
  rw[e];clear hx e;go_enter Tryz.func72,Tryz.ntmps72;go_wp2_with fail;go_ret;exact⟨by first | rfl | (simp;done) | (simp[*];done),ar _ _⟩
theorem nQ (w:Int)(h1:1<=w)(x:Nat)(hx:x<2 ^ 64)(W:World):Calls au 73 #[.int .i64 w,.int .u64 (x:Int)] W fun e W'=>e=.returned (.int .u64 (trn w x:Int))/\Below W.heap.size W W':=by
 have h3:¬w<1:=by omega
 rcases dh w 64 with h2 | h2
 ·obtain⟨a,_,b,d⟩:=mask_is hx h3 (by omega)
  have hs:shl .u64 1 (IntKind.u64.wrap w)=IntKind.u64.wrap (2 ^ w.toNat):=by
   unfold shl;rw[kC (a:=w) (by omega) (by omega),Int.one_mul,show min w.toNat IntKind.u64.bits=w.toNat from by simp[jf];omega]
  obtain⟨p,hq⟩:∃p,IntKind.u64.wrap (2 ^ w.toNat)=p:=⟨_,rfl⟩;rw[hs,hq]at b d;have b:¬p=0:=b;clear hs;clear hx;go_enter Tryz.func73,Tryz.ntmps73;go_wp2_with fail;go_ret;exact⟨by first | rfl | (simp;done) | (simp[*];done),ar _ _⟩
 ·have e:trn w x=x:=by unfold trn;rw[if_neg h3,if_pos h2]
  rw[e];clear hx e;go_enter Tryz.func73,Tryz.ntmps73;go_wp2_with fail;go_ret;exact⟨by first | rfl | (simp;done) | (simp[*];done),ar _ _⟩
theorem o9 (w:Int)(h1:1<=w)(h2:w<=64)(x:Nat)(hx:x<2 ^ 64)(W:World):Calls au 235 #[.int .i64 w,.int .u64 (x:Int)] W fun e W'=>e=.returned (.int .i64 (sgn w x))/\Below W.heap.size W W':=by
 obtain⟨a,b⟩:=signed_prog hx h1 h2;clear hx;have H:=aa (aj h1 h2);clear h1 h2;go_enter Tryz.func235,Tryz.ntmps235;refine bE ?_;intro gg;go_wp2_with fail;refine(aD (g:=gg) (jA w H.out.1 H.out.2 gg.W)).mono ?_;rintro _ _ ⟨rfl,gg,rfl⟩;go_wp2_with fail;go_ret;exact⟨by rw[←b];rfl,gg.below⟩
theorem ones_calls (w:Int)(hw:w=4\/w=8\/w=16\/w=32\/w=64)(W:World):Calls au 233 #[.int .u64 w] W fun e W'=>e=.returned (.int .i64 1)/\Below W.heap.size W W':=by
 rcases hw with rfl | rfl | rfl | rfl | rfl
 all_goals(
  go_enter Tryz.func233,Tryz.ntmps233
  go_wp2
  go_ret
  exact⟨by first | rfl | kernel_rfl,ar _ _⟩)
theorem fM (w:Int)(h1:1<=w){v:Int}{x:Nat}(hv:v=(x:Int))(hx:x<2 ^ 64)(W:World):Calls au 72 #[.int .i64 w,.int .u64 v] W fun e W'=>e=.returned (.int .u64 (trn w x:Int))/\Below W.heap.size W W':=hv ▸ trim_calls w h1 x hx W
theorem ret_u64 {a b:Int}(h:a=b):gj (.int .u64 a)=.returned (.int .u64 b):=by rw[h]
theorem moved_calls (op:Int)(m x n:Nat)(h1:1<=m)(h2:m<=64)(hx:x<2 ^ m)(hn:n<m)(ho:op=25\/op=26\/op=27\/op=28\/op=29)(W:World):
 Calls au 234 #[.int .i64 op,.int .i64 (m:Int),.int .u64 (x:Int),.int .i64 (n:Int)] W fun e W'=>e=.returned (.int .u64 (movn op m x n:Int))/\Below W.heap.size W W':=by
 rcases ho with rfl | rfl | rfl | rfl | rfl
 ·go_enter Tryz.func234,Tryz.ntmps234;refine bE ?_;intro gg;go_wp2_with fail;refine(aD (g:=gg) (fM m (by omega) (shl_val x n) (ij _ (df _)) gg.W)).mono ?_;rintro _ _ ⟨rfl,gg,rfl⟩;rw[trn_mod _ h1 h2];go_wp2_with fail;go_ret;exact⟨rfl,gg.below⟩
 ·go_enter Tryz.func234,Tryz.ntmps234;go_wp2_with fail;go_ret;exact⟨ret_u64 (castdiv x n),ar _ _⟩
 ·obtain⟨N,hN,e1,e2⟩:=sar_val h1 h2 hx hn;go_enter Tryz.func234,Tryz.ntmps234;refine bE ?_;intro gg;go_wp2_with fail;refine(aD (g:=gg) (o9 m (by omega) (by omega) x (lt64 h2 hx) gg.W)).mono ?_;rintro _ _ ⟨rfl,gg,rfl⟩;go_wp2_with fail;refine(aD (g:=gg) (fM m (by omega) rfl hN gg.W)).mono ?_;rintro _ _ ⟨rfl,gg,rfl⟩;rw[e2];go_wp2_with fail;go_ret;exact⟨rfl,gg.below⟩
 ·obtain⟨N,hN,e1,e2⟩:=turn_val h1 h2 hx (k:=n) (by omega);go_enter Tryz.func234,Tryz.ntmps234;refine bE ?_;intro gg;go_wp2_with fail;refine(aD (g:=gg) (fM m (by omega) rfl hN gg.W)).mono ?_;rintro _ _ ⟨rfl,gg,rfl⟩;rw[e2];go_wp2_with fail;go_ret;exact⟨rfl,gg.below⟩
 ·obtain⟨k,hk⟩:∃k,k=(m - n) % m:=⟨_,rfl⟩;have hk1:k<m:=hk ▸ ij _ (by omega);have HK:=aa hk;clear hk;obtain⟨N,hN,e1,e2⟩:=turn_val h1 h2 hx (k:=k) (by omega);go_enter Tryz.func234,Tryz.ntmps234;refine bE ?_;intro gg;go_wp2_with fail
  have ek: -(n:Int) % (m:Int)=(k:Int):=by
   rw[HK.out,jp,show -(n:Int)=((m - n:Nat):Int)+(m:Int)*(-1) from by omega,Int.add_mul_emod_self_left]
  refine(aD (g:=gg) (fM m (by omega) (x:=N) (by
   rw[ek,kC (a:=(k:Int)) (by omega) (by omega),show wrap64 ((m:Int) - (k:Int))=((m - k:Nat):Int) from by rw[w64];omega,kC (a:=((m - k:Nat):Int)) (by omega) (by omega),ax,ax,di (by omega),di (by omega)]
   exact e1) hN gg.W)).mono ?_
  rintro _ _ ⟨rfl,gg,rfl⟩;rw[e2];go_wp2_with fail;go_ret;refine⟨ret_u64 ?_,gg.below⟩;unfold movn;rw[if_neg (by decide),if_neg (by decide),if_neg (by decide),if_pos rfl,←HK.out,jp,Int.natCast_pow];rfl
theorem eF (w:Int)(h1:1<=w){v:Int}{x:Nat}(hv:v=(x:Int))(hx:x<2 ^ 64)(W:World):Calls au 73 #[.int .i64 w,.int .u64 v] W fun e W'=>e=.returned (.int .u64 (trn w x:Int))/\Below W.heap.size W W':=hv ▸ nQ w h1 x hx W
theorem not_val {x:Nat}(hx:x<2 ^ 64):Go.bits .xor .u64 IntKind.u64.max (x:Int)=(((18446744073709551615 - (x:Int)).toNat:Nat):Int):=by
 have h:=xor_nat (a:=2 ^ 64 - 1) (b:=x) (by decide) hx;rw[show((2 ^ 64 - 1:Nat):Int)=IntKind.u64.max from by decide]at h;rw[h]
 have h2:2 ^ 64 - 1 ^^^ x=2 ^ 64 - 1 - x:=by
  refine Nat.eq_of_testBit_eq fun i=> ?_;rw[Nat.testBit_xor,lf,show 2 ^ 64 - 1 - x=2 ^ 64 - (x+1) from by omega,Nat.testBit_two_pow_sub_succ hx]
  by_cases hi:i<64
  ·simp[hi]
  ·have:x.testBit i=ac:=Nat.testBit_lt_two_pow (br hx (ju (by decide) (by omega)));simp[hi,this]
 rw[h2,p64]at*;omega
theorem neg_val {x:Nat}(hx:x<2 ^ 64):IntKind.u64.wrap (-(x:Int))=(((-(x:Int)) % 18446744073709551616).toNat:Int):=by rw[qN];omega
theorem un_calls (k wd:Int)(hk:k=4\/k=5)(h1:1<=wd)(h2:wd<=64)(x:Nat)(hx:x<2 ^ 64)(W:World):
 Calls au 158 #[.int .i64 (wrap64 (wrap64 (k - 4)+15)),.int .i64 wd,.int .u64 (x:Int)] W fun e W'=>e=.returned (.tuple #[.int .u64 (unW k wd x),.int .i64 0])/\Below W.heap.size W W':=by
 rcases hk with rfl | rfl
 ·rw[show wrap64 (wrap64 (4 - 4)+15)=15 from by rw[w64,w64];omega];go_enter Tryz.func158,Tryz.ntmps158;refine bE ?_;intro gg;go_wp2_with fail;refine(aD (g:=gg) (jA wd h1 h2 gg.W)).mono ?_;rintro _ _ ⟨rfl,gg,rfl⟩;go_wp2_with fail;refine(aD (g:=gg) (fM wd h1 (not_val hx) (by rw[p64];omega) gg.W)).mono ?_;rintro _ _ ⟨rfl,gg,rfl⟩;go_wp2_with fail;go_ret2;refine⟨?_,gg.below⟩;rw[show unW 4 wd (x:Int)=((trn wd (18446744073709551615 - x):Nat):Int) from by unfold unW;rw[if_pos rfl];congr 3;omega];rfl
 ·rw[show wrap64 (wrap64 (5 - 4)+15)=16 from by rw[w64,w64];omega];go_enter Tryz.func158,Tryz.ntmps158;refine bE ?_;intro gg;go_wp2_with fail;refine(aD (g:=gg) (jA wd h1 h2 gg.W)).mono ?_;rintro _ _ ⟨rfl,gg,rfl⟩;go_wp2_with fail;refine(aD (g:=gg) (fM wd h1 (neg_val hx) (by rw[p64];omega) gg.W)).mono ?_;rintro _ _ ⟨rfl,gg,rfl⟩;go_wp2_with fail;go_ret2;exact⟨rfl,gg.below⟩
def dP (m:Nat):Prop:=m=4\/m=8\/m=16\/m=32\/m=64
theorem dP.le {m:Nat}(h:dP m):1<=m/\m<=64:=by unfold dP at h;omega
theorem qD (op:Int){b:Bool}(hb:decide (25<=op)=b)(h2:op<=29)(W:World):Calls au 232 #[.int .i64 op] W fun e W'=>e=.returned (.bool b)/\Below W.heap.size W W':=shifts_calls op h2 b hb W
theorem ones_v {v:Int}{m:Nat}(hm:dP m)(hv:v=(m:Int))(W:World):Calls au 233 #[.int .u64 v] W fun e W'=>e=.returned (.int .i64 1)/\Below W.heap.size W W':=by
 subst hv;exact ones_calls (m:Int) (by unfold dP at hm;omega) W
theorem moved_v (op:Int)(m x:Nat){v:Int}{n:Nat}(hv:v=(n:Int))(h1:1<=m)(h2:m<=64)(hx:x<2 ^ m)(hn:n<m)(ho:op=25\/op=26\/op=27\/op=28\/op=29)(W:World):
 Calls au 234 #[.int .i64 op,.int .i64 (m:Int),.int .u64 (x:Int),.int .i64 v] W fun e W'=>e=.returned (.int .u64 (movn op m x n:Int))/\Below W.heap.size W W':=hv ▸ moved_calls op m x n h1 h2 hx hn ho W
theorem bin_shift {op:Int}{m x y:Nat}(hm:dP m)(o1:25<=op)(o2:op<=29):(binn op (m:Int) x y).1=(movn op m (x % 2 ^ m) (y % 2 ^ m % m):Int):=by
 have hw:=hm.le
 have hp:pw m=af:=by unfold dP at hm;rcases hm with rfl | rfl | rfl | rfl | rfl <;> rfl
 unfold binn;rw[if_neg (by omega),ax,hp,if_neg (by intro h;rcases h with h | h;exact h (by omega);exact absurd h.2 (by decide)),if_pos o1]
theorem bin_plain {op:Int}{m x y:Nat}(hm:dP m)(o1:17<=op)(o2:op<25):(binn op (m:Int) x y).1=(opn op m (x % 2 ^ m) (y % 2 ^ m):Int):=by
 have hw:=hm.le;unfold binn;rw[if_neg (by omega),if_neg (by intro h;rcases h with h | h;exact h (by omega);exact absurd h.1 (by omega)),if_neg (by omega),ax]
theorem binS_calls (op:Int)(m x y:Nat)(hm:dP m)(o1:25<=op)(o2:op<=29)(hx:x<2 ^ 64)(hy:y<2 ^ 64)(W:World):
 Calls au 160 #[.int .i64 op,.int .i64 (m:Int),.int .u64 (x:Int),.int .u64 (y:Int)] W fun e W'=>e=.returned (.tuple #[.int .u64 (binn op (m:Int) x y).1,.int .i64 0])/\Below W.heap.size W W':=by
 rw[bin_shift hm o1 o2];have HW:=aa (aj hm hm.le)
 have h17:¬op<17:=by omega
 have h29:¬op > 29:=by omega
 have HB:=aa (aj hx hy);have HA:=aa (show trn (m:Int) x<2 ^ m/\trn (m:Int) y<2 ^ m/\trn (m:Int) x=x % 2 ^ m/\trn (m:Int) y=y % 2 ^ m from⟨sQ rfl hm.le.1 hm.le.2 hx,sQ rfl hm.le.1 hm.le.2 hy,gC rfl hm.le.1 hm.le.2 hx,gC rfl hm.le.1 hm.le.2 hy⟩);have hwm:IntKind.u64.wrap (m:Int)=(m:Int):=kC (by omega) (by have:=hm.le;omega)
 have hm0:¬(m:Int)=0:=by have:=hm.le;omega
 clear hx hy hm;rw[←HA.out.2.2.1,←HA.out.2.2.2];obtain⟨a,ha⟩:∃a,a=trn (m:Int) x:=⟨_,rfl⟩;obtain⟨b,hb⟩:∃b,b=trn (m:Int) y:=⟨_,rfl⟩;rw[←ha,←hb]at HA ⊢;have HC:=aa (aj ha hb);clear ha hb;go_enter Tryz.func160,Tryz.ntmps160;refine bE ?_;intro gg;go_wp2_with fail;refine(aD (g:=gg) (jA m (by have:=HW.out.2;omega) (by have:=HW.out.2;omega) gg.W)).mono ?_;rintro _ _ ⟨rfl,gg,rfl⟩;go_wp2_with fail;refine(aD (g:=gg) (qD op (decide_eq_true o1) o2 gg.W)).mono ?_;rintro _ _ ⟨rfl,gg,rfl⟩;go_wp2_with fail;refine(aD (g:=gg) (ones_v HW.out.1 rfl gg.W)).mono ?_;rintro _ _ ⟨rfl,gg,rfl⟩;go_wp2_with fail;refine(aD (g:=gg) (fM m (by have:=HW.out.2;omega) rfl HB.out.1 gg.W)).mono ?_;rintro _ _ ⟨rfl,gg,rfl⟩;rw[←HC.out.1];go_wp2_with fail;refine(aD (g:=gg) (fM m (by have:=HW.out.2;omega) rfl HB.out.2 gg.W)).mono ?_;rintro _ _ ⟨rfl,gg,rfl⟩;rw[←HC.out.2];go_wp2_with fail;refine(aD (g:=gg) (qD op (decide_eq_true o1) o2 gg.W)).mono ?_;rintro _ _ ⟨rfl,gg,rfl⟩;go_wp2_with fail
 have hb2:(b:Int) % (m:Int)=((b % m:Nat):Int):=by rw[jp]
 have hlt:b % m<m:=ij _ (by have:=HW.out.2;omega);refine(aD (g:=gg) (moved_v op m a (n:=b % m) (by rw[hb2,w64];have:=HW.out.2;omega) HW.out.2.1 HW.out.2.2 HA.out.1 hlt (by omega) gg.W)).mono ?_;rintro _ _ ⟨rfl,gg,rfl⟩;clear hb2 hlt;go_wp2_with fail;go_ret2;exact⟨rfl,gg.below⟩
theorem o5 {m z:Nat}(h1:1<=m)(h2:m<=64)(hz:z<2 ^ m):trn (m:Int) z=z:=by rw[gC rfl h1 h2 (lt64 h2 hz),fp hz]
theorem opn_val {op:Int}{m a b:Nat}(h1:1<=m)(h2:m<=64)(ha:a<2 ^ m)(hb:b<2 ^ m):
 (∃N:Nat,N<2 ^ 64/\Go.bits .and .u64 (a:Int) (b:Int)=N/\trn (m:Int) N=opn 17 m a b/\N=opn 17 m a b)/\(∃N:Nat,N<2 ^ 64/\Go.bits .or .u64 (a:Int) (b:Int)=N/\trn (m:Int) N=opn 18 m a b/\N=opn 18 m a b)/\
 (∃N:Nat,N<2 ^ 64/\Go.bits .xor .u64 (a:Int) (b:Int)=N/\trn (m:Int) N=opn 19 m a b/\N=opn 19 m a b)/\(∃N:Nat,N<2 ^ 64/\IntKind.u64.wrap ((a:Int)+(b:Int))=N/\trn (m:Int) N=opn 20 m a b)/\
 (∃N:Nat,N<2 ^ 64/\IntKind.u64.wrap ((a:Int) - (b:Int))=N/\trn (m:Int) N=opn 21 m a b)/\(∃N:Nat,N<2 ^ 64/\IntKind.u64.wrap ((a:Int)*(b:Int))=N/\trn (m:Int) N=opn 22 m a b):=by
 have la:=lt64 h2 ha;have lb:=lt64 h2 hb;have A:=Nat.and_lt_two_pow a hb;have O:=Nat.or_lt_two_pow ha hb;have X:=Nat.xor_lt_two_pow ha hb;have w:∀z:Nat,trn (m:Int) (z % 2 ^ 64)=z % 2 ^ m:=fun z=>trn_mod z h1 h2;have l:∀z:Nat,z % 2 ^ 64<2 ^ 64:=fun z=>ij _ (df _);refine⟨⟨_,lt64 h2 A,and_nat la lb,o5 h1 h2 A,rfl⟩,⟨_,lt64 h2 O,or_nat la lb,o5 h1 h2 O,rfl⟩,⟨_,lt64 h2 X,xor_nat la lb,o5 h1 h2 X,rfl⟩,⟨(a+b) % 2 ^ 64,l _,by rw[←kz,nA],w _⟩,?_,⟨(a*b) % 2 ^ 64,l _,by rw[←iy,nA],w _⟩⟩;obtain⟨z,e1,e2⟩:=sub_wrap h2 ha hb;exact⟨z % 2 ^ 64,l _,by rw[e1,nA],by rw[w,e2];rfl⟩
theorem div_val {m a b:Nat}(h1:1<=m)(h2:m<=64)(ha:a<2 ^ m)(hz:¬b=0):(Int.tdiv (a:Int) (b:Int)=((a / b:Nat):Int)/\a / b<2 ^ m/\IntKind.u64.wrap ((a / b:Nat):Int)=((a / b:Nat):Int))/\Int.tmod (a:Int) (b:Int)=((a % b:Nat):Int)/\a % b<2 ^ m:=by
 have l:a / b<2 ^ m:=gh (jh _ _) ha;exact⟨⟨tdiv_nat a b,l,by rw[nA,fp (lt64 h2 l)]⟩,tmod_nat a b,gh (Nat.mod_le _ _) ha⟩
theorem binP_calls (op:Int)(m x y:Nat)(hm:dP m)(o1:17<=op)(o2:op<25)(hx:x<2 ^ 64)(hy:y<2 ^ 64)(W:World):
 Calls au 160 #[.int .i64 op,.int .i64 (m:Int),.int .u64 (x:Int),.int .u64 (y:Int)] W fun e W'=>e=.returned (.tuple #[.int .u64 (binn op (m:Int) x y).1,.int .i64 0])/\Below W.heap.size W W':=by
 rw[bin_plain hm o1 o2];have HW:=aa (aj hm hm.le)
 have h17:¬op<17:=by omega
 have h29:¬op > 29:=by omega
 have h25:decide (25<=op)=ac:=decide_eq_false (by omega);have HB:=aa (aj hx hy);have HA:=aa (show trn (m:Int) x<2 ^ m/\trn (m:Int) y<2 ^ m/\trn (m:Int) x=x % 2 ^ m/\trn (m:Int) y=y % 2 ^ m from⟨sQ rfl hm.le.1 hm.le.2 hx,sQ rfl hm.le.1 hm.le.2 hy,gC rfl hm.le.1 hm.le.2 hx,gC rfl hm.le.1 hm.le.2 hy⟩);have hwm:IntKind.u64.wrap (m:Int)=(m:Int):=kC (by omega) (by have:=hm.le;omega)
 have hm0:¬(m:Int)=0:=by have:=hm.le;omega
 clear hx hy hm;rw[←HA.out.2.2.1,←HA.out.2.2.2];obtain⟨a,ha⟩:∃a,a=trn (m:Int) x:=⟨_,rfl⟩;obtain⟨b,hb⟩:∃b,b=trn (m:Int) y:=⟨_,rfl⟩;rw[←ha,←hb]at HA ⊢;have HC:=aa (aj ha hb);clear ha hb;have hab:a<2 ^ m/\b<2 ^ m:=⟨HA.out.1,HA.out.2.1⟩
 have hop:op=17\/op=18\/op=19\/op=20\/op=21\/op=22\/op=23\/op=24:=by omega
 have V:=aa (opn_val (op:=op) HW.out.2.1 HW.out.2.2 HA.out.1 HA.out.2.1);clear h17 h29 o1 o2 hab hwm hm0
 rcases hop with rfl | rfl | rfl | rfl | rfl | rfl | rfl | rfl
 all_goals(
  go_enter Tryz.func160,Tryz.ntmps160;refine bE ?_;intro gg;go_wp2_with fail;refine(aD (g:=gg) (jA m (by have:=HW.out.2;omega) (by have:=HW.out.2;omega) gg.W)).mono ?_;rintro _ _ ⟨rfl,gg,rfl⟩;go_wp2_with fail;refine(aD (g:=gg) (qD _ h25 (by decide) gg.W)).mono ?_;rintro _ _ ⟨rfl,gg,rfl⟩;go_wp2_with fail;refine(aD (g:=gg) (fM m (by have:=HW.out.2;omega) rfl HB.out.1 gg.W)).mono ?_;rintro _ _ ⟨rfl,gg,rfl⟩;rw[←HC.out.1];go_wp2_with fail;refine(aD (g:=gg) (fM m (by have:=HW.out.2;omega) rfl HB.out.2 gg.W)).mono ?_;rintro _ _ ⟨rfl,gg,rfl⟩;rw[←HC.out.2];go_wp2_with fail;refine(aD (g:=gg) (qD _ h25 (by decide) gg.W)).mono ?_
  rintro _ _ ⟨rfl,gg,rfl⟩)
 ·obtain⟨N,n1,n2,n3,-⟩:=V.out.1;go_wp2_with fail;refine(aD (g:=gg) (fM m (by have:=HW.out.2;omega) rfl n1 gg.W)).mono ?_;rintro _ _ ⟨rfl,gg,rfl⟩;rw[n3];go_wp2_with fail;go_ret2;exact⟨rfl,gg.below⟩
 ·obtain⟨N,n1,n2,n3,-⟩:=V.out.2.1;go_wp2_with fail;refine(aD (g:=gg) (fM m (by have:=HW.out.2;omega) rfl n1 gg.W)).mono ?_;rintro _ _ ⟨rfl,gg,rfl⟩;rw[n3];go_wp2_with fail;go_ret2;exact⟨rfl,gg.below⟩
 ·obtain⟨N,n1,n2,n3,-⟩:=V.out.2.2.1;go_wp2_with fail;refine(aD (g:=gg) (fM m (by have:=HW.out.2;omega) rfl n1 gg.W)).mono ?_;rintro _ _ ⟨rfl,gg,rfl⟩;rw[n3];go_wp2_with fail;go_ret2;exact⟨rfl,gg.below⟩
 ·obtain⟨N,n1,n2,n3⟩:=V.out.2.2.2.1;go_wp2_with fail;refine(aD (g:=gg) (fM m (by have:=HW.out.2;omega) rfl n1 gg.W)).mono ?_;rintro _ _ ⟨rfl,gg,rfl⟩;rw[n3];go_wp2_with fail;go_ret2;exact⟨rfl,gg.below⟩
 ·obtain⟨N,n1,n2,n3⟩:=V.out.2.2.2.2.1;go_wp2_with fail;refine(aD (g:=gg) (fM m (by have:=HW.out.2;omega) rfl n1 gg.W)).mono ?_;rintro _ _ ⟨rfl,gg,rfl⟩;rw[n3];go_wp2_with fail;go_ret2;exact⟨rfl,gg.below⟩
 ·obtain⟨N,n1,n2,n3⟩:=V.out.2.2.2.2.2;go_wp2_with fail;refine(aD (g:=gg) (fM m (by have:=HW.out.2;omega) rfl n1 gg.W)).mono ?_;rintro _ _ ⟨rfl,gg,rfl⟩;rw[n3];go_wp2_with fail;go_ret2;exact⟨rfl,gg.below⟩
 ·rcases cq b with hz | hz
  ·have ho:trn (m:Int) (2 ^ 64 - 1)=opn 23 m a b:=by
    rw[gC rfl HW.out.2.1 HW.out.2.2 (by decide),ones_mod HW.out.2.2,hz];rfl
   have HZ:=aa hz
   have hz:(b:Int)=0:=by omega
   go_wp2_with fail;refine(aD (g:=gg) (fM m (by have:=HW.out.2;omega) (x:=2 ^ 64 - 1) (by decide) (by decide) gg.W)).mono ?_;rintro _ _ ⟨rfl,gg,rfl⟩;rw[ho];go_wp2_with fail;go_ret2;refine⟨?_,gg.below⟩;rw[HZ.out];rfl
  ·have hb0:¬b=0:=by omega
   have D:=aa (div_val HW.out.2.1 HW.out.2.2 HA.out.1 hb0)
   have ho:trn (m:Int) (a / b)=opn 23 m a b:=by
    rw[o5 HW.out.2.1 HW.out.2.2 D.out.1.2.1];unfold opn;simp[hb0]
   have HO:=aa ho
   have hz:¬(b:Int)=0:=by omega
   clear hb0 ho;go_wp2_with fail;refine(aD (g:=gg) (fM m (by have:=HW.out.2;omega) (x:=a / b) (by rw[←Int.natCast_ediv];exact D.out.1.2.2) (lt64 HW.out.2.2 D.out.1.2.1) gg.W)).mono ?_;rintro _ _ ⟨rfl,gg,rfl⟩;rw[HO.out];go_wp2_with fail;go_ret2;exact⟨rfl,gg.below⟩
 ·rcases cq b with hz | hz
  ·have ho:trn (m:Int) a=opn 24 m a b:=by
    rw[o5 HW.out.2.1 HW.out.2.2 HA.out.1,hz];rfl
   have HZ:=aa hz
   have hz:(b:Int)=0:=by omega
   go_wp2_with fail;refine(aD (g:=gg) (fM m (by have:=HW.out.2;omega) (x:=a) rfl (lt64 HW.out.2.2 HA.out.1) gg.W)).mono ?_;rintro _ _ ⟨rfl,gg,rfl⟩;rw[ho];go_wp2_with fail;go_ret2;refine⟨?_,gg.below⟩;rw[HZ.out];rfl
  ·have hb0:¬b=0:=by omega
   have D:=aa (div_val HW.out.2.1 HW.out.2.2 HA.out.1 hb0)
   have ho:trn (m:Int) (a % b)=opn 24 m a b:=by
    rw[o5 HW.out.2.1 HW.out.2.2 D.out.2.2];unfold opn;simp[hb0]
   have HO:=aa ho
   have hz:¬(b:Int)=0:=by omega
   clear hb0 ho;go_wp2_with fail;refine(aD (g:=gg) (fM m (by have:=HW.out.2;omega) (x:=a % b) (by rw[jp]) (lt64 HW.out.2.2 D.out.2.2) gg.W)).mono ?_;rintro _ _ ⟨rfl,gg,rfl⟩;rw[HO.out];go_wp2_with fail;go_ret2;exact⟨rfl,gg.below⟩
end
end Go.Proofs.YtfigjpehecibeaaGreat.L
namespace Go.Proofs.YtfigjpehecibeaaGreat.L
open Go.RowKit Bm C Go.Maps Go.Proofs.YtfigjpehecibeaaGreatW.PrintWords Go.Proofs.YtfigjpehecibeaaGreatW.PrintLast Go.Proofs.YtfigjpehecibeaaGreatW.PrintMore Go.Proofs.YtfigjpehecibeaaGreat.Gr
theorem qG {w:Int}{x:Nat}{s:Int}(hs:s=sgn w x)(h1:1<=w)(h2:w<=64)(hx:x<2 ^ 64)(W:World):Calls au 235 #[.int .i64 w,.int .u64 (x:Int)] W fun e W'=>e=.returned (.int .i64 s)/\Below W.heap.size W W':=hs ▸ o9 w h1 h2 x hx W
theorem compared25 (c:Cfg){R:List (List Int)}{L:List (ByteArray × Int)}{T:List S101}(W:World)(hM:MAt c R L T W)(x y:Nat)(hx:x<2 ^ 64)(hy:y<2 ^ 64)(h1:1<=c.wd)(h2:c.wd<=64):
 Calls au 161 #[.pointer (ag ⟨c.mb,0,ak⟩),.int .i64 25,.int .u64 (x:Int),.int .u64 (y:Int)] W fun e W'=>e=.returned (.int .u64 (cmpW 25 c.wd x y))/\Below W.heap.size W W':=by
 obtain⟨vr,hmb,_⟩:=hM.hm;obtain⟨wd,hwd⟩:∃wd,wd=c.wd:=⟨_,rfl⟩
 have m1:∀g:G W,g.W.cell? ⟨c.mb,1,ak⟩=ag (.int .i64 wd):=fun g=>by rw[hwd];exact(aA (aB hmb g.below) 1).trans rfl
 rw[←hwd]at h1 h2 ⊢;obtain⟨s1,hs1⟩:∃s,s=sgn wd x:=⟨_,rfl⟩;obtain⟨s2,hs2⟩:∃s,s=sgn wd y:=⟨_,rfl⟩
 have hr:cmpW 25 wd x y=if s1<s2 then 1 else 0:=by
  have e:cmpB 25 wd x y=decide (s1<s2):=by
   unfold cmpB;simp[hs1,hs2]
  unfold cmpW;rw[e]
  by_cases h:s1<s2 <;> simp[h]
 rw[hr];have H:=aa (aj hs1 (aj hs2 (aj hx (aj hy (aj h1 h2)))));clear hM hmb hwd hr hs1 hs2 hx hy h1 h2
 rcases dh s1 s2 with hlt | hle
 ·rw[if_pos hlt];go_enter Tryz.func161,Tryz.ntmps161
  go_upto_region 16 with (fail)
  refine bG (by kernel_rfl) (by kernel_rfl) ?_
  repeat(go_big_quiet_step (first | (go_at_call_of 235 (bh IntKind.u64 (x:Int));exact aD (qG H.out.1 H.out.2.2.2.2.1 H.out.2.2.2.2.2 H.out.2.2.1 _)) | (go_at_call_of 235 (bh IntKind.u64 (y:Int));exact aD (qG H.out.2.1 H.out.2.2.2.2.1 H.out.2.2.2.2.2 H.out.2.2.2.1 _))))
  refine wpQuiet_nil ?_;rintro _ ⟨gg,rfl⟩;go_wp2_with fail;go_ret;exact⟨rfl,gg.below⟩
 ·have hn:¬s1<s2:=by omega
  rw[if_neg hn];go_enter Tryz.func161,Tryz.ntmps161
  go_upto_region 16 with (fail)
  refine bG (by kernel_rfl) (by kernel_rfl) ?_
  repeat(go_big_quiet_step (first | (go_at_call_of 235 (bh IntKind.u64 (x:Int));exact aD (qG H.out.1 H.out.2.2.2.2.1 H.out.2.2.2.2.2 H.out.2.2.1 _)) | (go_at_call_of 235 (bh IntKind.u64 (y:Int));exact aD (qG H.out.2.1 H.out.2.2.2.2.1 H.out.2.2.2.2.2 H.out.2.2.2.1 _))))
  refine wpQuiet_nil ?_;rintro _ ⟨gg,rfl⟩;go_wp2_with fail;go_ret;exact⟨rfl,gg.below⟩
structure SOK (wd ln:Int)(ds:List S70):Prop where
 wd:∃m:Nat,wd=(m:Int)/\dP m
 ln:1<=ln/\ln<=256
 few:ds.length<=256
 row:∀i,i<ds.length->1<=cT (aI ds (i:Int))/\cT (aI ds (i:Int))<=256
structure ROK (ds:List S70)(R:List (List Int)):Prop where
 len:R.length=ds.length
 row:∀i,i<ds.length->((rowOf R i).length:Int)=cT (aI ds (i:Int))
 word:∀i k,0<=dM R i k/\dM R i k<18446744073709551616
def LOK (L:List (ByteArray × Int)):Prop:=∀p∈L,0<=p.2/\p.2<18446744073709551616
structure EOK (ds:List S70)(lo:List ByteArray)(e:S116):Prop where
 form:exB e=af
 good:Ot.lL e
 th:∀t∈eB e lo,lG ds t=ac/\bad12 ds t=ac
theorem EOK.kid {ds:List S70}{lo:List ByteArray}{e y:S116}(h:EOK ds lo e)(hy:y∈e.f3):EOK ds lo y:=by
 refine⟨?_,?_,fun t ht=>h.th t ?_⟩
 ·have:=h.form;rw[exB_eq,cb]at this;exact fw.1 this.2 y hy
 ·have:=h.good;obtain⟨a,b,s,l⟩:=e;rw[Ot.lL]at this;exact(Ot.oG l).1 this.2.2.2.2 y hy
 ·rw[iR];refine List.mem_cons_of_mem _ ?_;obtain⟨j,hj,rfl⟩:=gr hy;rw[tD e.f3 j hj lo]
  have e2:bR e.f3 (j:Int)=e.f3[j]:=by unfold bR;rw[ax,aw,az hj];rfl
  rw[e2];exact List.mem_append_right _ (List.mem_append_left _ ht)
theorem qL {L:List (ByteArray × Int)}{nm:ByteArray}:(lkL L nm).isSome=iL (L.map (·.1)) nm:=by
 unfold lkL iL;rw[Option.isSome_map,List.any_map]
 induction L with
 |nil=>rfl
 |cons p r ih=>
  rw[List.find?_cons,jv]
  cases h:eqS p.1 nm with
  |true=>simp[h]
  |false=>simpa[h]using ih
theorem lkL_ok {L:List (ByteArray × Int)}(h:LOK L){nm:ByteArray}{v:Int}(hv:lkL L nm=ag v):0<=v/\v<18446744073709551616:=by
 unfold lkL at hv;obtain⟨p,hp,rfl⟩:=iq.1 hv;exact h p (List.mem_of_find?_eq_some hp)
theorem EOK.name {ds:List S70}{lo:List ByteArray}{e:S116}(h:EOK ds lo e)(hk:e.f0=2):iL lo e.f2=af\/(iL lo e.f2=ac/\(cG ds e.f2).isSome=af):=by
 obtain⟨h1,h2⟩:=h.th (.expr e lo) (by rw[iR];exact ig)
 have hu:jS (.expr e lo)=ag e.f2:=by unfold jS;simp[hk]
 unfold lG at h1;rw[hu]at h1;simp only[gN]at h1
 cases hl:iL lo e.f2 with
 |true=>exact .inl rfl
 |false=>
  rw[hl]at h1;refine .inr ⟨rfl,?_⟩
  cases hf:cG ds e.f2 with
  |none=>rw[hf]at h1;simp at h1
  |some i=>rfl
theorem EOK.load {ds:List S70}{lo:List ByteArray}{e:S116}(h:EOK ds lo e)(hk:e.f0=3):(cG ds e.f2).isSome=af:=by
 obtain⟨h1,h2⟩:=h.th (.expr e lo) (by rw[iR];exact ig)
 have hu:jS (.expr e lo)=ag e.f2:=by unfold jS;simp[hk]
 unfold lG at h1;unfold bad12 at h2;rw[hu]at h1 h2;simp only[gN]at h1
 cases hl:iL lo e.f2 with
 |true=>
  have e3:sS ds (.expr e lo) e.f2=pU (.expr e lo):=if_pos hl;replace h2:(!sS ds (.expr e lo) e.f2)=ac:=h2;rw[e3]at h2;simp[pU,hk]at h2
 |false=>
  rw[hl]at h1
  cases hf:cG ds e.f2 with
  |none=>rw[hf]at h1;simp at h1
  |some i=>rfl
theorem find_lt {ds:List S70}{nm:ByteArray}(h:(cG ds nm).isSome=af):dNo ds nm<ds.length:=by
 obtain⟨i,hi⟩:=Option.isSome_iff_exists.1 h;unfold dNo;rw[hi];unfold cG at hi
 rcases dK ds.length (fun i=>eqS (aI ds (i:Int)).f1 nm)with ⟨h1,_⟩ | ⟨j,h0,h1,_⟩
 ·rw[h1]at hi;cases hi
 ·rw[h1]at hi;injection hi with hi;subst hi;exact h0
theorem EOK.kind {ds:List S70}{lo:List ByteArray}{e:S116}(h:EOK ds lo e):1<=e.f0/\e.f0<=26/\(e.f3.length:Int)=fL e.f0/\e.f3.length<=3/\(e.f0=1->0<=e.f1/\e.f1<18446744073709551616)/\e.f2.size<=maxLen:=by
 have h1:=h.form;rw[exB_eq,cb]at h1;have h2:=h1.1;unfold exOwn at h2;simp only[cb,beq_iff_eq]at h2;have h3:=h2.1.1.1;have h4:=h.good;obtain⟨a,b,s,l⟩:=e;rw[Ot.lL]at h4;obtain⟨g1,g2,g3,_,_⟩:=h4
 have hp:fL a<=3/\(0<=fL a->1<=a/\a<=26):=by
  unfold fL
  repeat' split
  all_goals omega
 have h5:fL a=(l.length:Int):=h3;obtain⟨n,hn,hn2⟩:=wf_u64 g2;refine⟨(hp.2 (by omega)).1,(hp.2 (by omega)).2,h5.symm,by show l.length<=3;omega,fun _=>by show 0<=b/\b<_;rw[p64]at hn2;omega,?_⟩;exact bi g3 (by unfold maxLen;omega)
theorem bT {P:Program}{id:Nat}{Q:Exit->Act->World->Prop}{a:Act}{X:World}{gg:G X}{l:List Oper}(hm:P.follows .mixedOrders=af)(hB:Region.lexB .any l.toArray=af)
 (h:wpQuiet P l.toArray (fun w'=>∃g:G X,w'=g.W) (fun a'=>∀w',(∃g:G X,w'=g.W)->Q .normal a' w') l a):(Code.region id l.toArray af).wp P Q a gg.W:=
 wp_region_quiet (C:=fun w'=>∃g:G X,w'=g.W) hm hB ⟨mkG gg.below.drew,rfl⟩ (by simpa using h)
def ExprM (c:Cfg)(e:S116):Prop:=∀(W:World) (R:List (List Int)) (L:List (ByteArray × Int)) (T:List S101) (A:Option Addr) (cap:Nat),MAt c R L T W->ROK c.ds R->LOK L->EOK c.ds (L.map (·.1)) e->T.length+aM e<1073741824->dC.C c.w0 A e.f3.length e.f3->e.f3.length<=cap->
 Calls au 115 #[.pointer (ag ⟨c.mb,0,ak⟩),.agg #[.int .i64 e.f0,.int .u64 e.f1,.string e.f2,.slice A e.f3.length cap]] W fun r W'=>r=.returned (.int .u64 (evE c.wd c.ln c.ds R L e).1)/\MAt c R L (T++(evE c.wd c.ln c.ds R L e).2) W'/\Kt [84,101] ak W W'
theorem expr_num (c:Cfg)(e:S116)(hk:e.f0=1):ExprM c e:=by
 intro W R L T A cap hM hR hL hE hT hC hcap
 have hr:evE c.wd c.ln c.ds R L e=(e.f1,[]):=by rw[evE_eq,if_pos hk]
 rw[hr];have H:=aa hM;clear hM hR hL hE hT hC hcap hr;obtain⟨k,num,nm,l⟩:=e;subst hk;go_enter Tryz.func115,Tryz.ntmps115;go_wp2_with fail;go_ret;refine⟨rfl,?_,?_⟩
 ·rw[ed];exact H.out.below ((ar _ _).alloc (aq _) _)
 ·exact Kt.of_below ((ar _ _).alloc (aq _) _) _ _
theorem expr_name (c:Cfg)(hs:SOK c.wd c.ln c.ds)(e:S116)(hk:e.f0=2):ExprM c e:=by
 intro W R L T A cap hM hR hL hE hT hC hcap
 have hr:evE c.wd c.ln c.ds R L e=((lkL L e.f2).getD (dM R (dNo c.ds e.f2) 0),[]):=by rw[evE_eq,if_neg (by omega),if_pos hk]
 have hn:=hE.name hk;have hsz:=hE.kind.2.2.2.2.2;rw[hr,ed];obtain⟨k,num,nm,l⟩:=e;replace hk:k=2:=hk;replace hsz:nm.size<=maxLen:=hsz;replace hn:iL (L.map (·.1)) nm=af\/(iL (L.map (·.1)) nm=ac/\(cG c.ds nm).isSome=af):=hn;subst hk;clear hE hT hC hcap hr hL
 show Calls au 115 #[.pointer (ag ⟨c.mb,0,ak⟩),.agg #[.int .i64 2,.int .u64 num,.string nm,.slice A l.length cap]] W fun r W'=>r=.returned (.int .u64 ((lkL L nm).getD (dM R (dNo c.ds nm) 0)))/\MAt c R L T W'/\Kt [84,101] ak W W'
 obtain⟨vr,hmb,hrb⟩:=hM.hm;obtain⟨X,hX⟩:∃X,X=W.alloc (.cells #[.int .i64 2,.int .u64 num,.string nm,.slice A l.length cap] 116):=⟨_,rfl⟩
 have hXB:Below W.heap.size W X:=by rw[hX];exact(ar _ _).alloc (aq _) _
 have hbx:X.heap[W.heap.size]? =ag (.cells #[.int .i64 2,.int .u64 num,.string nm,.slice A l.length cap] 116 (0,0)):=by rw[hX];exact aW _ _
 have hMX:=aa (show ∀g:G X,MAt c R L T g.W from fun g=>(hM.below hXB).below g.below);have OUT:=aa (show ∀g:G X,Kt [84,101] ak W g.W from fun g=>(Kt.of_below hXB _ _).trans (Kt.of_below g.below _ _));have m7:∀g:G X,g.W.cell? ⟨c.mb,7,ak⟩=ag (.map (ag c.lb)):=fun g=>(aA (aB (aB hmb hXB) g.below) 7).trans rfl;have e2:∀g:G X,g.W.cell? ⟨W.heap.size,2,ak⟩=ag (.string nm):=fun g=>(aA (aB hbx g.below) 2).trans rfl;have hlk:∀g:G X,(iw 89 (.map (ag c.lb)) (.string nm) af).run au g.W=.ok (.tuple #[.int .u64 ((lkL L nm).getD 0),.bool (lkL L nm).isSome]) g.W:=fun g=>(hMX.out g).loop hsz
 rcases hl:lkL L nm with _ | v
 ·have hf:(cG c.ds nm).isSome=af:=by
   rcases hn with h | h
   ·rw[←qL,hl]at h;cases h
   ·exact h.2
  have hd:=find_lt hf;have m5:∀g:G X,g.W.cell? ⟨c.mb,5,ak⟩=ag (.map (ag c.ab)):=fun g=>(aA (aB (aB hmb hXB) g.below) 5).trans rfl;obtain⟨d,hdd⟩:∃d:Nat,d=dNo c.ds nm:=⟨_,rfl⟩
  have hla:∀g:G X,(iw 88 (.map (ag c.ab)) (.string nm) ac).run au g.W=.ok (.int .i64 (d:Int)) g.W:=fun g=>by rw[hdd];exact(hMX.out g).look hsz hf
  rw[←hdd]at hd ⊢
  have hdR:d<R.length:=by rw[hR.len];exact hd
  obtain⟨A0,cp,b,c0,rfl,hcd,_,hbb,hcell⟩:=hrb.at' hdR;have hr1:=hs.row d hd
  have hl1:1<=(rowOf R d).length:=by have:=hR.row d hd;omega
  obtain⟨q,_⟩:=hcell 0 (by omega);obtain⟨n,hnn⟩:∃n,n=(rowOf R d).length:=⟨_,rfl⟩;obtain⟨RN,hRN⟩:∃n,n=R.length:=⟨_,rfl⟩;obtain⟨x,hx⟩:∃x,x=dM R d 0:=⟨_,rfl⟩;rw[←hnn]at hcd hl1;rw[←hRN]at hdR hmb;rw[←hx]at q ⊢
  have m6:∀g:G X,g.W.cell? ⟨c.mb,6,ak⟩=ag (.slice (ag A0) RN cp):=fun g=>by rw[hRN];exact(aA (aB (aB (hRN ▸ hmb) hXB) g.below) 6).trans rfl
  have q1:∀g:G X,g.W.cell? (A0.add d)=ag (.slice (ag ⟨b,0,ak⟩) n c0):=fun g=>aE (hXB.trans (g.below.mono hXB.size)) hcd;have q2:∀g:G X,g.W.cell? ⟨b,0,ak⟩=ag (.int .u64 x):=fun g=>aE (hXB.trans (g.below.mono hXB.size)) q
  have d0:(0:Int)<=(d:Int):=by omega
  have d1:(d:Int)<(RN:Int):=by omega
  have n1:(0:Int)<(n:Int):=by omega
  rw[hl]at hlk;replace hlk:∀g:G X,(iw 89 (.map (ag c.lb)) (.string nm) af).run au g.W=.ok (.tuple #[.int .u64 0,.bool ac]) g.W:=hlk
  show Calls au 115 _ W fun r W'=>r=.returned (.int .u64 x)/\MAt c R L T W'/\Kt [84,101] ak W W'
  clear hM hmb hrb hn hl hf hd hdR hbb hcell q hcd hXB hbx hsz hR hs hr1 hl1 hnn hRN hx hdd;go_enter Tryz.func115,Tryz.ntmps115
  go_upto_region 5 with (fail)
  rw[←hX];clear hX;refine bG (by kernel_rfl) (by kernel_rfl) ?_
  repeat go_big_quiet_step (fail)
  refine wpQuiet_nil ?_;rintro _ ⟨gg,rfl⟩;go_wp2_with fail;refine bT (by kernel_rfl) (by kernel_rfl) ?_
  repeat go_big_quiet_step (fail)
  refine wpQuiet_nil ?_;rintro _ ⟨gg,rfl⟩;go_wp2_with fail;go_ret;exact⟨rfl,hMX.out gg,OUT.out gg⟩
 ·rw[hl]at hlk;replace hlk:∀g:G X,(iw 89 (.map (ag c.lb)) (.string nm) af).run au g.W=.ok (.tuple #[.int .u64 v,.bool af]) g.W:=hlk
  show Calls au 115 _ W fun r W'=>r=.returned (.int .u64 v)/\MAt c R L T W'/\Kt [84,101] ak W W'
  clear hM hmb hrb hn hl hXB hbx hsz hR hs;go_enter Tryz.func115,Tryz.ntmps115
  go_upto_region 5 with (fail)
  rw[←hX];clear hX;refine bG (by kernel_rfl) (by kernel_rfl) ?_
  repeat go_big_quiet_step (fail)
  refine wpQuiet_nil ?_;rintro _ ⟨gg,rfl⟩;go_wp2_with fail;go_ret;exact⟨rfl,hMX.out gg,OUT.out gg⟩
end Go.Proofs.YtfigjpehecibeaaGreat.L
