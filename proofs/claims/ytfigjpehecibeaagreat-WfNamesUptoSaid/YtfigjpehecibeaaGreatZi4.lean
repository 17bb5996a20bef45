/- Texts joined by a program of mine: Vf Ua Ub Uc Ud Ui Uj Uk Lt Ul Um Un Uo. -/
import Derived.Test.YtfigjpehecibeaaGreatZi3
set_option maxRecDepth 100000
open And renaming intro -> aq
open Bool renaming true -> ac, false -> O
open Go.Act renaming put -> ay
open Go.Proofs.Tryz renaming prog -> au
open Go.Proofs.YtfigjpehecibeaaGreatW.PrintWords.Aside0 renaming mk -> J
open Go.RowKit.Below renaming refl -> ak, heap_alloc -> dr
open Go.World renaming block_lt_of_cell? -> ah
open Int renaming natCast_nonneg -> bc, toNat_natCast -> ax, lt_or_le -> dq
open List renaming getD_eq_getElem?_getD -> aw, getElem?_eq_getElem -> av, getElem_mem -> dz, any_cons -> gm, range -> cr, all_eq_true -> ew, mem_range -> gq, mem_cons -> cg, setIfInBounds_toArray -> aa, set_cons_zero -> af, set_cons_succ -> ag, map_toArray -> cd, map_cons -> cq, map_nil -> dc, take_length -> df, sizeOf_lt_of_mem -> fe, getElem_of_mem -> ef
open Nat renaming le_refl -> ai, lt_of_lt_of_le -> ee, zero_le -> br, not_lt_zero -> dn, add_zero -> fg, le_trans -> bg, eq_zero_or_pos -> bu
open Option renaming some -> ae, none -> aj
open Or renaming inl -> bi
open SizeOf renaming sizeOf -> cu
set_option linter.unusedVariables false
set_option linter.unusedSimpArgs false
set_option maxHeartbeats 8000000
namespace Go.Proofs.YtfigjpehecibeaaGreat.L
open Go.RowKit Go.Proofs.YtfigjpehecibeaaGreatW.PrintWords Go.Proofs.YtfigjpehecibeaaGreatW.PrintLast Go.Proofs.YtfigjpehecibeaaGreatW.PrintMore Go.Proofs.YtfigjpehecibeaaGreat.Gr
section
attribute [local go_sem] G.cell
theorem blk_new' {w:World}{o:Obj}{n:Nat}(h:n=w.heap.size):(w.alloc o).heap[n]? =ae o:=by subst h;exact bR w o
def dW (f:Th->Bool)(l:List Th):Int × Bool:=match aU l.length (fun i=>f (eQ l i))with
 |some i=>((i:Int),ac)
 |none=>(0,O)
theorem kQ {l:List Th}{i:Nat}(h:i<l.length):eQ l i=l[i]:=by unfold eQ;rw[aw,av h];rfl
theorem any_none {f:Th->Bool}{l:List Th}(h:l.any f=O):dW f l=(0,O):=by
 unfold dW;rw[cW fun j hj=> ?_];rw[List.any_eq_false]at h;rw[kQ hj]
 simpa using h _ (dz hj)
theorem outL_first {f:Th->Bool}:∀{n:Nat} {l:List Th},l.any f=ac->∃i,i<l.length/\lC f n l=.panicked (jC (n+i))/\f (eQ l i)=ac/\∀j,j<i->f (eQ l j)=O
 |_,[],h=>by simp at h
 |n,t::r,h=>by
  rw[lC]
  by_cases ht:f t=ac
  ·exact⟨0,by simp,by rw[if_pos ht];rfl,ht,fun j hj=>by omega⟩
  ·rw[if_neg ht];rw[gm]at h
   obtain⟨i,h1,h2,h3,h4⟩:=outL_first (n:=n+1) (l:=r) (by simpa[ht]using h)
   refine⟨i+1,by simp;omega,by rw[h2,show n+1+i=n+(i+1) by omega],h3,fun j hj=> ?_⟩
   match j with
   |0=>exact Bool.eq_false_iff.2 ht
   |j+1=>exact h4 j (by omega)
theorem any_some {f:Th->Bool}{l:List Th}(h:l.any f=ac):∃i:Nat,lC f 0 l=.panicked (jC i)/\dW f l=((i:Int),ac):=by
 obtain⟨i,h1,h2,h3,h4⟩:=outL_first (n:=0) h
 refine⟨i,by rw[h2,Nat.zero_add],?_⟩;unfold dW;rw[cZ h1 h3 h4]
theorem first_calls {W0:World}{p1 p2:Value}{R:Th->Prop}{f:Th->Bool}(hw:fX W0 p1 p2 R f)(nm:ByteArray)(wd ln:Int)(ds:List S70)(bd:List S119)(A3:Option Addr)(c3:Nat)(A4:Option Addr)(c4:Nat)(W:World)(hp:ProgAt W ds bd A3 c3 A4 c4)(hform:bdB bd=ac)(hdl:ds.length<=1048576)(hbb:Ot.bH bd<=1048576)(hR:∀t∈things ds bd,R t)(hB:Below W0.heap.size W0 W):
 Calls au 250 #[.agg #[.string nm,.int .i64 wd,.int .i64 ln,.slice A3 ds.length c3,.slice A4 bd.length c4],.func (.func 251) #[] #[p1,p2]] W fun r W'=>r=.returned (.tuple #[.int .i64 (dW f (things ds bd)).1,.bool (dW f (things ds bd)).2])/\Below W.heap.size W W':=by
 have hmf:∀(fn:Fn) (first cap:Array Value) (w:World),(Instr.makeFunc fn first cap).run au w=.ok (.func fn first cap) w:=fun _ _ _ _=>rfl;have HW:=J hw;have HRR:=J hR;clear hR;have HP:=J hp;have HZ:=J (aq hform (aq hdl hbb));have HB:=J hB;clear hw hp hform hdl hbb hB
 go_enter_defers Tryz.func250,Tryz.ntmps250
 go_upto_region 1 with (fail)
 refine wp_name ?_;intro X hX;have BX:=J (show Below W.heap.size W X by rw[hX];exact((((ak _ _).alloc (ai _) _).alloc (by simp) _).alloc (by simp;omega) _).alloc (by simp;omega) _);have k3:=J (show X.heap[W.heap.size+1+1+1]? =ae (.cells #[.bool O] 4 (0,0)) by rw[hX];exact blk_new' (by simp));have k2:=J (show X.heap[W.heap.size+1+1]? =ae (.cells #[.int .i64 0] 3 (0,0)) by rw[hX,dr _ _ _ (by simp)];exact blk_new' (by simp));have k1:=J (show X.heap[W.heap.size+1]? =ae (.cells #[.func (.func 251) #[] #[p1,p2]] 272 (0,0)) by rw[hX,dr _ _ _ (by simp),dr _ _ _ (by simp)];exact blk_new' (by simp));have k0:=J (show X.heap[W.heap.size]? =ae (.cells #[.string nm,.int .i64 wd,.int .i64 ln,.slice A3 ds.length c3,.slice A4 bd.length c4] 25 (0,0)) by rw[hX,dr _ _ _ (by simp;omega),dr _ _ _ (by simp;omega),dr _ _ _ (by simp)];exact(bR _ _));clear hX;have x0:X.cell? ⟨W.heap.size,0,aj⟩=ae (.string nm):=(aB k0.out 0).trans rfl;have x1:X.cell? ⟨W.heap.size,1,aj⟩=ae (.int .i64 wd):=(aB k0.out 1).trans rfl;have x2:X.cell? ⟨W.heap.size,2,aj⟩=ae (.int .i64 ln):=(aB k0.out 2).trans rfl;have x3:X.cell? ⟨W.heap.size,3,aj⟩=ae (.slice A3 ds.length c3):=(aB k0.out 3).trans rfl;have x4:X.cell? ⟨W.heap.size,4,aj⟩=ae (.slice A4 bd.length c4):=(aB k0.out 4).trans rfl;go_wp2_with fail;refine(all_calls (Wb:=X) (bw:=W.heap.size+1) (R:=R) (f:=f) (see_ok (HB.out.trans (BX.out.mono HB.out.size)) k1.out HW.out) nm wd ln ds bd A3 c3 A4 c4 (HP.out.below BX.out) HZ.out.1 HZ.out.2.1 HZ.out.2.2 HRR.out X (ak _ _)).mono ?_;rintro _ W1 ⟨rfl,hB1⟩;have l3:=ee (aR k3.out) hB1.size;have l2:=ee (aR k2.out) hB1.size;have j3:=J (aE k3.out hB1);have j2:=J (aE k2.out hB1);have B1:=J (BX.out.trans (hB1.mono BX.out.size));clear hB1 x0 x1 x2 x3 x4;unfold outA
 rcases aH ((things ds bd).any f)with ha | ha
 ·obtain⟨i,hi,hfs⟩:=any_some ha;rw[if_pos ha,hi];refine leaves_cons (f:=283) (args:= #[.pointer (ae ⟨W.heap.size+1+1,0,aj⟩),.pointer (ae ⟨W.heap.size+1+1+1,0,aj⟩)]) (by simp) (by simp[go_sem]) ?_;refine(lY (W.heap.size+1+1) (W.heap.size+1+1+1) 0 O i W1 j2.out j3.out (by omega)).mono ?_;rintro e u' w'' ⟨rfl,rfl,h4,h5,hb⟩;have hc4:w''.cell? ⟨W.heap.size+1+1,0,aj⟩=ae (.int .i64 i):=(aB h4 0).trans rfl;have hc5:w''.cell? ⟨W.heap.size+1+1+1,0,aj⟩=ae (.bool ac):=(aB h5 0).trans rfl;have hb2:=J (B1.out.trans (hb W.heap.size (by omega) (by omega) B1.out.size));simp[Leaves,settle,results,Tryz.results94,go_sem,jC,hc4,hc5,hfs];exact hb2.out
 ·rw[if_neg (by simp[ha])];have HA:=J ha;clear ha;have c4:W1.cell? ⟨W.heap.size+1+1,0,aj⟩=ae (.int .i64 0):=(aB j2.out 0).trans rfl;have c5:W1.cell? ⟨W.heap.size+1+1+1,0,aj⟩=ae (.bool O):=(aB j3.out 0).trans rfl;have f4:=bS j2.out 0;have f5:=bS j3.out 0;go_wp2_with fail;refine leaves_cons (f:=283) (args:= #[.pointer (ae ⟨W.heap.size+1+1,0,aj⟩),.pointer (ae ⟨W.heap.size+1+1+1,0,aj⟩)]) (by simp) (by simp[go_sem]) ?_;refine(catch_idle _ _ _).mono ?_;rintro e u' w'' ⟨rfl,rfl,rfl⟩;have hfs:=any_none HA.out;have hb2:Below W.heap.size W ((W1.setCell ⟨W.heap.size+1+1,0,aj⟩ (.int .i64 0)).setCell ⟨W.heap.size+1+1+1,0,aj⟩ (.bool O)):=(B1.out.setCell (p:=⟨W.heap.size+1+1,0,aj⟩) (by show W.heap.size<=W.heap.size+1+1;omega) _).setCell (p:=⟨W.heap.size+1+1+1,0,aj⟩) (by show W.heap.size<=W.heap.size+1+1+1;omega) _;simp[Leaves,settle,results,Tryz.results94,go_sem,c4,c5,hfs];exact hb2
end
section
attribute [local go_sem] G.cell
theorem aW.one {w:World}:∀{l l':List ByteArray} {v:Value},aW w v l->aW w v l'->l=l'
 | [],[],_,_,_=>rfl
 | [],_::_,v,h,⟨b,nx,hv,_⟩=>by rw[show v=.pointer aj from h]at hv;cases hv
 |_::_,[],v,⟨b,nx,hv,_⟩,h=>by rw[show v=.pointer aj from h]at hv;cases hv
 |a::r,a'::r',v,⟨b,nx,hv,hc,hr⟩,⟨b',nx',hv',hc',hr'⟩=>by
  rw[hv]at hv';injection hv' with e;injection e with e;injection e with e;subst e;rw[hc]at hc';injection hc' with e;injection e with e
  have e1:Value.string a=.string a':=by have:=congrArg (fun x:Array Value=>x.getD 0 undef) e;simpa using this
  have e2:nx=nx':=by have:=congrArg (fun x:Array Value=>x.getD 1 undef) e;simpa using this
  injection e1 with e1;subst e1 e2;rw[aW.one hr hr']
open Classical in
noncomputable def scL (w:World)(v:Value):List ByteArray:=if h:∃l,aW w v l then Classical.choose h else []
theorem scL_eq {w:World}{v:Value}{l:List ByteArray}(h:aW w v l):scL w v=l:=by
 unfold scL;rw[dif_pos ⟨l,h⟩];exact aW.one (Classical.choose_spec (⟨l,h⟩:∃l,aW w v l)) h
theorem has_calls (w:World)(v:Value)(l:List ByteArray)(s:ByteArray)(b:Bool)(hsc:aW w v l)(hb:kM l s=b):Calls au 195 #[v,.string s] w fun e w'=>e=.returned (.bool b)/\Below w.heap.size w w':=by
 have HSC:=J hsc;have HB:=J hb;clear hsc hb;go_enter Tryz.func195,Tryz.ntmps195;go_wp2_with fail
 go_loopw [0] (fun p W=>∃(l1:List ByteArray) (p1:Value),p1=p/\w=W/\Aside0 (aW w p1 l1/\kM l1 s=b)) (fun p _=>(scL w p).length)
 case atStart=>exact⟨l,v,rfl,rfl,⟨HSC.out,HB.out⟩⟩
 case round=>
  obtain⟨l1,p1,rfl,rfl,HK⟩:=hrel
  cases l1 with
  |nil=>
   have hp:=HK.out.1;have hb:=HK.out.2;rw[show p1=.pointer aj from hp];go_wp2_with fail;go_ret;exact⟨aA (by rw[←hb];rfl),ak _ _⟩
  |cons a r=>
   obtain⟨c,nx,hv,hc,hr⟩:=HK.out.1;have hb:=HK.out.2;have HR:=J hr;have HL:=J (aq (scL_eq HK.out.1) (scL_eq hr));subst hv;have c0:w.cell? ⟨c,0,aj⟩=ae (.string a):=(aB hc 0).trans rfl;have c1:w.cell? ⟨c,1,aj⟩=ae nx:=(aB hc 1).trans rfl;obtain⟨q,rfl⟩:=hr.ptr;clear hc hr
   by_cases h:a.toList=s.toList
   ·have HH:=J hb;clear hb;have HE:=J h;have bb:(a.toList==s.toList)=ac:=beq_iff_eq.mpr h;clear h;go_wp2_with fail;go_ret;exact⟨aA (by rw[←HH.out];simp[kM,eqS,HE.out]),ak _ _⟩
   ·have HH:=J hb;clear hb;have HE:=J h;have bb:(a.toList==s.toList)=O:=beq_eq_false_iff_ne.mpr h;clear h;go_wp2_with fail;refine⟨⟨r,_,rfl,by first | rfl | trivial,⟨HR.out,?_⟩⟩,?_⟩
    ·rw[←HH.out];simp[kM,eqS,HE.out]
    ·rw[HL.out.1,HL.out.2];simp
theorem has_v {w:World}{v:Value}{lo:List ByteArray}{s:ByteArray}{b:Bool}(hsc:aW w v lo.reverse)(hb:kM lo s=b):Calls au 195 #[v,.string s] w fun e w'=>e=.returned (.bool b)/\Below w.heap.size w w':=
 has_calls w v lo.reverse s b hsc (by unfold kM at hb ⊢;rw[List.any_reverse];exact hb)
def FindR (A3:Option Addr)(ds:List S70)(s:ByteArray)(q:Option Addr):Prop:=(q.isSome=(dH ds s).isSome)/\∀i,dH ds s=ae i->∃ad,A3=ae ad/\q=ae (ad.add (i*4))
theorem find_calls (nm:ByteArray)(wd ln:Int)(ds:List S70)(A3:Option Addr)(c3:Nat)(A4:Option Addr)(n4 c4:Nat)(s:ByteArray)(w:World)(hd:k70.C w A3 ds.length ds)(hld:ds.length<=c3):
 Calls au 181 #[.agg #[.string nm,.int .i64 wd,.int .i64 ln,.slice A3 ds.length c3,.slice A4 n4 c4],.string s] w fun e w'=>∃q,e=.returned (.pointer q)/\FindR A3 ds s q/\Below w.heap.size w w':=by
 have gout:=@gA w;have HD:=J hd;have hlm:=hd.2.1;clear hd;go_enter Tryz.func181,Tryz.ntmps181
 go_upto_region 2 with (fail)
 refine aG ?_;intro gg;go_wp2_with fail
 go_loopw [9] (fun i W=>∃(k:Nat),i=.int .i64 k/\W=gg.W/\k<=ds.length/\Aside0 (∀j,j<k->eqS (aJ ds (j:Int)).f1 s=O)) (fun i _=>ds.length - (intOf i).toNat)
 case atStart=>exact⟨0,rfl,rfl,br _,⟨fun j hj=>absurd hj (dn _)⟩⟩
 case round=>
  obtain⟨k,rfl,rfl,hk,HK⟩:=hrel
  by_cases hlt:k<ds.length
  ·obtain⟨ad,A9,c9,e1,q0,q1,q2,q3,l9,g9⟩:=d6 HD.out (k:Int) (bc _) (by omega);cases e1;rw[ax]at q1;replace q1:=aM (gout gg) q1;clear q0 q2 q3 l9 g9
   have hk1:(k:Int)<(ds.length:Int):=by omega
   by_cases h:(aJ ds (k:Int)).f1.toList=s.toList
   ·have HE:=J h;have bb:((aJ ds (k:Int)).f1.toList==s.toList)=ac:=beq_iff_eq.mpr h;clear h;go_wp2_with fail;go_ret;have e:dH ds s=ae k:=cZ (by omega) (by show eqS _ _ =ac;unfold eqS;rw[HE.out];simp) HK.out;exact⟨_,rfl,⟨by rw[e];rfl,fun i hi=>by rw[e]at hi;injection hi with hi;subst hi;exact⟨_,rfl,rfl⟩⟩,gout _⟩
   ·have HE:=J h;have bb:((aJ ds (k:Int)).f1.toList==s.toList)=O:=beq_eq_false_iff_ne.mpr h;clear h;go_wp2_with fail;refine⟨⟨k+1,by go_num,by first | rfl | trivial,by omega,⟨fun j hj=>(Decidable.em (j=k)).elim (fun h=>by rw[h];exact decide_eq_false HE.out) (fun h=>HK.out j (by omega))⟩⟩,by simp[intOf];omega⟩
  ·have hk1:¬(k:Int)<(ds.length:Int):=by omega
   go_wp2_with fail;go_ret;have e:dH ds s=aj:=cW fun j hj=>HK.out j (by omega);exact⟨_,rfl,⟨by rw[e];rfl,fun i hi=>by rw[e]at hi;cases hi⟩,gout _⟩
theorem pow_table:(cr 257).all (fun m=>m==0||((bits BinOp.and IntKind.i64 (m:Int) (wrap64 ((m:Int) - 1))==0)==dB (m:Int)))=ac:=by kernel_rfl
theorem pow_and {n:Int}(h1:1<=n)(h2:n<=256):(bits BinOp.and IntKind.i64 n (wrap64 (n - 1))==0)=dB n:=by
 obtain⟨m,rfl⟩:=Int.eq_ofNat_of_zero_le (show 0<=n by omega);have h:=ew.1 pow_table m (gq.2 (by omega))
 have hm:(m==0)=O:=by simp;omega
 rw[hm,Bool.false_or]at h;exact beq_iff_eq.1 h
theorem pow_out {n:Int}(h:n<1\/256<n):dB n=O:=by
 cases hp:dB n with
 |false=>rfl
 |true=>have:=pow2_le hp;omega
theorem gQ (n most:Int)(w:World)(hm:most<=256)(b:Bool)(hb:b=(decide (n<=most)&&dB n)):Calls au 176 #[.int .i64 n,.int .i64 most] w fun e w'=>e=.returned (.bool b)/\Below w.heap.size w w':=by
 have HB:=J hb;clear hb
 rcases dq n 1 with h | h
 ·have h1:¬n ≥ 1:=by omega
  go_enter Tryz.func176,Tryz.ntmps176;go_wp2_with fail;go_ret;exact⟨aA (by rw[HB.out,pow_out (.inl h)];simp),ak _ _⟩
 ·have h1:n ≥ 1:=h
  rcases dq most n with k | k
  ·have k1:¬n<=most:=by omega
   go_enter Tryz.func176,Tryz.ntmps176;go_wp2_with fail;go_ret;exact⟨aA (by rw[HB.out];simp;omega),ak _ _⟩
  ·have KK:=J (show(bits BinOp.and IntKind.i64 n (n - 1)==0)=dB n by have e:=pow_and h (show n<=256 by omega);rw[show wrap64 (n - 1)=n - 1 by unfold wrap64;omega]at e;exact e);have K2:=J k;go_enter Tryz.func176,Tryz.ntmps176;go_wp2_with fail;go_ret;exact⟨aA (by rw[HB.out,KK.out];simp[K2.out]),ak _ _⟩
theorem iP (wd x:Int)(w:World)(h1:0<=wd)(hx:0<=x)(b:Bool)(hb:iJ wd x=b):Calls au 187 #[.int .i64 wd,.int .u64 x] w fun e w'=>e=.returned (.bool b)/\Below w.heap.size w w':=by
 have HB:=J hb;have HX:=J hx;clear hb hx
 by_cases h2:wd ≥ 64
 ·go_enter Tryz.func187,Tryz.ntmps187;go_wp2_with fail;go_ret;exact⟨aA (by rw[←HB.out];unfold iJ;rw[decide_eq_true h2];rfl),ak _ _⟩
 ·have H2:=J h2;go_enter Tryz.func187,Tryz.ntmps187;go_wp2_with fail;go_ret;refine⟨aA ?_,ak _ _⟩;rw[←HB.out];unfold iJ;rw[decide_eq_false (show ¬64<=wd by have:=H2.out;omega),Bool.false_or];have hp:(0:Int)<2 ^ wd.toNat:=Int.pow_pos (by decide)
  have e:(x / 2 ^ wd.toNat=0) ↔ x<2 ^ wd.toNat:=by
   constructor
   ·intro h;have:=Int.lt_ediv_add_one_mul_self x hp;rw[h]at this;omega
   ·intro h;exact Int.ediv_eq_zero_of_lt HX.out h
  by_cases h:x<2 ^ wd.toNat
  ·rw[decide_eq_true h];exact beq_iff_eq.2 (e.2 h)
  ·rw[decide_eq_false h];exact beq_eq_false_iff_ne.2 (fun k=>h (e.1 k))
end
section
attribute [local go_sem] G.cell
def RT (t:Th):Prop:=goodTh t/\match t with
 | .stmt s _ _=>1<=s.f0/\s.f0<=5
 |_=>True
theorem ret_use {a b:ByteArray}{c d:Bool}(h1:a=b)(h2:c=d):Ending.returned (.tuple #[.string a,.bool c])=.returned (.tuple #[.string b,.bool d]):=by rw[h1,h2]
theorem use_calls {Wb:World}(W:World)(n:Nat)(dp sp ep:Value)(dI:Int)(lp:Value)(t:Th)(hR:RT t)(hB:Below Wb.heap.size Wb W)(ht:ThP Wb W dp sp ep dI lp t)(r1:ByteArray)(r2:Bool)(hr:(r1,r2)=((jX t).getD ⟨#[]⟩,(jX t).isSome)):
 Calls au 194 #[.agg #[.int .i64 n,dp,sp,ep,.int .i64 dI,lp]] W fun e w'=>e=.returned (.tuple #[.string r1,.bool r2])/\Below W.heap.size W w':=by
 have hb:∀o:Obj,Below W.heap.size W (W.alloc o):=fun o=>(ak _ _).alloc (ai _) o;have h1:r1=(jX t).getD ⟨#[]⟩:=congrArg Prod.fst hr;have h2:r2=(jX t).isSome:=congrArg Prod.snd hr;have HR:=J (aq h1 h2);clear hr h1 h2
 cases t with
 |decl i=>
  obtain⟨⟨a,rfl⟩,rfl,rfl,rfl,rfl⟩:=ht;go_enter Tryz.func194,Tryz.ntmps194;go_wp2_with fail;go_ret2;exact⟨ret_use (by rw[HR.out.1];rfl) (by rw[HR.out.2];rfl),hb _⟩
 |stmt s d lo=>
  obtain⟨rfl,⟨a,A5,c5,A9,c9,A12,c12,A13,c13,rfl,hr,_⟩,rfl,rfl,hsc⟩:=ht;have q0:=aM (hB.trans ((hb (.cells #[.int .i64 n,.pointer aj,.pointer (ae ⟨a.block,a.off,aj⟩),.pointer aj,.int .i64 d,lp] 110)).mono hB.size)) (hr 0 _ rfl);have q1:=aM (hB.trans ((hb (.cells #[.int .i64 n,.pointer aj,.pointer (ae ⟨a.block,a.off,aj⟩),.pointer aj,.int .i64 d,lp] 110)).mono hB.size)) (hr 1 _ rfl);rw[fg]at q0
  have hk:s.f0=1\/s.f0=2\/s.f0=5\/s.f0=3\/s.f0=4:=by have:=hR.2.1;have:=hR.2.2;omega
  clear hr hsc hR hB
  rcases hk with k | k | k | k | k
  all_goals
   rw[k]at q0;have K:=J k;clear k;go_enter Tryz.func194,Tryz.ntmps194;go_wp2_with fail;go_ret2;exact⟨ret_use (by rw[HR.out.1];simp[jX,K.out]) (by rw[HR.out.2];simp[jX,K.out]),hb _⟩
 |expr x lo=>
  obtain⟨rfl,rfl,⟨a,A,c,rfl,hr,_⟩,rfl,hsc⟩:=ht;have q0:=aM (hB.trans ((hb (.cells #[.int .i64 n,.pointer aj,.pointer aj,.pointer (ae ⟨a.block,a.off,aj⟩),.int .i64 0,lp] 110)).mono hB.size)) (hr 0 _ rfl);have q2:=aM (hB.trans ((hb (.cells #[.int .i64 n,.pointer aj,.pointer aj,.pointer (ae ⟨a.block,a.off,aj⟩),.int .i64 0,lp] 110)).mono hB.size)) (hr 2 _ rfl);rw[fg]at q0;clear hr hsc hR hB
  have hk:x.f0=2\/x.f0=3\/(¬x.f0=2/\¬x.f0=3):=by omega
  rcases hk with k | k | ⟨k2,k3⟩
  rotate_right
  ·have b2:=bf k2;have b3:=bf k3;have K:=J (aq k2 k3);clear k2 k3;go_enter Tryz.func194,Tryz.ntmps194;go_wp2_with fail;go_ret2;exact⟨ret_use (by rw[HR.out.1];simp[jX,K.out.1,K.out.2]) (by rw[HR.out.2];simp[jX,K.out.1,K.out.2]),hb _⟩
  all_goals
   rw[k]at q0;have K:=J k;clear k;go_enter Tryz.func194,Tryz.ntmps194;go_wp2_with fail;go_ret2;exact⟨ret_use (by rw[HR.out.1];simp[jX,K.out]) (by rw[HR.out.2];simp[jX,K.out]),hb _⟩
end
section
attribute [local go_sem] G.cell
theorem ThP.scope {Wb W:World}{dp sp ep:Value}{dI:Int}{lp:Value}{t:Th}(h:ThP Wb W dp sp ep dI lp t):aW W lp (gT t).reverse:=by
 cases t with
 |decl i=>exact h.2.2.2.2
 |stmt s d lo=>exact h.2.2.2.2
 |expr e lo=>exact h.2.2.2.2
theorem wkind_calls {Wb:World}(nm:ByteArray)(wd ln:Int)(ds:List S70)(bd:List S119)(A3:Option Addr)(c3:Nat)(A4:Option Addr)(c4:Nat)(hp:ProgAt Wb ds bd A3 c3 A4 c4)(hd0:∀d∈ds,0<=d.f2)(W:World)(n:Nat)(dp sp ep:Value)(dI:Int)(lp:Value)(t:Th)(hR:RT t)(hB:Below Wb.heap.size Wb W)(ht:ThP Wb W dp sp ep dI lp t)
 (s:ByteArray) (hu:jX t=ae s) (hk:kM (gT t) s=ac\/∃i,dH ds s=ae i) (b:Bool) (hb:b=kindB ds t s):
 Calls au 197 #[(.agg #[.string nm,.int .i64 wd,.int .i64 ln,.slice A3 ds.length c3,.slice A4 bd.length c4]),.agg #[.int .i64 n,dp,sp,ep,.int .i64 dI,lp],.string s] W fun e w'=>e=.returned (.bool b)/\Below W.heap.size W w':=by
 have gout:∀{o o':Obj} (g:G ((W.alloc o).alloc o')),Below W.heap.size W g.W:=fun g=>(((ak _ _).alloc (ai _) _).alloc (by simp) _).trans (g.below.mono (by simp;omega));have HB:=J hB;have HP:=J hp;have HR:=J hb;have HSC:=J ht.scope;have HD:=J hd0;have hlm:=hp.hd.2.1;clear hb hp hd0;go_enter Tryz.func197,Tryz.ntmps197
 go_upto_region 1 with (fail)
 refine aG ?_;intro gg;have goutW:∀(g:G (gw0 gg)),Below W.heap.size W g.W:=fun g=>gout g;have goutB:∀(g:G (gw0 gg)),Below Wb.heap.size Wb g.W:=fun g=>HB.out.trans ((goutW g).mono HB.out.size);go_wp2_with fail
 rcases aH (kM (gT t) s)with hh | hh
 ·refine(aC (g:=gg) (has_v (HSC.out.below (gout gg)) hh)).mono ?_;rintro _ _ ⟨rfl,gg,rfl⟩;have HK:=J (show b=isName t by rw[HR.out];unfold kindB;rw[if_pos hh]);clear hh hk
  cases t with
  |decl i=>simp[jX]at hu
  |stmt x d lo=>
   obtain⟨rfl,⟨a,A5,c5,A9,c9,A12,c12,A13,c13,rfl,hr,_⟩,rfl,rfl,hsc⟩:=ht;clear hr hsc hR hu hB;go_wp2_with fail;go_ret;exact⟨aA (by rw[HK.out];rfl),goutW _⟩
  |expr x lo=>
   obtain⟨rfl,rfl,⟨a,A,c,rfl,hr,_⟩,rfl,hsc⟩:=ht;have q0:∀g:G (gw0 gg),g.W.cell? ⟨a.block,a.off,aj⟩=ae (.int .i64 x.f0):=fun g=>aM (goutB g) (by have:=hr 0 _ rfl;rwa [fg]at this);clear hr hsc hR hu hB
   by_cases k:x.f0=2
   ·have K:=J k;rw[k]at q0;clear k;have q:=q0 gg;go_wp2_with fail;go_ret;exact⟨aA (by rw[HK.out];simp[isName,K.out]),goutW _⟩
   ·have b2:=bf k;have K:=J k;clear k;have q:=q0 gg;go_wp2_with fail;go_ret;exact⟨aA (by rw[HK.out];simp[isName,K.out]),goutW _⟩
 ·refine(aC (g:=gg) (has_v (HSC.out.below (gout gg)) hh)).mono ?_;rintro _ _ ⟨rfl,gg,rfl⟩;obtain⟨i,hi⟩:∃i,dH ds s=ae i:=hk.elim (fun h=>by rw[hh]at h;cases h) id;have hlt:=findB_lt hi;have HK:=J (show b=kindD (aJ ds (i:Int)) t by rw[HR.out];unfold kindB;rw[if_neg (by simp[hh]),hi];rfl);clear hh hk;go_wp2_with fail;refine(find_calls nm wd ln ds A3 c3 A4 bd.length c4 s gg.W (Kd.aF HP.out.hd (goutB gg)) HP.out.hld).mono ?_;rintro _ w9 ⟨q,rfl,hF,hb9⟩;obtain⟨ad,hA,rfl⟩:=hF.2 i hi;obtain⟨gg,rfl⟩:∃g:G (gw0 gg),w9=g.W:=⟨mkG (gg.below.trans (hb9.mono gg.below.size)),rfl⟩;obtain⟨ad2,A9d,c9d,e1,p0,p1,p2,p3,_⟩:=d6 HP.out.hd (i:Int) (bc _) (by omega);rw[hA]at e1;cases e1;rw[ax]at p0 p2;have he:=addr_eta p0;have z0:=aM (goutB gg) p0;have z2:=aM (goutB gg) p2;rw[he]at z0;have D0:=J (HD.out _ (iH hlt));clear hb9 hF p0 p1 p2 p3 hA hi;generalize (ad.add (i*4)).block=bb at*;generalize (ad.add (i*4)).off=oo at*
  cases t with
  |decl j=>simp[jX]at hu
  |stmt x d lo=>
   obtain⟨rfl,⟨a,A5,c5,A9,c9,A12,c12,A13,c13,rfl,hr,_⟩,rfl,rfl,hsc⟩:=ht
   have hx:x.f0=1\/x.f0=2\/x.f0=5:=by
    simp only[jX]at hu
    split at hu
    ·assumption
    ·cases hu
   have q0:gg.W.cell? ⟨a.block,a.off,aj⟩=ae (.int .i64 x.f0):=aM (goutB gg) (by have:=hr 0 _ rfl;rwa [fg]at this);clear hr hsc hR hu hB
   rcases hx with k | k | k
   ·rw[k]at q0;have K:=J k;clear k;go_wp2_with fail;go_ret;exact⟨aA (by rw[HK.out];simp[kindD,K.out] <;> rfl),goutW _⟩
   ·rw[k]at q0;have K:=J k;clear k
    by_cases h2:(aJ ds (i:Int)).f2=0
    ·have g2:¬(aJ ds (i:Int)).f2 > 0:=by omega
     have H2:=J h2;clear h2;go_wp2_with fail;go_ret;exact⟨aA (by rw[HK.out];simp[kindD,K.out,H2.out]),goutW _⟩
    ·have g2:(aJ ds (i:Int)).f2 > 0:=by have:=D0.out;omega
     have H2:=J h2;clear h2;go_wp2_with fail;go_ret;exact⟨aA (by rw[HK.out];simp[kindD,K.out,H2.out] <;> rfl),goutW _⟩
   ·rw[k]at q0;have K:=J k;clear k;go_wp2_with fail;go_ret;exact⟨aA (by rw[HK.out];simp[kindD,K.out] <;> rfl),goutW _⟩
  |expr x lo=>
   obtain⟨rfl,rfl,⟨a,A,c,rfl,hr,_⟩,rfl,hsc⟩:=ht
   have hx:x.f0=2\/x.f0=3:=by
    simp only[jX]at hu
    split at hu
    ·assumption
    ·cases hu
   have q0:gg.W.cell? ⟨a.block,a.off,aj⟩=ae (.int .i64 x.f0):=aM (goutB gg) (by have:=hr 0 _ rfl;rwa [fg]at this);clear hr hsc hR hu hB
   rcases hx with k | k
   ·rw[k]at q0;have K:=J k;clear k;go_wp2_with fail;go_ret;exact⟨aA (by rw[HK.out];simp[kindD,K.out] <;> rfl),goutW _⟩
   ·rw[k]at q0;have K:=J k;clear k
    by_cases h2:(aJ ds (i:Int)).f2=0
    ·have g2:¬(aJ ds (i:Int)).f2 > 0:=by omega
     have H2:=J h2;clear h2;go_wp2_with fail;go_ret;exact⟨aA (by rw[HK.out];simp[kindD,K.out,H2.out]),goutW _⟩
    ·have g2:(aJ ds (i:Int)).f2 > 0:=by have:=D0.out;omega
     have H2:=J h2;clear h2;go_wp2_with fail;go_ret;exact⟨aA (by rw[HK.out];simp[kindD,K.out,H2.out]),goutW _⟩
end
section
attribute [local go_sem] G.cell
def qOf (A3:Option Addr)(ds:List S70)(s:ByteArray):Option Addr:=match dH ds s,A3 with
 |some i,ae ad=>ae (ad.add (i*4))
 |_,_=>aj
theorem find_q (nm:ByteArray)(wd ln:Int)(ds:List S70)(A3:Option Addr)(c3:Nat)(A4:Option Addr)(n4 c4:Nat)(s:ByteArray)(w:World)(hd:k70.C w A3 ds.length ds)(hld:ds.length<=c3):
 Calls au 181 #[.agg #[.string nm,.int .i64 wd,.int .i64 ln,.slice A3 ds.length c3,.slice A4 n4 c4],.string s] w fun e w'=>e=.returned (.pointer (qOf A3 ds s))/\Below w.heap.size w w':=by
 refine(find_calls nm wd ln ds A3 c3 A4 n4 c4 s w hd hld).mono ?_;rintro _ w' ⟨q,rfl,⟨h1,h2⟩,hb⟩;refine⟨?_,hb⟩;unfold qOf
 cases hf:dH ds s with
 |none=>
  rw[hf]at h1
  cases q with
  |none=>rfl
  |some a=>simp at h1
 |some i=>
  obtain⟨ad,rfl,rfl⟩:=h2 i hf;rfl
theorem qOf_none {A3:Option Addr}{ds:List S70}{s:ByteArray}(h:(dH ds s).isNone=ac):qOf A3 ds s=aj:=by
 unfold qOf
 cases hf:dH ds s with
 |none=>rfl
 |some i=>rw[hf]at h;cases h
theorem qOf_some {w:World}{A3:Option Addr}{ds:List S70}{s:ByteArray}(hd:k70.C w A3 ds.length ds)(h:(dH ds s).isNone=O):∃a,qOf A3 ds s=ae a:=by
 unfold qOf
 cases hf:dH ds s with
 |none=>rw[hf]at h;cases h
 |some i=>
  have hlt:=findB_lt hf;obtain⟨ad,_,_,e,_⟩:=d6 hd (0:Int) (Int.le_refl _) (by omega);subst e;exact⟨_,rfl⟩
def RW (t:Th):Prop:=RT t/\match t with
 | .expr e _=>aO e<=8388608
 |_=>True
theorem cl10_calls {Wb:World}(nm:ByteArray)(wd ln:Int)(ds:List S70)(bd:List S119)(A3:Option Addr)(c3:Nat)(A4:Option Addr)(c4:Nat)(W:World)(n:Nat)(dp sp ep:Value)(dI:Int)(lp:Value)(t:Th)(hR:RW t)(hB:Below Wb.heap.size Wb W)(ht:ThP Wb W dp sp ep dI lp t)(b:Bool)(hb:b=bad10 t):
 Calls au 191 #[.agg #[.string nm,.int .i64 wd,.int .i64 ln,.slice A3 ds.length c3,.slice A4 bd.length c4],.agg #[.int .i64 n,dp,sp,ep,.int .i64 dI,lp]] W fun e w'=>e=.returned (.bool b)/\Below W.heap.size W w':=by
 have gout:∀{o o':Obj} (g:G ((W.alloc o).alloc o')),Below W.heap.size W g.W:=fun g=>(((ak _ _).alloc (ai _) _).alloc (by simp) _).trans (g.below.mono (by simp;omega));have HB:=J hB;have HR:=J hb;clear hb hB;go_enter Tryz.func191,Tryz.ntmps191
 go_upto_region 1 with (fail)
 refine aG ?_;intro gg;have goutW:∀(g:G (gw0 gg)),Below W.heap.size W g.W:=fun g=>gout g;have goutB:∀(g:G (gw0 gg)),Below Wb.heap.size Wb g.W:=fun g=>HB.out.trans ((goutW g).mono HB.out.size)
 cases t with
 |decl i=>
  obtain⟨⟨a,rfl⟩,rfl,rfl,rfl,rfl⟩:=ht;clear hR;go_wp2_with fail;go_ret;exact⟨aA (by rw[HR.out];rfl),goutW _⟩
 |stmt s d lo=>
  obtain⟨rfl,⟨a,A5,c5,A9,c9,A12,c12,A13,c13,rfl,hr,_⟩,rfl,rfl,hsc⟩:=ht;clear hr hsc hR
  by_cases h:64<d
  ·have h':(64:Int)<(d:Int):=by omega
   have H:=J h;clear h;go_wp2_with fail;go_ret;exact⟨aA (by rw[HR.out];simp[bad10,H.out]),goutW _⟩
  ·have h':¬(64:Int)<(d:Int):=by omega
   have H:=J h;clear h;go_wp2_with fail;go_ret;exact⟨aA (by rw[HR.out];have:=H.out;simp[bad10];omega),goutW _⟩
 |expr x lo=>
  obtain⟨rfl,rfl,⟨a,A,c,rfl,hr,hl,hC⟩,rfl,hsc⟩:=ht;have HC:=J (aq hl hC);have q0:gg.W.cell? ⟨a.block,a.off,aj⟩=ae (.int .i64 x.f0):=aM (goutB gg) (by have:=hr 0 _ rfl;rwa [fg]at this);have q1:gg.W.cell? ⟨a.block,a.off+1,aj⟩=ae (.int .u64 x.f1):=aM (goutB gg) (hr 1 _ rfl);have q2:gg.W.cell? ⟨a.block,a.off+2,aj⟩=ae (.string x.f2):=aM (goutB gg) (hr 2 _ rfl);have q3:gg.W.cell? ⟨a.block,a.off+3,aj⟩=ae (.slice A x.f3.length c):=aM (goutB gg) (hr 3 _ rfl);have HW:=J (show d5 x<=8388608 from bg (iQ x) hR.2);clear hr hsc hl hC hR;go_wp2_with fail;refine(aC (g:=gg) (depth_calls _ x (ai _) (by have:=HW.out;omega) A c gg.W (Kd.aF HC.out.2 (goutB gg)) HC.out.1)).mono ?_;rintro _ _ ⟨rfl,gg,rfl⟩
  by_cases h:64<d5 x
  ·have h':(64:Int)<(d5 x:Int):=by omega
   have H:=J h;clear h;go_wp2_with fail;go_ret;exact⟨aA (by rw[HR.out];simp[bad10,H.out]),goutW _⟩
  ·have h':¬(64:Int)<(d5 x:Int):=by omega
   have H:=J h;clear h;go_wp2_with fail;go_ret;exact⟨aA (by rw[HR.out];have:=H.out;simp[bad10];omega),goutW _⟩
theorem cl11_calls {Wb:World}(nm:ByteArray)(wd ln:Int)(ds:List S70)(bd:List S119)(A3:Option Addr)(c3:Nat)(A4:Option Addr)(c4:Nat)(hp:ProgAt Wb ds bd A3 c3 A4 c4)(W:World)(n:Nat)(dp sp ep:Value)(dI:Int)(lp:Value)(t:Th)(hR:RT t)(hB:Below Wb.heap.size Wb W)(ht:ThP Wb W dp sp ep dI lp t)(b:Bool)(hb:b=bad11 ds t):
 Calls au 193 #[.agg #[.string nm,.int .i64 wd,.int .i64 ln,.slice A3 ds.length c3,.slice A4 bd.length c4],.agg #[.int .i64 n,dp,sp,ep,.int .i64 dI,lp]] W fun e w'=>e=.returned (.bool b)/\Below W.heap.size W w':=by
 have gout:∀{o o':Obj} (g:G ((W.alloc o).alloc o')),Below W.heap.size W g.W:=fun g=>(((ak _ _).alloc (ai _) _).alloc (by simp) _).trans (g.below.mono (by simp;omega));have HB:=J hB;have HP:=J hp;have HR:=J hb;have HT:=J ht;have HRT:=J hR;clear hb hB hp ht hR;go_enter Tryz.func193,Tryz.ntmps193
 go_upto_region 1 with (fail)
 refine aG ?_;intro gg;have goutW:∀(g:G (gw0 gg)),Below W.heap.size W g.W:=fun g=>gout g;have goutB:∀(g:G (gw0 gg)),Below Wb.heap.size Wb g.W:=fun g=>HB.out.trans ((goutW g).mono HB.out.size);obtain⟨r1,h1⟩:∃r,r=(jX t).getD ⟨#[]⟩:=⟨_,rfl⟩;obtain⟨r2,h2⟩:∃r,r=(jX t).isSome:=⟨_,rfl⟩;have HU:=J (show(r1,r2)=((jX t).getD ⟨#[]⟩,(jX t).isSome) by rw[h1,h2]);have HV:=J (aq h1 h2);clear h1 h2;go_wp2_with fail;refine(aC (g:=gg) (use_calls gg.W n dp sp ep dI lp t HRT.out (goutB gg) (HT.out.below (goutW gg)) r1 r2 HU.out)).mono ?_;rintro _ _ ⟨rfl,gg,rfl⟩
 cases hu:jX t with
 |none=>
  have e2:r2=O:=by rw[HV.out.2,hu];rfl
  have HE:=J (show b=O by rw[HR.out];unfold bad11;rw[hu]);clear hu;subst e2;go_wp2_with fail;go_ret;exact⟨aA HE.out.symm,goutW _⟩
 |some s=>
  have e2:r2=ac:=by rw[HV.out.2,hu];rfl
  have e1:r1=s:=by rw[HV.out.1,hu];rfl
  have HE:=J (show b=(!kM (gT t) s&&(dH ds s).isNone) by rw[HR.out];unfold bad11;rw[hu]);clear hu;subst e2 e1;go_wp2_with fail
  rcases aH (kM (gT t) r1)with hh | hh
  ·refine(aC (g:=gg) (has_v (HT.out.scope.below (goutW gg)) hh)).mono ?_;rintro _ _ ⟨rfl,gg,rfl⟩;have HH:=J hh;clear hh;go_wp2_with fail;go_ret;exact⟨aA (by rw[HE.out,HH.out];rfl),goutW _⟩
  ·refine(aC (g:=gg) (has_v (HT.out.scope.below (goutW gg)) hh)).mono ?_;rintro _ _ ⟨rfl,gg,rfl⟩;have HH:=J hh;clear hh;go_wp2_with fail;refine(aC (g:=gg) (find_q nm wd ln ds A3 c3 A4 bd.length c4 r1 gg.W (Kd.aF HP.out.hd (goutB gg)) HP.out.hld)).mono ?_;rintro _ _ ⟨rfl,gg,rfl⟩
   rcases aH ((dH ds r1).isNone)with hn | hn
   ·rw[qOf_none hn];have HN:=J hn;clear hn;go_wp2_with fail;go_ret;exact⟨aA (by rw[HE.out,HH.out,HN.out];rfl),goutW _⟩
   ·obtain⟨qa,hq⟩:=qOf_some HP.out.hd hn;rw[hq];have HN:=J hn;clear hn hq;go_wp2_with fail;go_ret;exact⟨aA (by rw[HE.out,HH.out,HN.out];rfl),goutW _⟩
end
section
attribute [local go_sem] G.cell
def jU (K:FuncId)(W0:World)(nm:ByteArray)(wd ln:Int)(ds:List S70)(bd:List S119)(A3:Option Addr)(c3:Nat)(A4:Option Addr)(c4:Nat)(R:Th->Prop)(f:Th->Bool):Prop:=
 ∀(Wb W:World) (n:Nat) (dp sp ep:Value) (dI:Int) (lp:Value) (t:Th),R t->Below W0.heap.size W0 Wb->Below Wb.heap.size Wb W->ThP Wb W dp sp ep dI lp t->
 Calls au K #[.agg #[.string nm,.int .i64 wd,.int .i64 ln,.slice A3 ds.length c3,.slice A4 bd.length c4],.agg #[.int .i64 n,dp,sp,ep,.int .i64 dI,lp]] W fun e w'=>e=.returned (.bool (f t))/\Below W.heap.size W w'
theorem wrong61_ok {W0:World}{b1 b2:Nat}{nm:ByteArray}{wd ln:Int}{ds:List S70}{bd:List S119}{A3:Option Addr}{c3:Nat}{A4:Option Addr}{c4:Nat}{R:Th->Prop}{f:Th->Bool}(hc:jU 191 W0 nm wd ln ds bd A3 c3 A4 c4 R f)
 (h1:W0.heap[b1]? =ae (.cells #[.func (.func 191) #[] #[]] 240 (0,0))) (h2:W0.heap[b2]? =ae (.cells #[.string nm,.int .i64 wd,.int .i64 ln,.slice A3 ds.length c3,.slice A4 bd.length c4] 25 (0,0))):fX W0 (.pointer (ae ⟨b1,0,aj⟩)) (.pointer (ae ⟨b2,0,aj⟩)) R f:=by
 intro Wb W n dp sp ep dI lp t hR h0 hB ht;have gout:=@gA W;have hBW:=h0.trans (hB.mono h0.size);have k1:=(hBW.block b1 (aR h1)).trans h1;have k2:=(hBW.block b2 (aR h2)).trans h2;have l1:=aR k1;have l2:=aR k2;have y0:W.cell? ⟨b1,0,aj⟩=ae (.func (.func 191) #[] #[]):=(aB k1 0).trans rfl;have z0:W.cell? ⟨b2,0,aj⟩=ae (.string nm):=(aB k2 0).trans rfl;have z1:W.cell? ⟨b2,1,aj⟩=ae (.int .i64 wd):=(aB k2 1).trans rfl;have z2:W.cell? ⟨b2,2,aj⟩=ae (.int .i64 ln):=(aB k2 2).trans rfl;have z3:W.cell? ⟨b2,3,aj⟩=ae (.slice A3 ds.length c3):=(aB k2 3).trans rfl;have z4:W.cell? ⟨b2,4,aj⟩=ae (.slice A4 bd.length c4):=(aB k2 4).trans rfl;have HX:=J (aq hR (aq h0 (aq hB ht)));have HC:=J hc;clear hR h0 hB ht hc k1 k2 h1 h2 hBW;go_enter Tryz.func251,Tryz.ntmps251
 go_upto_region 1 with (fail)
 refine aG ?_;intro gg;go_wp2_with fail;refine(aC (g:=gg) (HC.out Wb gg.W n dp sp ep dI lp t HX.out.1 HX.out.2.1 (HX.out.2.2.1.trans ((gout gg).mono HX.out.2.2.1.size)) (HX.out.2.2.2.below (gout gg)))).mono ?_;rintro _ _ ⟨rfl,gg,rfl⟩;go_wp2_with fail;go_ret;exact⟨rfl,gout _⟩
theorem wrong63_ok {W0:World}{b1 b2:Nat}{nm:ByteArray}{wd ln:Int}{ds:List S70}{bd:List S119}{A3:Option Addr}{c3:Nat}{A4:Option Addr}{c4:Nat}{R:Th->Prop}{f:Th->Bool}(hc:jU 193 W0 nm wd ln ds bd A3 c3 A4 c4 R f)
 (h1:W0.heap[b1]? =ae (.cells #[.func (.func 193) #[] #[]] 240 (0,0))) (h2:W0.heap[b2]? =ae (.cells #[.string nm,.int .i64 wd,.int .i64 ln,.slice A3 ds.length c3,.slice A4 bd.length c4] 25 (0,0))):fX W0 (.pointer (ae ⟨b1,0,aj⟩)) (.pointer (ae ⟨b2,0,aj⟩)) R f:=by
 intro Wb W n dp sp ep dI lp t hR h0 hB ht;have gout:=@gA W;have hBW:=h0.trans (hB.mono h0.size);have k1:=(hBW.block b1 (aR h1)).trans h1;have k2:=(hBW.block b2 (aR h2)).trans h2;have l1:=aR k1;have l2:=aR k2;have y0:W.cell? ⟨b1,0,aj⟩=ae (.func (.func 193) #[] #[]):=(aB k1 0).trans rfl;have z0:W.cell? ⟨b2,0,aj⟩=ae (.string nm):=(aB k2 0).trans rfl;have z1:W.cell? ⟨b2,1,aj⟩=ae (.int .i64 wd):=(aB k2 1).trans rfl;have z2:W.cell? ⟨b2,2,aj⟩=ae (.int .i64 ln):=(aB k2 2).trans rfl;have z3:W.cell? ⟨b2,3,aj⟩=ae (.slice A3 ds.length c3):=(aB k2 3).trans rfl;have z4:W.cell? ⟨b2,4,aj⟩=ae (.slice A4 bd.length c4):=(aB k2 4).trans rfl;have HX:=J (aq hR (aq h0 (aq hB ht)));have HC:=J hc;clear hR h0 hB ht hc k1 k2 h1 h2 hBW;go_enter Tryz.func251,Tryz.ntmps251
 go_upto_region 1 with (fail)
 refine aG ?_;intro gg;go_wp2_with fail;refine(aC (g:=gg) (HC.out Wb gg.W n dp sp ep dI lp t HX.out.1 HX.out.2.1 (HX.out.2.2.1.trans ((gout gg).mono HX.out.2.2.1.size)) (HX.out.2.2.2.below (gout gg)))).mono ?_;rintro _ _ ⟨rfl,gg,rfl⟩;go_wp2_with fail;go_ret;exact⟨rfl,gout _⟩
theorem wrong66_ok {W0:World}{b1 b2:Nat}{nm:ByteArray}{wd ln:Int}{ds:List S70}{bd:List S119}{A3:Option Addr}{c3:Nat}{A4:Option Addr}{c4:Nat}{R:Th->Prop}{f:Th->Bool}(hc:jU 196 W0 nm wd ln ds bd A3 c3 A4 c4 R f)
 (h1:W0.heap[b1]? =ae (.cells #[.func (.func 196) #[] #[]] 240 (0,0))) (h2:W0.heap[b2]? =ae (.cells #[.string nm,.int .i64 wd,.int .i64 ln,.slice A3 ds.length c3,.slice A4 bd.length c4] 25 (0,0))):fX W0 (.pointer (ae ⟨b1,0,aj⟩)) (.pointer (ae ⟨b2,0,aj⟩)) R f:=by
 intro Wb W n dp sp ep dI lp t hR h0 hB ht;have gout:=@gA W;have hBW:=h0.trans (hB.mono h0.size);have k1:=(hBW.block b1 (aR h1)).trans h1;have k2:=(hBW.block b2 (aR h2)).trans h2;have l1:=aR k1;have l2:=aR k2;have y0:W.cell? ⟨b1,0,aj⟩=ae (.func (.func 196) #[] #[]):=(aB k1 0).trans rfl;have z0:W.cell? ⟨b2,0,aj⟩=ae (.string nm):=(aB k2 0).trans rfl;have z1:W.cell? ⟨b2,1,aj⟩=ae (.int .i64 wd):=(aB k2 1).trans rfl;have z2:W.cell? ⟨b2,2,aj⟩=ae (.int .i64 ln):=(aB k2 2).trans rfl;have z3:W.cell? ⟨b2,3,aj⟩=ae (.slice A3 ds.length c3):=(aB k2 3).trans rfl;have z4:W.cell? ⟨b2,4,aj⟩=ae (.slice A4 bd.length c4):=(aB k2 4).trans rfl;have HX:=J (aq hR (aq h0 (aq hB ht)));have HC:=J hc;clear hR h0 hB ht hc k1 k2 h1 h2 hBW;go_enter Tryz.func251,Tryz.ntmps251
 go_upto_region 1 with (fail)
 refine aG ?_;intro gg;go_wp2_with fail;refine(aC (g:=gg) (HC.out Wb gg.W n dp sp ep dI lp t HX.out.1 HX.out.2.1 (HX.out.2.2.1.trans ((gout gg).mono HX.out.2.2.1.size)) (HX.out.2.2.2.below (gout gg)))).mono ?_;rintro _ _ ⟨rfl,gg,rfl⟩;go_wp2_with fail;go_ret;exact⟨rfl,gout _⟩
theorem wrong68_ok {W0:World}{b1 b2:Nat}{nm:ByteArray}{wd ln:Int}{ds:List S70}{bd:List S119}{A3:Option Addr}{c3:Nat}{A4:Option Addr}{c4:Nat}{R:Th->Prop}{f:Th->Bool}(hc:jU 198 W0 nm wd ln ds bd A3 c3 A4 c4 R f)
 (h1:W0.heap[b1]? =ae (.cells #[.func (.func 198) #[] #[]] 240 (0,0))) (h2:W0.heap[b2]? =ae (.cells #[.string nm,.int .i64 wd,.int .i64 ln,.slice A3 ds.length c3,.slice A4 bd.length c4] 25 (0,0))):fX W0 (.pointer (ae ⟨b1,0,aj⟩)) (.pointer (ae ⟨b2,0,aj⟩)) R f:=by
 intro Wb W n dp sp ep dI lp t hR h0 hB ht;have gout:=@gA W;have hBW:=h0.trans (hB.mono h0.size);have k1:=(hBW.block b1 (aR h1)).trans h1;have k2:=(hBW.block b2 (aR h2)).trans h2;have l1:=aR k1;have l2:=aR k2;have y0:W.cell? ⟨b1,0,aj⟩=ae (.func (.func 198) #[] #[]):=(aB k1 0).trans rfl;have z0:W.cell? ⟨b2,0,aj⟩=ae (.string nm):=(aB k2 0).trans rfl;have z1:W.cell? ⟨b2,1,aj⟩=ae (.int .i64 wd):=(aB k2 1).trans rfl;have z2:W.cell? ⟨b2,2,aj⟩=ae (.int .i64 ln):=(aB k2 2).trans rfl;have z3:W.cell? ⟨b2,3,aj⟩=ae (.slice A3 ds.length c3):=(aB k2 3).trans rfl;have z4:W.cell? ⟨b2,4,aj⟩=ae (.slice A4 bd.length c4):=(aB k2 4).trans rfl;have HX:=J (aq hR (aq h0 (aq hB ht)));have HC:=J hc;clear hR h0 hB ht hc k1 k2 h1 h2 hBW;go_enter Tryz.func251,Tryz.ntmps251
 go_upto_region 1 with (fail)
 refine aG ?_;intro gg;go_wp2_with fail;refine(aC (g:=gg) (HC.out Wb gg.W n dp sp ep dI lp t HX.out.1 HX.out.2.1 (HX.out.2.2.1.trans ((gout gg).mono HX.out.2.2.1.size)) (HX.out.2.2.2.below (gout gg)))).mono ?_;rintro _ _ ⟨rfl,gg,rfl⟩;go_wp2_with fail;go_ret;exact⟨rfl,gout _⟩
theorem wrong69_ok {W0:World}{b1 b2:Nat}{nm:ByteArray}{wd ln:Int}{ds:List S70}{bd:List S119}{A3:Option Addr}{c3:Nat}{A4:Option Addr}{c4:Nat}{R:Th->Prop}{f:Th->Bool}(hc:jU 199 W0 nm wd ln ds bd A3 c3 A4 c4 R f)
 (h1:W0.heap[b1]? =ae (.cells #[.func (.func 199) #[] #[]] 240 (0,0))) (h2:W0.heap[b2]? =ae (.cells #[.string nm,.int .i64 wd,.int .i64 ln,.slice A3 ds.length c3,.slice A4 bd.length c4] 25 (0,0))):fX W0 (.pointer (ae ⟨b1,0,aj⟩)) (.pointer (ae ⟨b2,0,aj⟩)) R f:=by
 intro Wb W n dp sp ep dI lp t hR h0 hB ht;have gout:=@gA W;have hBW:=h0.trans (hB.mono h0.size);have k1:=(hBW.block b1 (aR h1)).trans h1;have k2:=(hBW.block b2 (aR h2)).trans h2;have l1:=aR k1;have l2:=aR k2;have y0:W.cell? ⟨b1,0,aj⟩=ae (.func (.func 199) #[] #[]):=(aB k1 0).trans rfl;have z0:W.cell? ⟨b2,0,aj⟩=ae (.string nm):=(aB k2 0).trans rfl;have z1:W.cell? ⟨b2,1,aj⟩=ae (.int .i64 wd):=(aB k2 1).trans rfl;have z2:W.cell? ⟨b2,2,aj⟩=ae (.int .i64 ln):=(aB k2 2).trans rfl;have z3:W.cell? ⟨b2,3,aj⟩=ae (.slice A3 ds.length c3):=(aB k2 3).trans rfl;have z4:W.cell? ⟨b2,4,aj⟩=ae (.slice A4 bd.length c4):=(aB k2 4).trans rfl;have HX:=J (aq hR (aq h0 (aq hB ht)));have HC:=J hc;clear hR h0 hB ht hc k1 k2 h1 h2 hBW;go_enter Tryz.func251,Tryz.ntmps251
 go_upto_region 1 with (fail)
 refine aG ?_;intro gg;go_wp2_with fail;refine(aC (g:=gg) (HC.out Wb gg.W n dp sp ep dI lp t HX.out.1 HX.out.2.1 (HX.out.2.2.1.trans ((gout gg).mono HX.out.2.2.1.size)) (HX.out.2.2.2.below (gout gg)))).mono ?_;rintro _ _ ⟨rfl,gg,rfl⟩;go_wp2_with fail;go_ret;exact⟨rfl,gout _⟩
theorem wrong70_ok {W0:World}{b1 b2:Nat}{nm:ByteArray}{wd ln:Int}{ds:List S70}{bd:List S119}{A3:Option Addr}{c3:Nat}{A4:Option Addr}{c4:Nat}{R:Th->Prop}{f:Th->Bool}(hc:jU 200 W0 nm wd ln ds bd A3 c3 A4 c4 R f)
 (h1:W0.heap[b1]? =ae (.cells #[.func (.func 200) #[] #[]] 240 (0,0))) (h2:W0.heap[b2]? =ae (.cells #[.string nm,.int .i64 wd,.int .i64 ln,.slice A3 ds.length c3,.slice A4 bd.length c4] 25 (0,0))):fX W0 (.pointer (ae ⟨b1,0,aj⟩)) (.pointer (ae ⟨b2,0,aj⟩)) R f:=by
 intro Wb W n dp sp ep dI lp t hR h0 hB ht;have gout:=@gA W;have hBW:=h0.trans (hB.mono h0.size);have k1:=(hBW.block b1 (aR h1)).trans h1;have k2:=(hBW.block b2 (aR h2)).trans h2;have l1:=aR k1;have l2:=aR k2;have y0:W.cell? ⟨b1,0,aj⟩=ae (.func (.func 200) #[] #[]):=(aB k1 0).trans rfl;have z0:W.cell? ⟨b2,0,aj⟩=ae (.string nm):=(aB k2 0).trans rfl;have z1:W.cell? ⟨b2,1,aj⟩=ae (.int .i64 wd):=(aB k2 1).trans rfl;have z2:W.cell? ⟨b2,2,aj⟩=ae (.int .i64 ln):=(aB k2 2).trans rfl;have z3:W.cell? ⟨b2,3,aj⟩=ae (.slice A3 ds.length c3):=(aB k2 3).trans rfl;have z4:W.cell? ⟨b2,4,aj⟩=ae (.slice A4 bd.length c4):=(aB k2 4).trans rfl;have HX:=J (aq hR (aq h0 (aq hB ht)));have HC:=J hc;clear hR h0 hB ht hc k1 k2 h1 h2 hBW;go_enter Tryz.func251,Tryz.ntmps251
 go_upto_region 1 with (fail)
 refine aG ?_;intro gg;go_wp2_with fail;refine(aC (g:=gg) (HC.out Wb gg.W n dp sp ep dI lp t HX.out.1 HX.out.2.1 (HX.out.2.2.1.trans ((gout gg).mono HX.out.2.2.1.size)) (HX.out.2.2.2.below (gout gg)))).mono ?_;rintro _ _ ⟨rfl,gg,rfl⟩;go_wp2_with fail;go_ret;exact⟨rfl,gout _⟩
end
section
attribute [local go_sem] G.cell
theorem kA {a c:Int}{b d:Bool}(h1:a=c)(h2:b=d):Ending.returned (.tuple #[.int .i64 a,.bool b])=.returned (.tuple #[.int .i64 c,.bool d]):=by rw[h1,h2]
theorem dE {R:Th->Prop}{f:Th->Bool}(nm:ByteArray)(wd ln:Int)(ds:List S70)(bd:List S119)(A3:Option Addr)(c3:Nat)(A4:Option Addr)(c4:Nat)(b1:Nat)(W:World)(hp:ProgAt W ds bd A3 c3 A4 c4)(hform:bdB bd=ac)(hdl:ds.length<=1048576)(hbb:Ot.bH bd<=1048576)(hR:∀t∈things ds bd,R t)
 (hW:∀X b2,Below W.heap.size W X->X.heap[b2]? =ae (.cells #[.string nm,.int .i64 wd,.int .i64 ln,.slice A3 ds.length c3,.slice A4 bd.length c4] 25 (0,0))->fX X (.pointer (ae ⟨b1,0,aj⟩)) (.pointer (ae ⟨b2,0,aj⟩)) R f) (r:Int × Bool) (hr:r=dW f (things ds bd)):
 Calls au 249 #[.agg #[.string nm,.int .i64 wd,.int .i64 ln,.slice A3 ds.length c3,.slice A4 bd.length c4],.pointer (ae ⟨b1,0,aj⟩)] W fun e w'=>e=.returned (.tuple #[.int .i64 r.1,.bool r.2])/\Below W.heap.size W w':=by
 have hmf:∀(fn:Fn) (first cap:Array Value) (w:World),(Instr.makeFunc fn first cap).run au w=.ok (.func fn first cap) w:=fun _ _ _ _=>rfl;have gout:=@gA W;have HP:=J hp;have HR:=J hr;have HZ:=J (aq hform (aq hdl (aq hbb hR)));have HW:=J hW;clear hp hr hform hdl hbb hR hW;go_enter Tryz.func249,Tryz.ntmps249
 go_upto_region 1 with (fail)
 refine aG ?_;intro gg;have HBX:=J (show gg.W.heap[W.heap.size]? =ae (.cells #[.string nm,.int .i64 wd,.int .i64 ln,.slice A3 ds.length c3,.slice A4 bd.length c4] 25 (0,0)) from aE (bR _ _) gg.below);go_wp2_with fail
 have F:=first_calls (HW.out gg.W W.heap.size (gout gg) HBX.out) nm wd ln ds bd A3 c3 A4 c4 gg.W (HP.out.below (gout gg)) HZ.out.1 HZ.out.2.1 HZ.out.2.2.1 HZ.out.2.2.2 (ak _ _)
 rw[←HR.out]at F;refine(aC (g:=gg) F).mono ?_;clear F;rintro _ _ ⟨rfl,gg,rfl⟩;go_wp2_with fail;go_ret2;exact⟨rfl,gout _⟩
theorem whole44_calls (nm:ByteArray)(wd ln:Int)(ds:List S70)(bd:List S119)(A3:Option Addr)(c3:Nat)(A4:Option Addr)(c4:Nat)(b1:Nat)(W:World)(hb1:W.heap[b1]? =ae (.cells #[.func (.func 75) #[] #[]] 33 (0,0)))(b:Bool)
 (hc:∀X,Below W.heap.size W X->Calls au 75 #[.agg #[.string nm,.int .i64 wd,.int .i64 ln,.slice A3 ds.length c3,.slice A4 bd.length c4]] X fun e w'=>e=.returned (.bool b)/\Below X.heap.size X w'):
 Calls au 246 #[.agg #[.string nm,.int .i64 wd,.int .i64 ln,.slice A3 ds.length c3,.slice A4 bd.length c4],.pointer (ae ⟨b1,0,aj⟩)] W fun e w'=>e=.returned (.tuple #[.int .i64 (-1),.bool (!b)])/\Below W.heap.size W w':=by
 have gout:=@gA W;have HC:=J hc;have l1:=aR hb1;have y0:W.cell? ⟨b1,0,aj⟩=ae (.func (.func 75) #[] #[]):=(aB hb1 0).trans rfl;clear hc hb1;go_enter Tryz.func246,Tryz.ntmps246
 go_upto_region 1 with (fail)
 refine aG ?_;intro gg;go_wp2_with fail;refine(aC (g:=gg) (HC.out gg.W (gout gg))).mono ?_;rintro _ _ ⟨rfl,gg,rfl⟩;go_wp2_with fail;go_ret2;exact⟨rfl,gout _⟩
theorem whole45_calls (nm:ByteArray)(wd ln:Int)(ds:List S70)(bd:List S119)(A3:Option Addr)(c3:Nat)(A4:Option Addr)(c4:Nat)(b1:Nat)(W:World)(hb1:W.heap[b1]? =ae (.cells #[.func (.func 175) #[] #[]] 33 (0,0)))(b:Bool)
 (hc:∀X,Below W.heap.size W X->Calls au 175 #[.agg #[.string nm,.int .i64 wd,.int .i64 ln,.slice A3 ds.length c3,.slice A4 bd.length c4]] X fun e w'=>e=.returned (.bool b)/\Below X.heap.size X w'):
 Calls au 246 #[.agg #[.string nm,.int .i64 wd,.int .i64 ln,.slice A3 ds.length c3,.slice A4 bd.length c4],.pointer (ae ⟨b1,0,aj⟩)] W fun e w'=>e=.returned (.tuple #[.int .i64 (-1),.bool (!b)])/\Below W.heap.size W w':=by
 have gout:=@gA W;have HC:=J hc;have l1:=aR hb1;have y0:W.cell? ⟨b1,0,aj⟩=ae (.func (.func 175) #[] #[]):=(aB hb1 0).trans rfl;clear hc hb1;go_enter Tryz.func246,Tryz.ntmps246
 go_upto_region 1 with (fail)
 refine aG ?_;intro gg;go_wp2_with fail;refine(aC (g:=gg) (HC.out gg.W (gout gg))).mono ?_;rintro _ _ ⟨rfl,gg,rfl⟩;go_wp2_with fail;go_ret2;exact⟨rfl,gout _⟩
theorem whole47_calls (nm:ByteArray)(wd ln:Int)(ds:List S70)(bd:List S119)(A3:Option Addr)(c3:Nat)(A4:Option Addr)(c4:Nat)(b1:Nat)(W:World)(hb1:W.heap[b1]? =ae (.cells #[.func (.func 177) #[] #[]] 33 (0,0)))(b:Bool)
 (hc:∀X,Below W.heap.size W X->Calls au 177 #[.agg #[.string nm,.int .i64 wd,.int .i64 ln,.slice A3 ds.length c3,.slice A4 bd.length c4]] X fun e w'=>e=.returned (.bool b)/\Below X.heap.size X w'):
 Calls au 246 #[.agg #[.string nm,.int .i64 wd,.int .i64 ln,.slice A3 ds.length c3,.slice A4 bd.length c4],.pointer (ae ⟨b1,0,aj⟩)] W fun e w'=>e=.returned (.tuple #[.int .i64 (-1),.bool (!b)])/\Below W.heap.size W w':=by
 have gout:=@gA W;have HC:=J hc;have l1:=aR hb1;have y0:W.cell? ⟨b1,0,aj⟩=ae (.func (.func 177) #[] #[]):=(aB hb1 0).trans rfl;clear hc hb1;go_enter Tryz.func246,Tryz.ntmps246
 go_upto_region 1 with (fail)
 refine aG ?_;intro gg;go_wp2_with fail;refine(aC (g:=gg) (HC.out gg.W (gout gg))).mono ?_;rintro _ _ ⟨rfl,gg,rfl⟩;go_wp2_with fail;go_ret2;exact⟨rfl,gout _⟩
theorem whole48_calls (nm:ByteArray)(wd ln:Int)(ds:List S70)(bd:List S119)(A3:Option Addr)(c3:Nat)(A4:Option Addr)(c4:Nat)(b1:Nat)(W:World)(hb1:W.heap[b1]? =ae (.cells #[.func (.func 178) #[] #[]] 33 (0,0)))(b:Bool)
 (hc:∀X,Below W.heap.size W X->Calls au 178 #[.agg #[.string nm,.int .i64 wd,.int .i64 ln,.slice A3 ds.length c3,.slice A4 bd.length c4]] X fun e w'=>e=.returned (.bool b)/\Below X.heap.size X w'):
 Calls au 246 #[.agg #[.string nm,.int .i64 wd,.int .i64 ln,.slice A3 ds.length c3,.slice A4 bd.length c4],.pointer (ae ⟨b1,0,aj⟩)] W fun e w'=>e=.returned (.tuple #[.int .i64 (-1),.bool (!b)])/\Below W.heap.size W w':=by
 have gout:=@gA W;have HC:=J hc;have l1:=aR hb1;have y0:W.cell? ⟨b1,0,aj⟩=ae (.func (.func 178) #[] #[]):=(aB hb1 0).trans rfl;clear hc hb1;go_enter Tryz.func246,Tryz.ntmps246
 go_upto_region 1 with (fail)
 refine aG ?_;intro gg;go_wp2_with fail;refine(aC (g:=gg) (HC.out gg.W (gout gg))).mono ?_;rintro _ _ ⟨rfl,gg,rfl⟩;go_wp2_with fail;go_ret2;exact⟨rfl,gout _⟩
theorem whole58_calls (nm:ByteArray)(wd ln:Int)(ds:List S70)(bd:List S119)(A3:Option Addr)(c3:Nat)(A4:Option Addr)(c4:Nat)(b1:Nat)(W:World)(hb1:W.heap[b1]? =ae (.cells #[.func (.func 188) #[] #[]] 33 (0,0)))(b:Bool)
 (hc:∀X,Below W.heap.size W X->Calls au 188 #[.agg #[.string nm,.int .i64 wd,.int .i64 ln,.slice A3 ds.length c3,.slice A4 bd.length c4]] X fun e w'=>e=.returned (.bool b)/\Below X.heap.size X w'):
 Calls au 246 #[.agg #[.string nm,.int .i64 wd,.int .i64 ln,.slice A3 ds.length c3,.slice A4 bd.length c4],.pointer (ae ⟨b1,0,aj⟩)] W fun e w'=>e=.returned (.tuple #[.int .i64 (-1),.bool (!b)])/\Below W.heap.size W w':=by
 have gout:=@gA W;have HC:=J hc;have l1:=aR hb1;have y0:W.cell? ⟨b1,0,aj⟩=ae (.func (.func 188) #[] #[]):=(aB hb1 0).trans rfl;clear hc hb1;go_enter Tryz.func246,Tryz.ntmps246
 go_upto_region 1 with (fail)
 refine aG ?_;intro gg;go_wp2_with fail;refine(aC (g:=gg) (HC.out gg.W (gout gg))).mono ?_;rintro _ _ ⟨rfl,gg,rfl⟩;go_wp2_with fail;go_ret2;exact⟨rfl,gout _⟩
theorem whole71_calls (nm:ByteArray)(wd ln:Int)(ds:List S70)(bd:List S119)(A3:Option Addr)(c3:Nat)(A4:Option Addr)(c4:Nat)(b1:Nat)(W:World)(hb1:W.heap[b1]? =ae (.cells #[.func (.func 201) #[] #[]] 33 (0,0)))(b:Bool)
 (hc:∀X,Below W.heap.size W X->Calls au 201 #[.agg #[.string nm,.int .i64 wd,.int .i64 ln,.slice A3 ds.length c3,.slice A4 bd.length c4]] X fun e w'=>e=.returned (.bool b)/\Below X.heap.size X w'):
 Calls au 246 #[.agg #[.string nm,.int .i64 wd,.int .i64 ln,.slice A3 ds.length c3,.slice A4 bd.length c4],.pointer (ae ⟨b1,0,aj⟩)] W fun e w'=>e=.returned (.tuple #[.int .i64 (-1),.bool (!b)])/\Below W.heap.size W w':=by
 have gout:=@gA W;have HC:=J hc;have l1:=aR hb1;have y0:W.cell? ⟨b1,0,aj⟩=ae (.func (.func 201) #[] #[]):=(aB hb1 0).trans rfl;clear hc hb1;go_enter Tryz.func246,Tryz.ntmps246
 go_upto_region 1 with (fail)
 refine aG ?_;intro gg;go_wp2_with fail;refine(aC (g:=gg) (HC.out gg.W (gout gg))).mono ?_;rintro _ _ ⟨rfl,gg,rfl⟩;go_wp2_with fail;go_ret2;exact⟨rfl,gout _⟩
end
section
attribute [local go_sem] G.cell
def dN (f:Nat->Bool)(n:Nat):Int × Bool:=match aU n f with
 |some i=>((i:Int),ac)
 |none=>(0,O)
theorem decls50_calls (nm:ByteArray)(wd ln:Int)(ds:List S70)(bd:List S119)(A3:Option Addr)(c3:Nat)(A4:Option Addr)(c4:Nat)(b1:Nat)(W:World)(hlm:ds.length<=1048576)(hb1:W.heap[b1]? =ae (.cells #[.func (.func 180) #[] #[]] 55 (0,0)))(f:Nat->Bool)
 (hc:∀X i,Below W.heap.size W X->i<ds.length->Calls au 180 #[.agg #[.string nm,.int .i64 wd,.int .i64 ln,.slice A3 ds.length c3,.slice A4 bd.length c4],.int .i64 (i:Int)] X fun e w'=>e=.returned (.bool (f i))/\Below X.heap.size X w') (r:Int × Bool) (hr:r=dN f ds.length):
 Calls au 247 #[.agg #[.string nm,.int .i64 wd,.int .i64 ln,.slice A3 ds.length c3,.slice A4 bd.length c4],.pointer (ae ⟨b1,0,aj⟩)] W fun e w'=>e=.returned (.tuple #[.int .i64 r.1,.bool r.2])/\Below W.heap.size W w':=by
 have gout:=@gA W;have HC:=J hc;have HR:=J hr;have l1:=aR hb1;have y0:W.cell? ⟨b1,0,aj⟩=ae (.func (.func 180) #[] #[]):=(aB hb1 0).trans rfl;clear hc hb1 hr;go_enter Tryz.func247,Tryz.ntmps247
 go_upto_region 1 with (fail)
 refine aG ?_;intro gg;have goutW:∀(g:G (gw0 gg)),Below W.heap.size W g.W:=fun g=>gout g;go_wp2_with fail
 go_loopw [9] (fun i X=>∃(k:Nat) (g:G (gw0 gg)),i=.int .i64 k/\X=g.W/\k<=ds.length/\Aside0 (∀j,j<k->f j=O)) (fun i _=>ds.length - (intOf i).toNat)
 case atStart=>exact⟨0,gg,rfl,rfl,br _,⟨fun j hj=>absurd hj (dn _)⟩⟩
 case round=>
  obtain⟨k,gx,rfl,rfl,hk,HK⟩:=hrel
  by_cases hlt:k<ds.length
  ·have hk1:(k:Int)<(ds.length:Int):=by omega
   go_wp2_with fail;refine(aC (g:=gx) (HC.out gx.W k (goutW gx) hlt)).mono ?_;rintro _ _ ⟨rfl,g2,rfl⟩
   cases hf:f k
   ·have HF:=J hf;clear hf;go_wp2_with fail;exact⟨⟨k+1,g2,by go_num,rfl,by omega,⟨fun j hj=>(Decidable.em (j=k)).elim (fun h=>h ▸ HF.out) (fun h=>HK.out j (by omega))⟩⟩,by simp[intOf];omega⟩
   ·have HF:=J hf;clear hf;go_wp2_with fail;go_ret2
    have e:r=((k:Int),ac):=by rw[HR.out];unfold dN;rw[cZ hlt HF.out HK.out]
    exact⟨kA (by rw[e]) (by rw[e]),goutW _⟩
  ·have hk1:¬(k:Int)<(ds.length:Int):=by omega
   go_wp2_with fail;go_ret2
   have e:r=(0,O):=by rw[HR.out];unfold dN;rw[cW fun j hj=>HK.out j (by omega)]
   exact⟨kA (by rw[e]) (by rw[e]),goutW _⟩
theorem decls52_calls (nm:ByteArray)(wd ln:Int)(ds:List S70)(bd:List S119)(A3:Option Addr)(c3:Nat)(A4:Option Addr)(c4:Nat)(b1:Nat)(W:World)(hlm:ds.length<=1048576)(hb1:W.heap[b1]? =ae (.cells #[.func (.func 182) #[] #[]] 55 (0,0)))(f:Nat->Bool)
 (hc:∀X i,Below W.heap.size W X->i<ds.length->Calls au 182 #[.agg #[.string nm,.int .i64 wd,.int .i64 ln,.slice A3 ds.length c3,.slice A4 bd.length c4],.int .i64 (i:Int)] X fun e w'=>e=.returned (.bool (f i))/\Below X.heap.size X w') (r:Int × Bool) (hr:r=dN f ds.length):
 Calls au 247 #[.agg #[.string nm,.int .i64 wd,.int .i64 ln,.slice A3 ds.length c3,.slice A4 bd.length c4],.pointer (ae ⟨b1,0,aj⟩)] W fun e w'=>e=.returned (.tuple #[.int .i64 r.1,.bool r.2])/\Below W.heap.size W w':=by
 have gout:=@gA W;have HC:=J hc;have HR:=J hr;have l1:=aR hb1;have y0:W.cell? ⟨b1,0,aj⟩=ae (.func (.func 182) #[] #[]):=(aB hb1 0).trans rfl;clear hc hb1 hr;go_enter Tryz.func247,Tryz.ntmps247
 go_upto_region 1 with (fail)
 refine aG ?_;intro gg;have goutW:∀(g:G (gw0 gg)),Below W.heap.size W g.W:=fun g=>gout g;go_wp2_with fail
 go_loopw [9] (fun i X=>∃(k:Nat) (g:G (gw0 gg)),i=.int .i64 k/\X=g.W/\k<=ds.length/\Aside0 (∀j,j<k->f j=O)) (fun i _=>ds.length - (intOf i).toNat)
 case atStart=>exact⟨0,gg,rfl,rfl,br _,⟨fun j hj=>absurd hj (dn _)⟩⟩
 case round=>
  obtain⟨k,gx,rfl,rfl,hk,HK⟩:=hrel
  by_cases hlt:k<ds.length
  ·have hk1:(k:Int)<(ds.length:Int):=by omega
   go_wp2_with fail;refine(aC (g:=gx) (HC.out gx.W k (goutW gx) hlt)).mono ?_;rintro _ _ ⟨rfl,g2,rfl⟩
   cases hf:f k
   ·have HF:=J hf;clear hf;go_wp2_with fail;exact⟨⟨k+1,g2,by go_num,rfl,by omega,⟨fun j hj=>(Decidable.em (j=k)).elim (fun h=>h ▸ HF.out) (fun h=>HK.out j (by omega))⟩⟩,by simp[intOf];omega⟩
   ·have HF:=J hf;clear hf;go_wp2_with fail;go_ret2
    have e:r=((k:Int),ac):=by rw[HR.out];unfold dN;rw[cZ hlt HF.out HK.out]
    exact⟨kA (by rw[e]) (by rw[e]),goutW _⟩
  ·have hk1:¬(k:Int)<(ds.length:Int):=by omega
   go_wp2_with fail;go_ret2
   have e:r=(0,O):=by rw[HR.out];unfold dN;rw[cW fun j hj=>HK.out j (by omega)]
   exact⟨kA (by rw[e]) (by rw[e]),goutW _⟩
theorem decls53_calls (nm:ByteArray)(wd ln:Int)(ds:List S70)(bd:List S119)(A3:Option Addr)(c3:Nat)(A4:Option Addr)(c4:Nat)(b1:Nat)(W:World)(hlm:ds.length<=1048576)(hb1:W.heap[b1]? =ae (.cells #[.func (.func 183) #[] #[]] 55 (0,0)))(f:Nat->Bool)
 (hc:∀X i,Below W.heap.size W X->i<ds.length->Calls au 183 #[.agg #[.string nm,.int .i64 wd,.int .i64 ln,.slice A3 ds.length c3,.slice A4 bd.length c4],.int .i64 (i:Int)] X fun e w'=>e=.returned (.bool (f i))/\Below X.heap.size X w') (r:Int × Bool) (hr:r=dN f ds.length):
 Calls au 247 #[.agg #[.string nm,.int .i64 wd,.int .i64 ln,.slice A3 ds.length c3,.slice A4 bd.length c4],.pointer (ae ⟨b1,0,aj⟩)] W fun e w'=>e=.returned (.tuple #[.int .i64 r.1,.bool r.2])/\Below W.heap.size W w':=by
 have gout:=@gA W;have HC:=J hc;have HR:=J hr;have l1:=aR hb1;have y0:W.cell? ⟨b1,0,aj⟩=ae (.func (.func 183) #[] #[]):=(aB hb1 0).trans rfl;clear hc hb1 hr;go_enter Tryz.func247,Tryz.ntmps247
 go_upto_region 1 with (fail)
 refine aG ?_;intro gg;have goutW:∀(g:G (gw0 gg)),Below W.heap.size W g.W:=fun g=>gout g;go_wp2_with fail
 go_loopw [9] (fun i X=>∃(k:Nat) (g:G (gw0 gg)),i=.int .i64 k/\X=g.W/\k<=ds.length/\Aside0 (∀j,j<k->f j=O)) (fun i _=>ds.length - (intOf i).toNat)
 case atStart=>exact⟨0,gg,rfl,rfl,br _,⟨fun j hj=>absurd hj (dn _)⟩⟩
 case round=>
  obtain⟨k,gx,rfl,rfl,hk,HK⟩:=hrel
  by_cases hlt:k<ds.length
  ·have hk1:(k:Int)<(ds.length:Int):=by omega
   go_wp2_with fail;refine(aC (g:=gx) (HC.out gx.W k (goutW gx) hlt)).mono ?_;rintro _ _ ⟨rfl,g2,rfl⟩
   cases hf:f k
   ·have HF:=J hf;clear hf;go_wp2_with fail;exact⟨⟨k+1,g2,by go_num,rfl,by omega,⟨fun j hj=>(Decidable.em (j=k)).elim (fun h=>h ▸ HF.out) (fun h=>HK.out j (by omega))⟩⟩,by simp[intOf];omega⟩
   ·have HF:=J hf;clear hf;go_wp2_with fail;go_ret2
    have e:r=((k:Int),ac):=by rw[HR.out];unfold dN;rw[cZ hlt HF.out HK.out]
    exact⟨kA (by rw[e]) (by rw[e]),goutW _⟩
  ·have hk1:¬(k:Int)<(ds.length:Int):=by omega
   go_wp2_with fail;go_ret2
   have e:r=(0,O):=by rw[HR.out];unfold dN;rw[cW fun j hj=>HK.out j (by omega)]
   exact⟨kA (by rw[e]) (by rw[e]),goutW _⟩
theorem decls54_calls (nm:ByteArray)(wd ln:Int)(ds:List S70)(bd:List S119)(A3:Option Addr)(c3:Nat)(A4:Option Addr)(c4:Nat)(b1:Nat)(W:World)(hlm:ds.length<=1048576)(hb1:W.heap[b1]? =ae (.cells #[.func (.func 184) #[] #[]] 55 (0,0)))(f:Nat->Bool)
 (hc:∀X i,Below W.heap.size W X->i<ds.length->Calls au 184 #[.agg #[.string nm,.int .i64 wd,.int .i64 ln,.slice A3 ds.length c3,.slice A4 bd.length c4],.int .i64 (i:Int)] X fun e w'=>e=.returned (.bool (f i))/\Below X.heap.size X w') (r:Int × Bool) (hr:r=dN f ds.length):
 Calls au 247 #[.agg #[.string nm,.int .i64 wd,.int .i64 ln,.slice A3 ds.length c3,.slice A4 bd.length c4],.pointer (ae ⟨b1,0,aj⟩)] W fun e w'=>e=.returned (.tuple #[.int .i64 r.1,.bool r.2])/\Below W.heap.size W w':=by
 have gout:=@gA W;have HC:=J hc;have HR:=J hr;have l1:=aR hb1;have y0:W.cell? ⟨b1,0,aj⟩=ae (.func (.func 184) #[] #[]):=(aB hb1 0).trans rfl;clear hc hb1 hr;go_enter Tryz.func247,Tryz.ntmps247
 go_upto_region 1 with (fail)
 refine aG ?_;intro gg;have goutW:∀(g:G (gw0 gg)),Below W.heap.size W g.W:=fun g=>gout g;go_wp2_with fail
 go_loopw [9] (fun i X=>∃(k:Nat) (g:G (gw0 gg)),i=.int .i64 k/\X=g.W/\k<=ds.length/\Aside0 (∀j,j<k->f j=O)) (fun i _=>ds.length - (intOf i).toNat)
 case atStart=>exact⟨0,gg,rfl,rfl,br _,⟨fun j hj=>absurd hj (dn _)⟩⟩
 case round=>
  obtain⟨k,gx,rfl,rfl,hk,HK⟩:=hrel
  by_cases hlt:k<ds.length
  ·have hk1:(k:Int)<(ds.length:Int):=by omega
   go_wp2_with fail;refine(aC (g:=gx) (HC.out gx.W k (goutW gx) hlt)).mono ?_;rintro _ _ ⟨rfl,g2,rfl⟩
   cases hf:f k
   ·have HF:=J hf;clear hf;go_wp2_with fail;exact⟨⟨k+1,g2,by go_num,rfl,by omega,⟨fun j hj=>(Decidable.em (j=k)).elim (fun h=>h ▸ HF.out) (fun h=>HK.out j (by omega))⟩⟩,by simp[intOf];omega⟩
   ·have HF:=J hf;clear hf;go_wp2_with fail;go_ret2
    have e:r=((k:Int),ac):=by rw[HR.out];unfold dN;rw[cZ hlt HF.out HK.out]
    exact⟨kA (by rw[e]) (by rw[e]),goutW _⟩
  ·have hk1:¬(k:Int)<(ds.length:Int):=by omega
   go_wp2_with fail;go_ret2
   have e:r=(0,O):=by rw[HR.out];unfold dN;rw[cW fun j hj=>HK.out j (by omega)]
   exact⟨kA (by rw[e]) (by rw[e]),goutW _⟩
theorem c45_calls (nm:ByteArray)(wd ln:Int)(ds:List S70)(bd:List S119)(A3:Option Addr)(c3:Nat)(A4:Option Addr)(c4:Nat)(W:World)(b:Bool)(hb:b=cN wd):
 Calls au 175 #[.agg #[.string nm,.int .i64 wd,.int .i64 ln,.slice A3 ds.length c3,.slice A4 bd.length c4]] W fun e w'=>e=.returned (.bool b)/\Below W.heap.size W w':=by
 have gout:=@gA W;have HR:=J hb;clear hb;go_enter Tryz.func175,Tryz.ntmps175
 go_upto_region 1 with (fail)
 refine aG ?_;intro gg
 by_cases h:wd ≥ 4
 ·have H:=J h;go_wp2_with fail;refine(aC (g:=gg) (gQ wd 64 gg.W (by decide) _ rfl)).mono ?_;rintro _ _ ⟨rfl,gg,rfl⟩;go_wp2_with fail;go_ret;refine⟨aA ?_,gout _⟩;rw[HR.out];have h4:=H.out
  by_cases h64:wd<=64
  ·rw[decide_eq_true h64,Bool.true_and];unfold dB cN
   have e1:(wd==1)=O:=by simp;omega
   have e2:(wd==2)=O:=by simp;omega
   have e3:(wd==128)=O:=by simp;omega
   have e4:(wd==256)=O:=by simp;omega
   rw[e1,e2,e3,e4]
   simp
  ·rw[decide_eq_false h64,Bool.false_and];unfold cN
   have e1:(wd==4)=O:=by simp;omega
   have e2:(wd==8)=O:=by simp;omega
   have e3:(wd==16)=O:=by simp;omega
   have e4:(wd==32)=O:=by simp;omega
   have e5:(wd==64)=O:=by simp;omega
   rw[e1,e2,e3,e4,e5];rfl
 ·have H:=J h;go_wp2_with fail;go_ret;refine⟨aA ?_,gout _⟩;rw[HR.out];have h4:=H.out;unfold cN
  have e1:(wd==4)=O:=by simp;omega
  have e2:(wd==8)=O:=by simp;omega
  have e3:(wd==16)=O:=by simp;omega
  have e4:(wd==32)=O:=by simp;omega
  have e5:(wd==64)=O:=by simp;omega
  rw[e1,e2,e3,e4,e5];rfl
theorem c47_calls (nm:ByteArray)(wd ln:Int)(ds:List S70)(bd:List S119)(A3:Option Addr)(c3:Nat)(A4:Option Addr)(c4:Nat)(W:World)(b:Bool)(hb:b=dB ln):
 Calls au 177 #[.agg #[.string nm,.int .i64 wd,.int .i64 ln,.slice A3 ds.length c3,.slice A4 bd.length c4]] W fun e w'=>e=.returned (.bool b)/\Below W.heap.size W w':=by
 have gout:=@gA W;have HR:=J hb;clear hb;go_enter Tryz.func177,Tryz.ntmps177
 go_upto_region 1 with (fail)
 refine aG ?_;intro gg;go_wp2_with fail
 refine(aC (g:=gg) (gQ ln 256 gg.W (by decide) b (by
  rw[HR.out]
  by_cases h:ln<=256
  ·rw[decide_eq_true h,Bool.true_and]
  ·rw[decide_eq_false h,Bool.false_and,pow_out (.inr (by omega))]))).mono ?_
 rintro _ _ ⟨rfl,gg,rfl⟩;go_wp2_with fail;go_ret;exact⟨rfl,gout _⟩
theorem c48_calls (nm:ByteArray)(wd ln:Int)(ds:List S70)(bd:List S119)(A3:Option Addr)(c3:Nat)(A4:Option Addr)(c4:Nat)(W:World)(hlm:ds.length<=1048576)(b:Bool)(hb:b=decide (ds.length<=256)):
 Calls au 178 #[.agg #[.string nm,.int .i64 wd,.int .i64 ln,.slice A3 ds.length c3,.slice A4 bd.length c4]] W fun e w'=>e=.returned (.bool b)/\Below W.heap.size W w':=by
 have gout:=@gA W;have HR:=J hb;clear hb;go_enter Tryz.func178,Tryz.ntmps178
 go_upto_region 1 with (fail)
 refine aG ?_;intro gg
 by_cases h:ds.length<=256
 ·have h':(ds.length:Int)<=256:=by omega
  have H:=J h;clear h;go_wp2_with fail;go_ret;exact⟨aA (by rw[HR.out,decide_eq_true H.out]),gout _⟩
 ·have h':¬(ds.length:Int)<=256:=by omega
  have H:=J h;clear h;go_wp2_with fail;go_ret;exact⟨aA (by rw[HR.out,decide_eq_false (by have:=H.out;omega)]),gout _⟩
end
section
attribute [local go_sem] G.cell
theorem cap_step (s a C:Nat):min (min (min s C+1) C+a) C=min (s+(1+a)) C:=by omega
theorem cap_one (s C:Nat):min (min s C+1) C=min (s+(1+0)) C:=by omega
theorem cap_if (s w a b C:Nat):min (min (min s C+1) C+(w+(min a C+min b C))) C=min (s+(1+(w+a+b))) C:=by omega
theorem cap_mul (n a C:Nat)(hC:0<C):min (n*min (1+min a C) C) C=min (n*(1+a)) C:=by
 rcases bu n with rfl | hn
 ·simp
 ·by_cases h:1+a<=C
  ·rw[Nat.min_eq_left (show a<=C by omega),Nat.min_eq_left h]
  ·have h1:min (1+min a C) C=C:=by omega
   have h2:C<=n*C:=Nat.le_mul_of_pos_left C hn;have h3:C<=n*(1+a):=bg h2 (Nat.mul_le_mul_left n (by omega));rw[h1,Nat.min_eq_right h2,Nat.min_eq_right h3]
theorem cap_for (s n a C:Nat)(hC:0<C):min (min (min s C+1) C+min (n*min (1+min a C) C) C) C=min (s+(1+n*(1+a))) C:=by
 rw[cap_mul n a C hC];generalize n*(1+a)=z;omega
theorem u64_in {z:Int}(h0:0<=z)(h1:z<18446744073709551616):IntKind.u64.wrap z=z:=by simp only[IntKind.wrap,IntKind.bits,IntKind.signed,Bool.false_and,Bool.false_eq_true,if_false];omega
theorem timesZ_calls (z:Int)(n s r:Nat)(hz:z=n)(hn:n<18446744073709551616)(hs:s<=1099511627776)(hr:r=min (n*s) 1099511627776)(w:World):
 Calls au 157 #[.int .u64 z,.int .i64 s] w fun e w'=>e=.returned (.int .i64 (r:Int))/\Below w.heap.size w w':=by subst hz;exact times_calls n s r hn hs hr w
theorem iZ {a b n:Nat}(h1:a<=n)(h2:b<=n):∀x∈[a,b],x<=n:=by intro x hx;rcases cg.1 hx with rfl | hx;exact h1;rcases cg.1 hx with rfl | hx;exact h2;cases hx
theorem le_of3 {a b c n:Nat}(h1:a<=n)(h2:b<=n)(h3:c<=n):∀x∈[a,b,c],x<=n:=by intro x hx;rcases cg.1 hx with rfl | hx;exact h1;exact iZ h2 h3 x hx
theorem le_of4 {a b c d n:Nat}(h1:a<=n)(h2:b<=n)(h3:c<=n)(h4:d<=n):∀x∈[a,b,c,d],x<=n:=by intro x hx;rcases cg.1 hx with rfl | hx;exact h1;exact le_of3 h2 h3 h4 x hx
theorem size_walk (l:List S119)(hg:∀x∈l,0<=x.f4/\0<=x.f5/\x.f4<18446744073709551616/\x.f5<18446744073709551616/\aO x.f2<=1099511627776/\aO x.f3<=1099511627776)(ih:∀x∈l,SizeC 114 1099511627776 x.f6/\SizeC 114 1099511627776 x.f7):SizeC 114 1099511627776 l:=by
 intro A c w hc hl;have IH:=J ih;have HC:=J hc;have GD:=J hg;have hlm:=hc.2.1;clear ih hc hg;go_enter Tryz.func114,Tryz.ntmps114
 go_wp2
 go_loopw [8,3] (fun i n W=>∃(k:Nat) (g:G w),i=.int .i64 k/\(∃m:Nat,n=.int .i64 m/\m=min (dQ (l.take k)) 1099511627776)/\W=g.W/\k<=l.length) (fun i n _=>l.length - (intOf i).toNat)
 case atStart=>exact⟨0,⟨w,ak _ _⟩,rfl,⟨0,rfl,by simp[dQ]⟩,rfl,br _⟩
 case round=>
  obtain⟨k,g,rfl,⟨m,rfl,hm⟩,rfl,hk⟩:=hrel
  by_cases hlt:k<l.length
  ·obtain⟨ad,A5,c5,A9,c9,A12,c12,A13,c13,e1,q0,q1,q2,q3,q4,q5,q6,q7,q8,q9,q10,q11,q12,q13,l5,g5,l9,g9,l12,g12,l13,g13⟩:=lG HC.out (k:Int) (bc _) (by omega);cases e1;rw[ax]at q0 q1 q2 q3 q4 q5 q6 q7 q8 q9 q10 q11 q12 q13;replace q0:=(g.below.cell (ah w _ q0)).trans q0;replace q1:=(g.below.cell (ah w _ q1)).trans q1;replace q2:=(g.below.cell (ah w _ q2)).trans q2;replace q3:=(g.below.cell (ah w _ q3)).trans q3;replace q4:=(g.below.cell (ah w _ q4)).trans q4;replace q5:=(g.below.cell (ah w _ q5)).trans q5;replace q6:=(g.below.cell (ah w _ q6)).trans q6;replace q7:=(g.below.cell (ah w _ q7)).trans q7;replace q8:=(g.below.cell (ah w _ q8)).trans q8;replace q9:=(g.below.cell (ah w _ q9)).trans q9;replace q10:=(g.below.cell (ah w _ q10)).trans q10;replace q11:=(g.below.cell (ah w _ q11)).trans q11;replace q12:=(g.below.cell (ah w _ q12)).trans q12;replace q13:=(g.below.cell (ah w _ q13)).trans q13
   have hi1:(k:Int)<(l.length:Int):=by omega
   have K:=J (aq l5 (aq g5 (aq l9 (aq g9 (aq l12 (aq g12 (aq l13 g13)))))));clear l5 g5 l9 g9 l12 g12 l13 g13;have MEM:=jH hlt;have T:=congrArg dQ (eT hlt);rw[sizeB_add,sizeT_eq]at T;have GD1:=J (GD.out _ MEM);have IH1:=J (IH.out _ MEM);clear MEM;generalize aI l (k:Int)=x at*;obtain⟨m1,hm1⟩:∃r,r=min [m,1].sum 1099511627776:=⟨_,rfl⟩
   have hm1':m1=min (m+1) 1099511627776:=by simpa using hm1
   have M:=J (aq hm (aq hm1' (aq T hm1)));have hmb:=J (show m<=1099511627776/\m1<=1099511627776 from⟨by rw[hm];exact Nat.min_le_right _ _,by rw[hm1];exact Nat.min_le_right _ _⟩);clear hm hm1 hm1' T
   have kk:x.f0=1\/x.f0=2\/x.f0=3\/x.f0=4\/(¬x.f0=1/\¬x.f0=2/\¬x.f0=3/\¬x.f0=4):=by omega
   rcases kk with h0 | h0 | h0 | h0 | ⟨h1,h2,h3,h4⟩
   ·rw[h0]at q0;have H0:=J h0;clear h0
    go_upto_region 5 with (fail)
    refine aG ?_;intro gg;go_wp2_with fail;refine(bL (g:=gg) (cD [m,1] m1 M.out.2.2.2 (iZ hmb.out.1 (by omega)) (by simp) (ae ⟨gg.W.heap.size,0,aj⟩) 2 _ (eE _ [m,1] 3 (by simp)) (by simp))).mono ?_;rintro _ _ ⟨rfl,gg,rfl⟩;go_wp2_with fail;refine(aC (g:=gg) (weigh_v GD1.out.2.2.2.2.2 A9 c9 gg.W (Kd.aF K.out.2.2.2.1 (G.deep (g:=g) gg)) K.out.2.2.1)).mono ?_;rintro _ _ ⟨rfl,gg,rfl⟩;go_wp2_with fail;obtain⟨m2,hm2⟩:∃r,r=min [m1,aO x.f3].sum 1099511627776:=⟨_,rfl⟩;have HM2:=J hm2;clear hm2;refine(bL (g:=gg) (cD [m1,aO x.f3] m2 HM2.out (iZ hmb.out.2 GD1.out.2.2.2.2.2) (by simp) (ae ⟨gg.W.heap.size,0,aj⟩) 2 _ (eE _ [m1,aO x.f3] 3 (by simp)) (by simp))).mono ?_;rintro _ _ ⟨rfl,gg,rfl⟩;go_wp2_with fail;refine⟨⟨k+1,mkG (G.deep (g:=g) gg),by go_num,⟨m2,rfl,?_⟩,rfl,by omega⟩,by simp[intOf];omega⟩;obtain⟨e1,e2,e3,_⟩:=M.out
    have e4:m2=min (m1+aO x.f3) 1099511627776:=by simpa using HM2.out
    rw[e3,H0.out,if_pos rfl,e4,e2,e1];exact cap_step _ _ _
   ·rw[h0]at q0;have H0:=J h0;clear h0
    go_upto_region 5 with (fail)
    refine aG ?_;intro gg;go_wp2_with fail;refine(bL (g:=gg) (cD [m,1] m1 M.out.2.2.2 (iZ hmb.out.1 (by omega)) (by simp) (ae ⟨gg.W.heap.size,0,aj⟩) 2 _ (eE _ [m,1] 3 (by simp)) (by simp))).mono ?_;rintro _ _ ⟨rfl,gg,rfl⟩;obtain⟨m2,hm2⟩:∃r,r=min [m1,aO x.f2,aO x.f3].sum 1099511627776:=⟨_,rfl⟩;have HM2:=J hm2;clear hm2
    go_upto_region 10 with (fail)
    refine gG (n:=10) (S:=fun w'=>∃g':G _,w'=g'.W) (ds:=[]) #[O,O,O,O,O,O,O,O,O,O] (by kernel_rfl) rfl rfl ⟨mkG (gg.2.drew),rfl⟩ (fun hHeld=> ?_);obtain⟨gd,hgd⟩:=hHeld;rw[hgd];clear hgd;refine bN (i:=0) (N:=ae 27) (v:= ?_) (a':= ?_) #[ac,O,O,O,O,O,O,O,O,O] rfl rfl (by kernel_rfl) (fun _ _ _ h=>h) (bi ⟨by rfl,?_⟩) ?_ ?_;rotate_left
    ·intro w';go_simp;with_reducible rfl
    rotate_left
    ·simp only[ay,aa,af,ag,aQ,aP];rfl
    refine bN (i:=1) (N:=ae 28) (v:= ?_) (a':= ?_) #[ac,ac,O,O,O,O,O,O,O,O] rfl rfl (by kernel_rfl) (fun _ _ _ h=>h) (bi ⟨by rfl,?_⟩) ?_ ?_;rotate_left
    ·intro w';go_simp;with_reducible rfl
    rotate_left
    ·simp only[ay,aa,af,ag,aQ,aP];rfl
    refine bN (i:=4) (N:=ae 31) (v:= ?_) (a':= ?_) #[ac,ac,O,O,ac,O,O,O,O,O] rfl rfl (by kernel_rfl) (fun _ _ _ h=>h) (bi ⟨by rfl,?_⟩) ?_ ?_;rotate_left
    ·intro w';go_simp;with_reducible rfl
    rotate_left
    ·simp only[ay,aa,af,ag,aQ,aP];rfl
    refine eO (i:=2) (N:=ae 29) (v:= ?_) (a':= ?_) #[ac,ac,ac,O,ac,O,O,O,O,O] rfl rfl (by kernel_rfl) (fun _ _ _ h=>h) (bi ⟨by rfl,?_⟩) ⟨gd,rfl⟩ ?_ ?_;rotate_left
    ·rintro w' ⟨g',rfl⟩;go_simp;with_reducible rfl
    rotate_left
    ·simp only[ay,aa,af,ag,aQ,aP];rfl
    refine eO (i:=5) (N:=ae 32) (v:= ?_) (a':= ?_) #[ac,ac,ac,O,ac,ac,O,O,O,O] rfl rfl (by kernel_rfl) (fun _ _ _ h=>h) (bi ⟨by rfl,?_⟩) ⟨gd,rfl⟩ ?_ ?_;rotate_left
    ·rintro w' ⟨g',rfl⟩;go_simp;with_reducible rfl
    rotate_left
    ·simp only[ay,aa,af,ag,aQ,aP];rfl
    refine jO (i:=3) (N:=ae 30) #[ac,ac,ac,ac,ac,ac,O,O,O,O] rfl rfl (by kernel_rfl) (by simp) (fun Kr hKr=> ?_);refine kD Tryz.func156 (by kernel_rfl) rfl #[.agg #[.int .i64 x.f2.f0,.int .u64 x.f2.f1,.string x.f2.f2,.slice A5 x.f2.f3.length c5]] (by rfl) rfl rfl (by(try simp only[cd,cq,dc]);first | done | rfl) ?_;refine(weigh_v GD1.out.2.2.2.2.1 A5 c5 gd.W (Kd.aF K.out.2.1 (G.deep (g:=g) gd)) K.out.1).mono ?_;rintro _ w9 ⟨rfl,hb⟩;refine⟨_,rfl,?_⟩;obtain⟨gd,rfl⟩:∃g':G _,w9=g'.W:=⟨mkG (gd.below.trans (hb.mono gd.below.size)),rfl⟩;clear hb;refine hKr.out _ _ ⟨gd,rfl⟩ (fun _=> ?_);clear hKr Kr;refine cG (a':= ?_) ?_ ?_;rotate_left
    ·show ay _ (ae 30) _ = _
     simp only[ay,aa,af,ag,aQ,aP];rfl
    refine jO (i:=6) (N:=ae 33) #[ac,ac,ac,ac,ac,ac,ac,O,O,O] rfl rfl (by kernel_rfl) (by simp) (fun Kr hKr=> ?_);refine kD Tryz.func156 (by kernel_rfl) rfl #[.agg #[.int .i64 x.f3.f0,.int .u64 x.f3.f1,.string x.f3.f2,.slice A9 x.f3.f3.length c9]] (by rfl) rfl rfl (by(try simp only[cd,cq,dc]);first | done | rfl) ?_;refine(weigh_v GD1.out.2.2.2.2.2 A9 c9 gd.W (Kd.aF K.out.2.2.2.1 (G.deep (g:=g) gd)) K.out.2.2.1).mono ?_;rintro _ w9 ⟨rfl,hb⟩;refine⟨_,rfl,?_⟩;obtain⟨gd,rfl⟩:∃g':G _,w9=g'.W:=⟨mkG (gd.below.trans (hb.mono gd.below.size)),rfl⟩;clear hb;refine hKr.out _ _ ⟨gd,rfl⟩ (fun _=> ?_);clear hKr Kr;refine cG (a':= ?_) ?_ ?_;rotate_left
    ·show ay _ (ae 33) _ = _
     simp only[ay,aa,af,ag,aQ,aP];rfl
    refine jO (i:=7) (N:=ae 34) #[ac,ac,ac,ac,ac,ac,ac,ac,O,O] rfl rfl (by kernel_rfl) (by simp) (fun Kr hKr=> ?_);refine cO (v:=.slice (ae ⟨gd.W.heap.size,0,aj⟩) 3 3) (w1:=gd.W.alloc (.cells #[.int .i64 (m1:Int),.int .i64 ((aO x.f2:Nat):Int),.int .i64 ((aO x.f3:Nat):Int)] 3)) (by rfl) (by first | (go_simp;done) | (go_simp;rfl)) ?_;refine hKr.out _ _ ⟨mkG (G.ball gd _),rfl⟩ (fun _=> ?_);clear hKr Kr;refine cG (a':= ?_) ?_ ?_;rotate_left
    ·show ay _ (ae 34) _ = _
     simp only[ay,aa,af,ag,aQ,aP];rfl
    refine jO (i:=8) (N:=ae 35) #[ac,ac,ac,ac,ac,ac,ac,ac,ac,O] rfl rfl (by kernel_rfl) (by simp) (fun Kr hKr=> ?_);refine kD Tryz.func155 (by kernel_rfl) rfl #[.slice (ae ⟨gd.W.heap.size,0,aj⟩) 3 3] (by rfl) rfl rfl (by(try simp only[cd,cq,dc]);first | done | rfl) ?_;refine(cD [m1,aO x.f2,aO x.f3] m2 HM2.out (le_of3 hmb.out.2 GD1.out.2.2.2.2.1 GD1.out.2.2.2.2.2) (by simp) (ae ⟨gd.W.heap.size,0,aj⟩) 3 _ (eE _ [m1,aO x.f2,aO x.f3] 3 (by simp)) (by simp)).mono ?_;rintro _ w9 ⟨rfl,hb⟩;refine⟨_,rfl,?_⟩;obtain⟨gd,rfl⟩:∃g':G _,w9=g'.W:=⟨mkG ((G.ball gd _).trans (hb.mono (G.ball gd _).size)),rfl⟩;clear hb;refine hKr.out _ _ ⟨gd,rfl⟩ (fun _=> ?_);clear hKr Kr;refine cG (a':= ?_) ?_ ?_;rotate_left
    ·show ay _ (ae 35) _ = _
     simp only[ay,aa,af,ag,aQ,aP];rfl
    refine bN (i:=9) (N:=ae 3) (v:= ?_) (a':= ?_) #[ac,ac,ac,ac,ac,ac,ac,ac,ac,ac] rfl rfl (by kernel_rfl) (fun _ _ _ h=>h) (bi ⟨by rfl,?_⟩) ?_ ?_;rotate_left
    ·intro w';go_simp;with_reducible rfl
    rotate_left
    ·simp only[ay,aa,af,ag,aQ,aP];rfl
    refine kG (by kernel_rfl) ?_;go_wp2_with fail;refine⟨⟨k+1,mkG (G.deep (g:=g) gd),by go_num,⟨m2,rfl,?_⟩,rfl,by omega⟩,by simp[intOf];omega⟩;obtain⟨e1,e2,e3,_⟩:=M.out
    have e4:m2=min (m1+(aO x.f2+aO x.f3)) 1099511627776:=by simpa using HM2.out
    rw[e3,H0.out,if_neg (by decide),if_pos rfl,e4,e2,e1];exact cap_step _ _ _
   ·rw[h0]at q0;have H0:=J h0;clear h0
    go_upto_region 5 with (fail)
    refine aG ?_;intro gg;go_wp2_with fail;refine(bL (g:=gg) (cD [m,1] m1 M.out.2.2.2 (iZ hmb.out.1 (by omega)) (by simp) (ae ⟨gg.W.heap.size,0,aj⟩) 2 _ (eE _ [m,1] 3 (by simp)) (by simp))).mono ?_;rintro _ _ ⟨rfl,gg,rfl⟩;obtain⟨s1,hs1⟩:∃r,r=min (dQ x.f6) 1099511627776:=⟨_,rfl⟩;obtain⟨s2,hs2⟩:∃r,r=min (dQ x.f7) 1099511627776:=⟨_,rfl⟩;obtain⟨m2,hm2⟩:∃r,r=min [m1,aO x.f3,s1,s2].sum 1099511627776:=⟨_,rfl⟩;have SB:=J (show s1<=1099511627776/\s2<=1099511627776 from⟨by rw[hs1];exact Nat.min_le_right _ _,by rw[hs2];exact Nat.min_le_right _ _⟩);have HM2:=J (aq hm2 (aq hs1 hs2));clear hm2 hs1 hs2
    go_upto_region 12 with (fail)
    refine gG (n:=13) (S:=fun w'=>∃g':G _,w'=g'.W) (ds:=[]) #[O,O,O,O,O,O,O,O,O,O,O,O,O] (by kernel_rfl) rfl rfl ⟨mkG (gg.2.drew),rfl⟩ (fun hHeld=> ?_);obtain⟨gd,hgd⟩:=hHeld;rw[hgd];clear hgd;refine bN (i:=0) (N:=ae 38) (v:= ?_) (a':= ?_) #[ac,O,O,O,O,O,O,O,O,O,O,O,O] rfl rfl (by kernel_rfl) (fun _ _ _ h=>h) (bi ⟨by rfl,?_⟩) ?_ ?_;rotate_left
    ·intro w';go_simp;with_reducible rfl
    rotate_left
    ·simp only[ay,aa,af,ag,aQ,aP];rfl
    refine bN (i:=1) (N:=ae 39) (v:= ?_) (a':= ?_) #[ac,ac,O,O,O,O,O,O,O,O,O,O,O] rfl rfl (by kernel_rfl) (fun _ _ _ h=>h) (bi ⟨by rfl,?_⟩) ?_ ?_;rotate_left
    ·intro w';go_simp;with_reducible rfl
    rotate_left
    ·simp only[ay,aa,af,ag,aQ,aP];rfl
    refine bN (i:=4) (N:=ae 42) (v:= ?_) (a':= ?_) #[ac,ac,O,O,ac,O,O,O,O,O,O,O,O] rfl rfl (by kernel_rfl) (fun _ _ _ h=>h) (bi ⟨by rfl,?_⟩) ?_ ?_;rotate_left
    ·intro w';go_simp;with_reducible rfl
    rotate_left
    ·simp only[ay,aa,af,ag,aQ,aP];rfl
    refine bN (i:=7) (N:=ae 45) (v:= ?_) (a':= ?_) #[ac,ac,O,O,ac,O,O,ac,O,O,O,O,O] rfl rfl (by kernel_rfl) (fun _ _ _ h=>h) (bi ⟨by rfl,?_⟩) ?_ ?_;rotate_left
    ·intro w';go_simp;with_reducible rfl
    rotate_left
    ·simp only[ay,aa,af,ag,aQ,aP];rfl
    refine eO (i:=2) (N:=ae 40) (v:= ?_) (a':= ?_) #[ac,ac,ac,O,ac,O,O,ac,O,O,O,O,O] rfl rfl (by kernel_rfl) (fun _ _ _ h=>h) (bi ⟨by rfl,?_⟩) ⟨gd,rfl⟩ ?_ ?_;rotate_left
    ·rintro w' ⟨g',rfl⟩;go_simp;with_reducible rfl
    rotate_left
    ·simp only[ay,aa,af,ag,aQ,aP];rfl
    refine eO (i:=5) (N:=ae 43) (v:= ?_) (a':= ?_) #[ac,ac,ac,O,ac,ac,O,ac,O,O,O,O,O] rfl rfl (by kernel_rfl) (fun _ _ _ h=>h) (bi ⟨by rfl,?_⟩) ⟨gd,rfl⟩ ?_ ?_;rotate_left
    ·rintro w' ⟨g',rfl⟩;go_simp;with_reducible rfl
    rotate_left
    ·simp only[ay,aa,af,ag,aQ,aP];rfl
    refine eO (i:=8) (N:=ae 46) (v:= ?_) (a':= ?_) #[ac,ac,ac,O,ac,ac,O,ac,ac,O,O,O,O] rfl rfl (by kernel_rfl) (fun _ _ _ h=>h) (bi ⟨by rfl,?_⟩) ⟨gd,rfl⟩ ?_ ?_;rotate_left
    ·rintro w' ⟨g',rfl⟩;go_simp;with_reducible rfl
    rotate_left
    ·simp only[ay,aa,af,ag,aQ,aP];rfl
    refine jO (i:=3) (N:=ae 41) #[ac,ac,ac,ac,ac,ac,O,ac,ac,O,O,O,O] rfl rfl (by kernel_rfl) (by simp) (fun Kr hKr=> ?_);refine kD Tryz.func156 (by kernel_rfl) rfl #[.agg #[.int .i64 x.f3.f0,.int .u64 x.f3.f1,.string x.f3.f2,.slice A9 x.f3.f3.length c9]] (by rfl) rfl rfl (by(try simp only[cd,cq,dc]);first | done | rfl) ?_;refine(weigh_v GD1.out.2.2.2.2.2 A9 c9 gd.W (Kd.aF K.out.2.2.2.1 (G.deep (g:=g) gd)) K.out.2.2.1).mono ?_;rintro _ w9 ⟨rfl,hb⟩;refine⟨_,rfl,?_⟩;obtain⟨gd,rfl⟩:∃g':G _,w9=g'.W:=⟨mkG (gd.below.trans (hb.mono gd.below.size)),rfl⟩;clear hb;refine hKr.out _ _ ⟨gd,rfl⟩ (fun _=> ?_);clear hKr Kr;refine cG (a':= ?_) ?_ ?_;rotate_left
    ·show ay _ (ae 41) _ = _
     simp only[ay,aa,af,ag,aQ,aP];rfl
    refine jO (i:=6) (N:=ae 44) #[ac,ac,ac,ac,ac,ac,ac,ac,ac,O,O,O,O] rfl rfl (by kernel_rfl) (by simp) (fun Kr hKr=> ?_);refine kD Tryz.func114 (by kernel_rfl) rfl #[.slice A12 x.f6.length c12] (by rfl) rfl rfl (by(try simp only[cd,cq,dc]);first | done | rfl) ?_;refine(size_v IH1.out.1 HM2.out.2.1 A12 c12 gd.W (Kd.aF K.out.2.2.2.2.2.1 (G.deep (g:=g) gd)) K.out.2.2.2.2.1).mono ?_;rintro _ w9 ⟨rfl,hb⟩;refine⟨_,rfl,?_⟩;obtain⟨gd,rfl⟩:∃g':G _,w9=g'.W:=⟨mkG (gd.below.trans (hb.mono gd.below.size)),rfl⟩;clear hb;refine hKr.out _ _ ⟨gd,rfl⟩ (fun _=> ?_);clear hKr Kr;refine cG (a':= ?_) ?_ ?_;rotate_left
    ·show ay _ (ae 44) _ = _
     simp only[ay,aa,af,ag,aQ,aP];rfl
    refine jO (i:=9) (N:=ae 47) #[ac,ac,ac,ac,ac,ac,ac,ac,ac,ac,O,O,O] rfl rfl (by kernel_rfl) (by simp) (fun Kr hKr=> ?_);refine kD Tryz.func114 (by kernel_rfl) rfl #[.slice A13 x.f7.length c13] (by rfl) rfl rfl (by(try simp only[cd,cq,dc]);first | done | rfl) ?_;refine(size_v IH1.out.2 HM2.out.2.2 A13 c13 gd.W (Kd.aF K.out.2.2.2.2.2.2.2 (G.deep (g:=g) gd)) K.out.2.2.2.2.2.2.1).mono ?_;rintro _ w9 ⟨rfl,hb⟩;refine⟨_,rfl,?_⟩;obtain⟨gd,rfl⟩:∃g':G _,w9=g'.W:=⟨mkG (gd.below.trans (hb.mono gd.below.size)),rfl⟩;clear hb;refine hKr.out _ _ ⟨gd,rfl⟩ (fun _=> ?_);clear hKr Kr;refine cG (a':= ?_) ?_ ?_;rotate_left
    ·show ay _ (ae 47) _ = _
     simp only[ay,aa,af,ag,aQ,aP];rfl
    refine jO (i:=10) (N:=ae 48) #[ac,ac,ac,ac,ac,ac,ac,ac,ac,ac,ac,O,O] rfl rfl (by kernel_rfl) (by simp) (fun Kr hKr=> ?_);refine cO (v:=.slice (ae ⟨gd.W.heap.size,0,aj⟩) 4 4) (w1:=gd.W.alloc (.cells #[.int .i64 (m1:Int),.int .i64 ((aO x.f3:Nat):Int),.int .i64 ((s1:Nat):Int),.int .i64 ((s2:Nat):Int)] 3)) (by rfl) (by first | (go_simp;done) | (go_simp;rfl)) ?_;refine hKr.out _ _ ⟨mkG (G.ball gd _),rfl⟩ (fun _=> ?_);clear hKr Kr;refine cG (a':= ?_) ?_ ?_;rotate_left
    ·show ay _ (ae 48) _ = _
     simp only[ay,aa,af,ag,aQ,aP];rfl
    refine jO (i:=11) (N:=ae 49) #[ac,ac,ac,ac,ac,ac,ac,ac,ac,ac,ac,ac,O] rfl rfl (by kernel_rfl) (by simp) (fun Kr hKr=> ?_);refine kD Tryz.func155 (by kernel_rfl) rfl #[.slice (ae ⟨gd.W.heap.size,0,aj⟩) 4 4] (by rfl) rfl rfl (by(try simp only[cd,cq,dc]);first | done | rfl) ?_;refine(cD [m1,aO x.f3,s1,s2] m2 HM2.out.1 (le_of4 hmb.out.2 GD1.out.2.2.2.2.2 SB.out.1 SB.out.2) (by simp) (ae ⟨gd.W.heap.size,0,aj⟩) 4 _ (eE _ [m1,aO x.f3,s1,s2] 3 (by simp)) (by simp)).mono ?_;rintro _ w9 ⟨rfl,hb⟩;refine⟨_,rfl,?_⟩;obtain⟨gd,rfl⟩:∃g':G _,w9=g'.W:=⟨mkG ((G.ball gd _).trans (hb.mono (G.ball gd _).size)),rfl⟩;clear hb;refine hKr.out _ _ ⟨gd,rfl⟩ (fun _=> ?_);clear hKr Kr;refine cG (a':= ?_) ?_ ?_;rotate_left
    ·show ay _ (ae 49) _ = _
     simp only[ay,aa,af,ag,aQ,aP];rfl
    refine bN (i:=12) (N:=ae 3) (v:= ?_) (a':= ?_) #[ac,ac,ac,ac,ac,ac,ac,ac,ac,ac,ac,ac,ac] rfl rfl (by kernel_rfl) (fun _ _ _ h=>h) (bi ⟨by rfl,?_⟩) ?_ ?_;rotate_left
    ·intro w';go_simp;with_reducible rfl
    rotate_left
    ·simp only[ay,aa,af,ag,aQ,aP];rfl
    refine kG (by kernel_rfl) ?_;go_wp2_with fail;refine⟨⟨k+1,mkG (G.deep (g:=g) gd),by go_num,⟨m2,rfl,?_⟩,rfl,by omega⟩,by simp[intOf];omega⟩;obtain⟨e1,e2,e3,_⟩:=M.out
    have e4:m2=min (m1+(aO x.f3+(s1+s2))) 1099511627776:=by simpa using HM2.out.1
    rw[e3,H0.out,if_neg (by decide),if_neg (by decide),if_pos rfl,e4,e2,e1,HM2.out.2.1,HM2.out.2.2];exact cap_if _ _ _ _ _
   ·rw[h0]at q0;have H0:=J h0;clear h0
    go_upto_region 5 with (fail)
    refine aG ?_;intro gg;go_wp2_with fail;refine(bL (g:=gg) (cD [m,1] m1 M.out.2.2.2 (iZ hmb.out.1 (by omega)) (by simp) (ae ⟨gg.W.heap.size,0,aj⟩) 2 _ (eE _ [m,1] 3 (by simp)) (by simp))).mono ?_;rintro _ _ ⟨rfl,gg,rfl⟩
    rcases dq x.f4 x.f5 with hlo | hlo
    ·obtain⟨s1,hs1⟩:∃r,r=min (dQ x.f6) 1099511627776:=⟨_,rfl⟩;obtain⟨q,hq⟩:∃r,r=min [1,s1].sum 1099511627776:=⟨_,rfl⟩;obtain⟨nn,hnn⟩:∃n,n=(x.f5 - x.f4).toNat:=⟨_,rfl⟩;obtain⟨tt,htt⟩:∃r,r=min (nn*q) 1099511627776:=⟨_,rfl⟩;obtain⟨m2,hm2⟩:∃r,r=min [m1,tt].sum 1099511627776:=⟨_,rfl⟩;have SB:=J (show s1<=1099511627776/\q<=1099511627776 from⟨by rw[hs1];exact Nat.min_le_right _ _,by rw[hq];exact Nat.min_le_right _ _⟩)
     have hz:IntKind.u64.wrap (x.f5 - x.f4)=(nn:Int):=by have:=GD1.out;rw[u64_in (by omega) (by omega),hnn];omega
     have hn:nn<18446744073709551616:=by have:=GD1.out;omega
     have HM2:=J (aq hm2 (aq hs1 (aq hq (aq htt (aq hz hn)))));have HNN:=J hnn;clear hm2 hs1 hq htt hz hn hnn;have hlo':x.f5 > x.f4:=hlo
     go_upto_region 15 with (fail)
     refine gG (n:=15) (S:=fun w'=>∃g':G _,w'=g'.W) (ds:=[]) #[O,O,O,O,O,O,O,O,O,O,O,O,O,O,O] (by kernel_rfl) rfl rfl ⟨mkG (gg.2.drew),rfl⟩ (fun hHeld=> ?_);obtain⟨gd,hgd⟩:=hHeld;rw[hgd];clear hgd;refine bN (i:=0) (N:=ae 57) (v:= ?_) (a':= ?_) #[ac,O,O,O,O,O,O,O,O,O,O,O,O,O,O] rfl rfl (by kernel_rfl) (fun _ _ _ h=>h) (bi ⟨by rfl,?_⟩) ?_ ?_;rotate_left
     ·intro w';go_simp;with_reducible rfl
     rotate_left
     ·simp only[ay,aa,af,ag,aQ,aP];rfl
     refine bN (i:=1) (N:=ae 58) (v:= ?_) (a':= ?_) #[ac,ac,O,O,O,O,O,O,O,O,O,O,O,O,O] rfl rfl (by kernel_rfl) (fun _ _ _ h=>h) (bi ⟨by rfl,?_⟩) ?_ ?_;rotate_left
     ·intro w';go_simp;with_reducible rfl
     rotate_left
     ·simp only[ay,aa,af,ag,aQ,aP];rfl
     refine bN (i:=3) (N:=ae 60) (v:= ?_) (a':= ?_) #[ac,ac,O,ac,O,O,O,O,O,O,O,O,O,O,O] rfl rfl (by kernel_rfl) (fun _ _ _ h=>h) (bi ⟨by rfl,?_⟩) ?_ ?_;rotate_left
     ·intro w';go_simp;with_reducible rfl
     rotate_left
     ·simp only[ay,aa,af,ag,aQ,aP];rfl
     refine bN (i:=6) (N:=ae 63) (v:= ?_) (a':= ?_) #[ac,ac,O,ac,O,O,ac,O,O,O,O,O,O,O,O] rfl rfl (by kernel_rfl) (fun _ _ _ h=>h) (bi ⟨by rfl,?_⟩) ?_ ?_;rotate_left
     ·intro w';go_simp;with_reducible rfl
     rotate_left
     ·simp only[ay,aa,af,ag,aQ,aP];rfl
     refine eO (i:=2) (N:=ae 59) (v:= ?_) (a':= ?_) #[ac,ac,ac,ac,O,O,ac,O,O,O,O,O,O,O,O] rfl rfl (by kernel_rfl) (fun _ _ _ h=>h) (bi ⟨by rfl,?_⟩) ⟨gd,rfl⟩ ?_ ?_;rotate_left
     ·rintro w' ⟨g',rfl⟩;go_simp;with_reducible rfl
     rotate_left
     ·simp only[ay,aa,af,ag,aQ,aP];rfl
     refine eO (i:=4) (N:=ae 61) (v:= ?_) (a':= ?_) #[ac,ac,ac,ac,ac,O,ac,O,O,O,O,O,O,O,O] rfl rfl (by kernel_rfl) (fun _ _ _ h=>h) (bi ⟨by rfl,?_⟩) ⟨gd,rfl⟩ ?_ ?_;rotate_left
     ·rintro w' ⟨g',rfl⟩;go_simp;with_reducible rfl
     rotate_left
     ·simp only[ay,aa,af,ag,aQ,aP];rfl
     refine bN (i:=5) (N:=ae 62) (v:= ?_) (a':= ?_) #[ac,ac,ac,ac,ac,ac,ac,O,O,O,O,O,O,O,O] rfl rfl (by kernel_rfl) (fun _ _ _ h=>h) (bi ⟨by rfl,?_⟩) ?_ ?_;rotate_left
     ·intro w';go_simp;with_reducible rfl
     rotate_left
     ·simp only[ay,aa,af,ag,aQ,aP];rfl
     refine eO (i:=7) (N:=ae 64) (v:= ?_) (a':= ?_) #[ac,ac,ac,ac,ac,ac,ac,ac,O,O,O,O,O,O,O] rfl rfl (by kernel_rfl) (fun _ _ _ h=>h) (bi ⟨by rfl,?_⟩) ⟨gd,rfl⟩ ?_ ?_;rotate_left
     ·rintro w' ⟨g',rfl⟩;go_simp;with_reducible rfl
     rotate_left
     ·simp only[ay,aa,af,ag,aQ,aP];rfl
     refine jO (i:=8) (N:=ae 65) #[ac,ac,ac,ac,ac,ac,ac,ac,ac,O,O,O,O,O,O] rfl rfl (by kernel_rfl) (by simp) (fun Kr hKr=> ?_);refine kD Tryz.func114 (by kernel_rfl) rfl #[.slice A12 x.f6.length c12] (by rfl) rfl rfl (by(try simp only[cd,cq,dc]);first | done | rfl) ?_;refine(size_v IH1.out.1 HM2.out.2.1 A12 c12 gd.W (Kd.aF K.out.2.2.2.2.2.1 (G.deep (g:=g) gd)) K.out.2.2.2.2.1).mono ?_;rintro _ w9 ⟨rfl,hb⟩;refine⟨_,rfl,?_⟩;obtain⟨gd,rfl⟩:∃g':G _,w9=g'.W:=⟨mkG (gd.below.trans (hb.mono gd.below.size)),rfl⟩;clear hb;refine hKr.out _ _ ⟨gd,rfl⟩ (fun _=> ?_);clear hKr Kr;refine cG (a':= ?_) ?_ ?_;rotate_left
     ·show ay _ (ae 65) _ = _
      simp only[ay,aa,af,ag,aQ,aP];rfl
     refine jO (i:=9) (N:=ae 66) #[ac,ac,ac,ac,ac,ac,ac,ac,ac,ac,O,O,O,O,O] rfl rfl (by kernel_rfl) (by simp) (fun Kr hKr=> ?_);refine cO (v:=.slice (ae ⟨gd.W.heap.size,0,aj⟩) 2 2) (w1:=gd.W.alloc (.cells #[.int .i64 1,.int .i64 ((s1:Nat):Int)] 3)) (by rfl) (by first | (go_simp;done) | (go_simp;rfl)) ?_;refine hKr.out _ _ ⟨mkG (G.ball gd _),rfl⟩ (fun _=> ?_);clear hKr Kr;refine cG (a':= ?_) ?_ ?_;rotate_left
     ·show ay _ (ae 66) _ = _
      simp only[ay,aa,af,ag,aQ,aP];rfl
     refine jO (i:=10) (N:=ae 67) #[ac,ac,ac,ac,ac,ac,ac,ac,ac,ac,ac,O,O,O,O] rfl rfl (by kernel_rfl) (by simp) (fun Kr hKr=> ?_);refine kD Tryz.func155 (by kernel_rfl) rfl #[.slice (ae ⟨gd.W.heap.size,0,aj⟩) 2 2] (by rfl) rfl rfl (by(try simp only[cd,cq,dc]);first | done | rfl) ?_;refine(cD [1,s1] q HM2.out.2.2.1 (iZ (by omega) SB.out.1) (by simp) (ae ⟨gd.W.heap.size,0,aj⟩) 2 _ (eE _ [1,s1] 3 (by simp)) (by simp)).mono ?_;rintro _ w9 ⟨rfl,hb⟩;refine⟨_,rfl,?_⟩;obtain⟨gd,rfl⟩:∃g':G _,w9=g'.W:=⟨mkG ((G.ball gd _).trans (hb.mono (G.ball gd _).size)),rfl⟩;clear hb;refine hKr.out _ _ ⟨gd,rfl⟩ (fun _=> ?_);clear hKr Kr;refine cG (a':= ?_) ?_ ?_;rotate_left
     ·show ay _ (ae 67) _ = _
      simp only[ay,aa,af,ag,aQ,aP];rfl
     refine jO (i:=11) (N:=ae 68) #[ac,ac,ac,ac,ac,ac,ac,ac,ac,ac,ac,ac,O,O,O] rfl rfl (by kernel_rfl) (by simp) (fun Kr hKr=> ?_);refine kD Tryz.func157 (by kernel_rfl) rfl #[.int .u64 (IntKind.u64.wrap (x.f5 - x.f4)),.int .i64 ((q:Nat):Int)] (by rfl) rfl rfl (by(try simp only[cd,cq,dc]);first | done | rfl) ?_;refine(timesZ_calls (IntKind.u64.wrap (x.f5 - x.f4)) nn q tt HM2.out.2.2.2.2.1 HM2.out.2.2.2.2.2 SB.out.2 HM2.out.2.2.2.1 gd.W).mono ?_;rintro _ w9 ⟨rfl,hb⟩;refine⟨_,rfl,?_⟩;obtain⟨gd,rfl⟩:∃g':G _,w9=g'.W:=⟨mkG (gd.below.trans (hb.mono gd.below.size)),rfl⟩;clear hb;refine hKr.out _ _ ⟨gd,rfl⟩ (fun _=> ?_);clear hKr Kr;refine cG (a':= ?_) ?_ ?_;rotate_left
     ·show ay _ (ae 68) _ = _
      simp only[ay,aa,af,ag,aQ,aP];rfl
     refine jO (i:=12) (N:=ae 69) #[ac,ac,ac,ac,ac,ac,ac,ac,ac,ac,ac,ac,ac,O,O] rfl rfl (by kernel_rfl) (by simp) (fun Kr hKr=> ?_);refine cO (v:=.slice (ae ⟨gd.W.heap.size,0,aj⟩) 2 2) (w1:=gd.W.alloc (.cells #[.int .i64 (m1:Int),.int .i64 ((tt:Nat):Int)] 3)) (by rfl) (by first | (go_simp;done) | (go_simp;rfl)) ?_;refine hKr.out _ _ ⟨mkG (G.ball gd _),rfl⟩ (fun _=> ?_);clear hKr Kr;refine cG (a':= ?_) ?_ ?_;rotate_left
     ·show ay _ (ae 69) _ = _
      simp only[ay,aa,af,ag,aQ,aP];rfl
     refine jO (i:=13) (N:=ae 70) #[ac,ac,ac,ac,ac,ac,ac,ac,ac,ac,ac,ac,ac,ac,O] rfl rfl (by kernel_rfl) (by simp) (fun Kr hKr=> ?_);refine kD Tryz.func155 (by kernel_rfl) rfl #[.slice (ae ⟨gd.W.heap.size,0,aj⟩) 2 2] (by rfl) rfl rfl (by(try simp only[cd,cq,dc]);first | done | rfl) ?_;refine(cD [m1,tt] m2 HM2.out.1 (iZ hmb.out.2 (by rw[HM2.out.2.2.2.1];exact Nat.min_le_right _ _)) (by simp) (ae ⟨gd.W.heap.size,0,aj⟩) 2 _ (eE _ [m1,tt] 3 (by simp)) (by simp)).mono ?_;rintro _ w9 ⟨rfl,hb⟩;refine⟨_,rfl,?_⟩;obtain⟨gd,rfl⟩:∃g':G _,w9=g'.W:=⟨mkG ((G.ball gd _).trans (hb.mono (G.ball gd _).size)),rfl⟩;clear hb;refine hKr.out _ _ ⟨gd,rfl⟩ (fun _=> ?_);clear hKr Kr;refine cG (a':= ?_) ?_ ?_;rotate_left
     ·show ay _ (ae 70) _ = _
      simp only[ay,aa,af,ag,aQ,aP];rfl
     refine bN (i:=14) (N:=ae 3) (v:= ?_) (a':= ?_) #[ac,ac,ac,ac,ac,ac,ac,ac,ac,ac,ac,ac,ac,ac,ac] rfl rfl (by kernel_rfl) (fun _ _ _ h=>h) (bi ⟨by rfl,?_⟩) ?_ ?_;rotate_left
     ·intro w';go_simp;with_reducible rfl
     rotate_left
     ·simp only[ay,aa,af,ag,aQ,aP];rfl
     refine kG (by kernel_rfl) ?_;go_wp2_with fail;refine⟨⟨k+1,mkG (G.deep (g:=g) gd),by go_num,⟨m2,rfl,?_⟩,rfl,by omega⟩,by simp[intOf];omega⟩;obtain⟨e1,e2,e3,_⟩:=M.out
     have e4:m2=min (m1+tt) 1099511627776:=by simpa using HM2.out.1
     have e5:q=min (1+s1) 1099511627776:=by simpa using HM2.out.2.2.1
     rw[e3,H0.out,if_neg (by decide),if_neg (by decide),if_neg (by decide),if_pos rfl,e4,e2,e1,HM2.out.2.2.2.1,e5,HM2.out.2.1,HNN.out];exact cap_for _ _ _ _ (by decide)
    ·have hlo':¬x.f5 > x.f4:=by omega
     have HLO:=J hlo;clear hlo;go_wp2_with fail;refine⟨⟨k+1,mkG (G.deep (g:=g) gg),by go_num,⟨m1,rfl,?_⟩,rfl,by omega⟩,by simp[intOf];omega⟩;obtain⟨e1,e2,e3,_⟩:=M.out;rw[e3,H0.out,if_neg (by decide),if_neg (by decide),if_neg (by decide),if_pos rfl,e2,e1,show(x.f5 - x.f4).toNat=0 by have:=HLO.out;omega,Nat.zero_mul];exact cap_one _ _
   ·have b1:(x.f0==1)=O:=by simpa using h1
    have b2:(x.f0==2)=O:=by simpa using h2
    have b3:(x.f0==3)=O:=by simpa using h3
    have b4:(x.f0==4)=O:=by simpa using h4
    have HN:=J (aq h1 (aq h2 (aq h3 h4)));clear h1 h2 h3 h4
    go_upto_region 5 with (fail)
    refine aG ?_;intro gg;go_wp2_with fail;refine(bL (g:=gg) (cD [m,1] m1 M.out.2.2.2 (iZ hmb.out.1 (by omega)) (by simp) (ae ⟨gg.W.heap.size,0,aj⟩) 2 _ (eE _ [m,1] 3 (by simp)) (by simp))).mono ?_;rintro _ _ ⟨rfl,gg,rfl⟩;go_wp2_with fail;refine⟨⟨k+1,mkG (G.deep (g:=g) gg),by go_num,⟨m1,rfl,?_⟩,rfl,by omega⟩,by simp[intOf];omega⟩;obtain⟨e1,e2,e3,_⟩:=M.out;rw[e3,if_neg HN.out.1,if_neg HN.out.2.1,if_neg HN.out.2.2.1,if_neg HN.out.2.2.2,e2,e1];exact cap_one _ _
  ·go_wp2_with fail;go_ret;refine⟨?_,g.below⟩;rw[hm,show k=l.length by omega,df];rfl
end
section
attribute [local go_sem] G.cell
theorem mB:∀(n:Nat) (l:List S119),cu l<=n->Ot.gJ l->Ot.bH l<=1048576->SizeC 114 1099511627776 l:=by
 intro n
 induction n with
 |zero=>intro l h;cases l <;> simp at h <;> omega
 |succ n ih=>
  intro l h hg hb;refine size_walk l (fun x hx=> ?_) fun x hx=> ?_
  ·have h1:=(Ot.dC l).1 hg x hx;have h2:=iA hx;have h3:=aZ x;have h4:=aK x.f2;have h5:=aK x.f3;obtain⟨a,b,c,d,e,f,g,k⟩:=x;rw[Ot.kF]at h1;have h6:=okU_b h1.2.2.2.2.1;have h7:=okU_b h1.2.2.2.2.2.1;exact⟨h6.1,h7.1,h6.2,h7.2,by omega,by omega⟩
  ·have h1:=fe hx;have h2:=(Ot.dC l).1 hg x hx;have h3:=iA hx;have h4:=aZ x;obtain⟨a,b,c,d,e,f,g,k⟩:=x;rw[Ot.kF]at h2;simp only[S119.mk.sizeOf_spec]at h1;exact⟨ih _ (by show cu g<=n;omega) h2.2.2.2.2.2.2.2.2.1 (by show Ot.bH g<=1048576;simp only at h4;omega),ih _ (by show cu k<=n;omega) h2.2.2.2.2.2.2.2.2.2 (by show Ot.bH k<=1048576;simp only at h4;omega)⟩
theorem c71_calls (nm:ByteArray)(wd ln:Int)(ds:List S70)(bd:List S119)(A3:Option Addr)(c3:Nat)(A4:Option Addr)(c4:Nat)(W:World)(hk:cU.C W A4 bd.length bd)(hl4:bd.length<=c4)(hg:Ot.gJ bd)(hbk:Ot.bH bd<=1048576)(b:Bool)(hb:b=decide (dQ bd<=65536)):
 Calls au 201 #[.agg #[.string nm,.int .i64 wd,.int .i64 ln,.slice A3 ds.length c3,.slice A4 bd.length c4]] W fun e w'=>e=.returned (.bool b)/\Below W.heap.size W w':=by
 have gout:=@gA W;have HR:=J hb;clear hb;have HK:=J (aq hk (aq hg hbk));clear hk hg hbk;obtain⟨m,hm⟩:∃m,m=min (dQ bd) 1099511627776:=⟨_,rfl⟩;have HM:=J hm;clear hm;go_enter Tryz.func201,Tryz.ntmps201
 go_upto_region 1 with (fail)
 refine aG ?_;intro gg;go_wp2_with fail;refine(aC (g:=gg) (size_v (mB _ bd (ai _) HK.out.2.1 HK.out.2.2) HM.out A4 c4 gg.W (Kd.aF HK.out.1 (gout gg)) hl4)).mono ?_;rintro _ _ ⟨rfl,gg,rfl⟩
 by_cases h:dQ bd<=65536
 ·have h':(m:Int)<=65536:=by have:=HM.out;omega
  have H:=J h;clear h;go_wp2_with fail;go_ret;exact⟨aA (by rw[HR.out,decide_eq_true H.out]),gout _⟩
 ·have h':¬(m:Int)<=65536:=by have:=HM.out;omega
  have H:=J h;clear h;go_wp2_with fail;go_ret;exact⟨aA (by rw[HR.out,decide_eq_false (show ¬dQ bd<=65536 by have:=H.out;omega)];first | rfl | exact decide_eq_false (by have:=HM.out;have:=H.out;omega)),gout _⟩
theorem c52_calls (nm:ByteArray)(wd ln:Int)(ds:List S70)(bd:List S119)(A3:Option Addr)(c3:Nat)(A4:Option Addr)(c4:Nat)(W:World)(hd:k70.C W A3 ds.length ds)(i:Nat)(hi:i<ds.length)(b:Bool)(hb:b=cL ds i):
 Calls au 182 #[.agg #[.string nm,.int .i64 wd,.int .i64 ln,.slice A3 ds.length c3,.slice A4 bd.length c4],.int .i64 (i:Int)] W fun e w'=>e=.returned (.bool b)/\Below W.heap.size W w':=by
 have gout:=@gA W;have HR:=J hb;clear hb;have hlm:=hd.2.1;obtain⟨adr,A9d,c9d,e1,q0,q1,q2,q3,l9,g9⟩:=d6 hd (i:Int) (bc _) (by omega);cases e1;rw[ax]at q0 q1 q2 q3
 have hi1:(i:Int)<(ds.length:Int):=by omega
 clear hd;go_enter Tryz.func182,Tryz.ntmps182
 go_upto_region 1 with (fail)
 refine aG ?_;intro gg;have r0:∀g:G (gw0 gg),g.W.cell? (adr.add (i*4))=ae (.int .i64 (aJ ds (i:Int)).f0):=fun g=>aM (gout g) q0;have r2:∀g:G (gw0 gg),g.W.cell? ⟨(adr.add (i*4)).block,(adr.add (i*4)).off+2,aj⟩=ae (.int .i64 (aJ ds (i:Int)).f2):=fun g=>aM (gout g) q2;have r3:∀g:G (gw0 gg),g.W.cell? ⟨(adr.add (i*4)).block,(adr.add (i*4)).off+3,aj⟩=ae (.slice A9d (aJ ds (i:Int)).f3.length c9d):=fun g=>aM (gout g) q3;clear q0 q1 q2 q3
 by_cases z:(aJ ds (i:Int)).f2=0
 ·have Z:=J z;go_wp2_with fail;go_ret;exact⟨aA (by rw[HR.out];simp[cL,Z.out]),gout _⟩
 ·have bz:=bn z;have Z:=J z;clear z;go_wp2_with fail
  refine(aC (g:=gg) (gQ (aJ ds (i:Int)).f2 256 gg.W (by decide) (dB (aJ ds (i:Int)).f2) (by
   by_cases h:(aJ ds (i:Int)).f2<=256
   ·rw[decide_eq_true h,Bool.true_and]
   ·rw[decide_eq_false h,Bool.false_and,pow_out (.inr (by omega))]))).mono ?_
  rintro _ _ ⟨rfl,gg,rfl⟩;go_wp2_with fail;go_ret;exact⟨aA (by rw[HR.out];simp[cL,Z.out]),gout _⟩
theorem c53_calls (nm:ByteArray)(wd ln:Int)(ds:List S70)(bd:List S119)(A3:Option Addr)(c3:Nat)(A4:Option Addr)(c4:Nat)(W:World)(hd:k70.C W A3 ds.length ds)(i:Nat)(hi:i<ds.length)(b:Bool)(hb:b=bT ds i):
 Calls au 183 #[.agg #[.string nm,.int .i64 wd,.int .i64 ln,.slice A3 ds.length c3,.slice A4 bd.length c4],.int .i64 (i:Int)] W fun e w'=>e=.returned (.bool b)/\Below W.heap.size W w':=by
 have gout:=@gA W;have HR:=J hb;clear hb;have hlm:=hd.2.1;obtain⟨adr,A9d,c9d,e1,q0,q1,q2,q3,l9,g9⟩:=d6 hd (i:Int) (bc _) (by omega);cases e1;rw[ax]at q0 q1 q2 q3
 have hi1:(i:Int)<(ds.length:Int):=by omega
 clear hd;go_enter Tryz.func183,Tryz.ntmps183
 go_upto_region 1 with (fail)
 refine aG ?_;intro gg;have r0:∀g:G (gw0 gg),g.W.cell? (adr.add (i*4))=ae (.int .i64 (aJ ds (i:Int)).f0):=fun g=>aM (gout g) q0;have r2:∀g:G (gw0 gg),g.W.cell? ⟨(adr.add (i*4)).block,(adr.add (i*4)).off+2,aj⟩=ae (.int .i64 (aJ ds (i:Int)).f2):=fun g=>aM (gout g) q2;have r3:∀g:G (gw0 gg),g.W.cell? ⟨(adr.add (i*4)).block,(adr.add (i*4)).off+3,aj⟩=ae (.slice A9d (aJ ds (i:Int)).f3.length c9d):=fun g=>aM (gout g) q3;clear q0 q1 q2 q3
 by_cases z:(aJ ds (i:Int)).f0=3
 ·have Z:=J z
  have bz:((aJ ds (i:Int)).f0==3)=ac:=by simp[z]
  clear z
  by_cases y:((aJ ds (i:Int)).f3.length:Int)=(aJ ds (i:Int)).f2
  ·have Y:=J y
   have by':(((aJ ds (i:Int)).f3.length:Int) != (aJ ds (i:Int)).f2)=O:=by simpa using y
   clear y;refine aL (g:=gg) (by kernel_rfl) (by kernel_rfl) ?_
   repeat(go_big_quiet_step (fail))
   refine wpQuiet_nil ?_;rintro _ ⟨gg,rfl⟩;go_wp2_with fail;go_ret;exact⟨aA (by rw[HR.out];simp[bT,Y.out]),gout _⟩
  ·have Y:=J y;have by':=bn y;clear y;refine aL (g:=gg) (by kernel_rfl) (by kernel_rfl) ?_
   repeat(go_big_quiet_step (fail))
   refine wpQuiet_nil ?_;rintro _ ⟨gg,rfl⟩;go_wp2_with fail;go_ret;exact⟨aA (by rw[HR.out];simp[bT,Z.out,Y.out]),gout _⟩
 ·have Z:=J z;have bz:=bf z;clear z;refine aL (g:=gg) (by kernel_rfl) (by kernel_rfl) ?_
  repeat(go_big_quiet_step (fail))
  refine wpQuiet_nil ?_;rintro _ ⟨gg,rfl⟩;go_wp2_with fail;go_ret;exact⟨aA (by rw[HR.out];simp[bT,Z.out]),gout _⟩
end
section
attribute [local go_sem] G.cell
attribute [local go_sem] gZ gY j4 jZ fJ fM iG iE
theorem inputs_calls (nm:ByteArray)(wd ln:Int)(ds:List S70)(bd:List S119)(A3:Option Addr)(c3:Nat)(A4:Option Addr)(c4:Nat)(W:World)(hd:k70.C W A3 ds.length ds)(hdl:ds.length<=1048576)(hw:∀d∈ds,d.f2=0\/dB d.f2=ac):
 Calls au 189 #[.agg #[.string nm,.int .i64 wd,.int .i64 ln,.slice A3 ds.length c3,.slice A4 bd.length c4]] W fun e w'=>e=.returned (.int .i64 (cV ds))/\Below W.heap.size W w':=by
 have gout:=@gA W;have HD:=J hd;have HW:=J hw;have HL:=J hdl;have hlm:=hd.2.1;clear hd hw hdl;go_enter Tryz.func189,Tryz.ntmps189
 go_upto_region 2 with (fail)
 refine aG ?_;intro gg;have goutW:∀(g:G (gw0 gg)),Below W.heap.size W g.W:=fun g=>gout g;go_wp2_with fail
 go_loopw [9,3] (fun i n X=>∃(k:Nat) (m:Int) (g:G (gw0 gg)),i=.int .i64 k/\n=.int .i64 m/\X=g.W/\k<=ds.length/\Aside0 (m=cV (ds.take k)/\0<=m/\m<=256*(k:Int))) (fun i _ _=>ds.length - (intOf i).toNat)
 case atStart=>exact⟨0,0,gg,rfl,rfl,rfl,br _,⟨by simp[cV],by omega,by omega⟩⟩
 case round=>
  obtain⟨k,m,gx,rfl,rfl,rfl,hk,HK⟩:=hrel
  by_cases hlt:k<ds.length
  ·obtain⟨adr,A9d,c9d,e1,q0,q1,q2,q3,l9,g9⟩:=d6 HD.out (k:Int) (bc _) (by omega);cases e1;rw[ax]at q0 q1 q2 q3;replace q0:=aM (goutW gx) q0;replace q1:=aM (goutW gx) q1;replace q2:=aM (goutW gx) q2;replace q3:=aM (goutW gx) q3;clear l9 g9
   have hi1:(k:Int)<(ds.length:Int):=by omega
   have T:=J (congrArg cV (eX hlt));have WL:=J (aq (words_le (HW.out _ (iH hlt))) (HW.out _ (iH hlt)))
   go_upto_region 5 with (fail)
   refine aG ?_;intro g2;have goutX:∀(g:G (gw0 g2)),Below (gw0 gg).heap.size (gw0 gg) g.W:=fun g=>(gx.below.alloc gx.below.size _).trans (g.below.mono (bg gx.below.size (by simp[gw0])));have KS:=J (show ∀z,z=cV (ds.take k)+(if isIn (aJ ds (k:Int))=ac then gN (aJ ds (k:Int))else 0)->z=cV (ds.take (k+1)) from fun z hz=>by have h:=T.out;rw[wordsS_add]at h;rw[h,hz])
   have HV:=J (show wrap64 (m+if(aJ ds (k:Int)).f2<1 then 1 else(aJ ds (k:Int)).f2)=m+gN (aJ ds (k:Int)) by
    have h1:=WL.out.1;have h2:=WL.out.2;have h3:=HK.out;have h4:=HL.out
    have e:(if(aJ ds (k:Int)).f2<1 then 1 else(aJ ds (k:Int)).f2)=gN (aJ ds (k:Int)):=by
     unfold gN
     rcases h2 with h2 | h2
     ·rw[h2];rfl
     ·have h5:=pow2_le h2;rw[if_neg (by omega),if_neg (by omega)]
    rw[e]
    exact wrap_id (by omega) (by omega))
   by_cases f1:(aJ ds (k:Int)).f0=1
   ·have b1:((aJ ds (k:Int)).f0==1)=ac:=by simp[f1]
    have FF:=J f1;clear f1;go_wp2_with fail;refine⟨⟨k+1,m+gN (aJ ds (k:Int)),mkG (goutX g2),by go_num,by rw[HV.out],rfl,by omega,⟨KS.out _ (by rw[HK.out.1,if_pos (by simp[isIn,FF.out])]),by have h1:=HK.out;have h2:=WL.out.1;omega,by have h1:=HK.out;have h2:=WL.out.1;omega⟩⟩,by simp[intOf];omega⟩
   ·have b1:=bf f1
    by_cases f2:(aJ ds (k:Int)).f0=2
    ·have b2:((aJ ds (k:Int)).f0==2)=ac:=by simp[f2]
     have FF:=J f2;clear f1 f2;go_wp2_with fail;refine⟨⟨k+1,m+gN (aJ ds (k:Int)),mkG (goutX g2),by go_num,by rw[HV.out],rfl,by omega,⟨KS.out _ (by rw[HK.out.1,if_pos (by simp[isIn,FF.out])]),by have h1:=HK.out;have h2:=WL.out.1;omega,by have h1:=HK.out;have h2:=WL.out.1;omega⟩⟩,by simp[intOf];omega⟩
    ·have b2:=bf f2;have FF:=J (aq f1 f2);clear f1 f2;go_wp2_with fail;refine⟨⟨k+1,m,mkG (goutX g2),by go_num,rfl,rfl,by omega,⟨KS.out _ (by rw[HK.out.1,if_neg (by simp[isIn,FF.out.1,FF.out.2])];simp),by have h1:=HK.out;omega,by have h1:=HK.out;omega⟩⟩,by simp[intOf];omega⟩
  ·have hi1:¬(k:Int)<(ds.length:Int):=by omega
   have M9:=J (show m=cV ds by have h:=HK.out.1;rw[show k=ds.length by omega,df]at h;exact h);go_wp2_with fail;go_ret;exact⟨by rw[←M9.out];rfl,goutW _⟩
theorem c58_calls (nm:ByteArray)(wd ln:Int)(ds:List S70)(bd:List S119)(A3:Option Addr)(c3:Nat)(A4:Option Addr)(c4:Nat)(W:World)(hd:k70.C W A3 ds.length ds)(hdl:ds.length<=1048576)(hw:∀d∈ds,d.f2=0\/dB d.f2=ac)(b:Bool)(hb:b=decide (cV ds<=4096)):
 Calls au 188 #[.agg #[.string nm,.int .i64 wd,.int .i64 ln,.slice A3 ds.length c3,.slice A4 bd.length c4]] W fun e w'=>e=.returned (.bool b)/\Below W.heap.size W w':=by
 have gout:=@gA W;have HR:=J hb;have HD:=J (aq hd (aq hdl hw));clear hb hd hdl hw;go_enter Tryz.func188,Tryz.ntmps188
 go_upto_region 1 with (fail)
 refine aG ?_;intro gg;go_wp2_with fail;refine(aC (g:=gg) (inputs_calls nm wd ln ds bd A3 c3 A4 c4 gg.W (Kd.aF HD.out.1 (gout gg)) HD.out.2.1 HD.out.2.2)).mono ?_;rintro _ _ ⟨rfl,gg,rfl⟩;go_wp2_with fail;go_ret;exact⟨aA (by rw[HR.out]),gout _⟩
end
section
attribute [local go_sem] G.cell
theorem find_qi {A3:Option Addr}{ds:List S70}{s:ByteArray}{q:Option Addr}(hq:qOf A3 ds s=q){k:Nat}(hk:k=ds.length)(nm:ByteArray)(wd ln:Int)(c3:Nat)(A4:Option Addr)(n4 c4:Nat)(w:World)(hd:k70.C w A3 ds.length ds)(hld:ds.length<=c3):
 Calls au 181 #[.agg #[.string nm,.int .i64 wd,.int .i64 ln,.slice A3 k c3,.slice A4 n4 c4],.string s] w fun e w'=>e=.returned (.pointer q)/\Below w.heap.size w w':=by
 subst hk;exact hq ▸ find_q nm wd ln ds A3 c3 A4 n4 c4 s w hd hld
theorem twice_find (ds:List S70)(i:Nat)(hi:i<ds.length):d8 ds i=(dH (ds.take i) (aJ ds (i:Int)).f1).isSome:=by
 unfold d8 dH
 have hl:(ds.take i).length=i:=by simp;omega
 rw[hl]
 congr 1
 refine firstN_congr fun j hj=> ?_
 have e:aJ (ds.take i) (j:Int)=aJ ds (j:Int):=by
  unfold aJ;rw[ax,aw,aw,List.getElem?_take,if_pos hj]
 rw[e]
theorem c50_calls (nm:ByteArray)(wd ln:Int)(ds:List S70)(bd:List S119)(A3:Option Addr)(c3:Nat)(A4:Option Addr)(c4:Nat)(W:World)(hd:k70.C W A3 ds.length ds)(hld:ds.length<=c3)(i:Nat)(hi:i<ds.length)(b:Bool)(hb:b=d8 ds i):
 Calls au 180 #[.agg #[.string nm,.int .i64 wd,.int .i64 ln,.slice A3 ds.length c3,.slice A4 bd.length c4],.int .i64 (i:Int)] W fun e w'=>e=.returned (.bool b)/\Below W.heap.size W w':=by
 have gout:=@gA W;have HR:=J (hb.trans (twice_find ds i hi));clear hb;have hlm:=hd.2.1;have HTK:=J (Kd.C_take hd (show i<=ds.length by omega));have HLC:=J (show(ds.take i).length<=c3 by simp;omega);obtain⟨adr,A9d,c9d,e1,q0,q1,q2,q3,l9,g9⟩:=d6 hd (i:Int) (bc _) (by omega);cases e1;rw[ax]at q1
 have hi1:(i:Int)<(ds.length:Int):=by omega
 have hi2:(i:Int)<=(c3:Int):=by omega
 have HD:=J hd
 have hsl:∀X:World,(Instr.slice 22 (.slice (ae adr) ds.length c3) aj (ae (.int .i64 (i:Int))) aj).run au X=.ok (.slice (ae adr) i c3) X:=by
  intro X;go_simp
  try simp
 clear hd q0 q2 q3 l9 g9;go_enter Tryz.func180,Tryz.ntmps180
 go_upto_region 1 with (fail)
 refine aG ?_;intro gg;have r1:∀g:G (gw0 gg),g.W.cell? ⟨(adr.add (i*4)).block,(adr.add (i*4)).off+1,aj⟩=ae (.string (aJ ds (i:Int)).f1):=fun g=>aM (gout g) q1;clear q1
 rcases aH ((dH (ds.take i) (aJ ds (i:Int)).f1).isNone)with hn | hn
 ·have hq:=qOf_none (A3:=ae adr) hn;have HN:=J (show(dH (ds.take i) (aJ ds (i:Int)).f1).isSome=O by cases hf:dH (ds.take i) (aJ ds (i:Int)).f1 with | none=>rfl | some j=>rw[hf]at hn;cases hn);have HQ:=J hq;clear hn hq;refine aL (g:=gg) (by kernel_rfl) (by kernel_rfl) ?_
  repeat(go_big_quiet_step (fail))
  go_big_quiet_step (first | (go_at_call 181;exact aC (find_qi HQ.out (by simp;omega) _ _ _ _ _ _ _ _ (Kd.aF HTK.out (gout _)) HLC.out)))
  repeat(go_big_quiet_step (fail))
  refine wpQuiet_nil ?_;rintro _ ⟨gg,rfl⟩;go_wp2_with fail;go_ret;exact⟨aA (by rw[HR.out,HN.out]),gout _⟩
 ·obtain⟨qa,hq⟩:=qOf_some HTK.out hn;have HN:=J (show(dH (ds.take i) (aJ ds (i:Int)).f1).isSome=ac by cases hf:dH (ds.take i) (aJ ds (i:Int)).f1 with | none=>rw[hf]at hn;cases hn | some j=>rfl);have HQ:=J hq;clear hn hq;refine aL (g:=gg) (by kernel_rfl) (by kernel_rfl) ?_
  repeat(go_big_quiet_step (fail))
  go_big_quiet_step (first | (go_at_call 181;exact aC (find_qi HQ.out (by simp;omega) _ _ _ _ _ _ _ _ (Kd.aF HTK.out (gout _)) HLC.out)))
  repeat(go_big_quiet_step (fail))
  refine wpQuiet_nil ?_;rintro _ ⟨gg,rfl⟩;go_wp2_with fail;go_ret;exact⟨aA (by rw[HR.out,HN.out]),gout _⟩
end
section
attribute [local go_sem] G.cell
theorem neg_calls (wd x:Int)(bp:Nat)(W:World)(hc:W.cell? ⟨bp,1,aj⟩=ae (.int .i64 wd))(h0:0<=wd)(hx:0<=x)(b:Bool)(hb:iJ wd x=b):
 Calls au 186 #[.int .u64 x,.pointer (ae ⟨bp,0,aj⟩)] W fun e w'=>e=.returned (.bool (!b))/\Below W.heap.size W w':=by
 go_enter Tryz.func186,Tryz.ntmps186
 go_upto_region 1 with (fail)
 refine aG ?_;intro gg;have hc2:=aM gg.below hc;clear hc;go_wp2_with fail;refine(aC (g:=gg) (iP wd x gg.W h0 hx b hb)).mono ?_;rintro _ _ ⟨rfl,gg,rfl⟩;go_wp2_with fail;go_ret;exact⟨rfl,gg.below⟩
def indexS (wd:Int)(l:List Int):Int:=match aU l.length (fun j=> !iJ wd (l.getD j 0))with
 |some i=>(i:Int)
 |none=> -1
theorem index_calls (wd:Int)(l:List Int)(bp:Nat)(A:Option Addr)(c:Nat)(W:World)(hc:W.cell? ⟨bp,1,aj⟩=ae (.int .i64 wd))(h0:0<=wd)(hx:∀v∈l,0<=v)(hl:(Kd.int .u64).C W A l.length l)(hlc:l.length<=c)(r:Int)(hr:r=indexS wd l):
 Calls au 248 #[.slice A l.length c,.func (.func 186) #[] #[.pointer (ae ⟨bp,0,aj⟩)]] W fun e w'=>e=.returned (.int .i64 r)/\Below W.heap.size W w':=by
 have HC:=J hc;have HX:=J hx;have HL:=J hl;have HR:=J hr;have hlm:=hl.2.1;clear hc hx hl hr;go_enter Tryz.func248,Tryz.ntmps248;go_wp2_with fail
 go_loopw [8] (fun i X=>∃(k:Nat) (g:G W),i=.int .i64 k/\X=g.W/\k<=l.length/\Aside0 (∀j,j<k->(!iJ wd (l.getD j 0))=O)) (fun i _=>l.length - (intOf i).toNat)
 case atStart=>exact⟨0,⟨W,ak _ _⟩,rfl,rfl,br _,⟨fun j hj=>absurd hj (dn _)⟩⟩
 case round=>
  obtain⟨k,gx,rfl,rfl,hk,HK⟩:=hrel
  by_cases hlt:k<l.length
  ·obtain⟨adv,cs9,eA,ec9,eK9,hc9⟩:=Kd.C_get (d:=Kd.int .u64) HL.out (0:Int) (k:Int) (bc _) (by omega);cases eA;have eK9':cs9=[.int .u64 (l.getD (k:Int).toNat 0)]:=eK9;subst eK9';have s0:=hc9 0 _ rfl;rw[ax]at s0;clear hc9 eK9 ec9;replace s0:=aM gx.below s0;have t0:gx.W.cell? (adv.add (k*1+0))=ae (.int .u64 (l.getD k 0)):=s0;simp only[Nat.mul_one,fg]at t0;clear s0
   have hk1:(k:Int)<(l.length:Int):=by omega
   have hv:=J (HX.out _ (getD_mem hlt));obtain⟨z,hz⟩:∃z,l.getD k 0=z:=⟨_,rfl⟩;rw[hz]at hv t0;have HZ:=J hz;clear hz;go_wp2_with fail
   rcases aH (iJ wd z)with hf | hf
   ·have HF:=J hf;clear hf;refine(aC (g:=gx) (neg_calls wd z bp gx.W (aM gx.below HC.out) h0 hv.out ac HF.out)).mono ?_;rintro _ _ ⟨rfl,g2,rfl⟩;go_wp2_with fail;exact⟨⟨k+1,g2,by go_num,rfl,by omega,⟨fun j hj=>(Decidable.em (j=k)).elim (fun h=>by rw[h,HZ.out,HF.out];rfl) (fun h=>HK.out j (by omega))⟩⟩,by simp[intOf];omega⟩
   ·have HF:=J hf;clear hf;refine(aC (g:=gx) (neg_calls wd z bp gx.W (aM gx.below HC.out) h0 hv.out O HF.out)).mono ?_;rintro _ _ ⟨rfl,g2,rfl⟩;go_wp2_with fail;go_ret
    have e:r=(k:Int):=by rw[HR.out];unfold indexS;rw[cZ hlt (by rw[HZ.out,HF.out];rfl) HK.out]
    exact⟨by rw[e];rfl,g2.below⟩
  ·have hk1:¬(k:Int)<(l.length:Int):=by omega
   go_wp2_with fail;go_ret
   have e:r= -1:=by rw[HR.out];unfold indexS;rw[cW fun j hj=>HK.out j (by omega)]
   exact⟨by rw[e];rfl,gx.below⟩
theorem index_any (wd:Int)(l:List Int):decide (0<=indexS wd l)=l.any (fun v=> !iJ wd v):=by
 unfold indexS
 rcases fA l.length (fun j=> !iJ wd (l.getD j 0))with ⟨h1,h2⟩ | ⟨i,h0,h1,h2,_⟩
 ·rw[h1]
  symm
  rw[show decide ((0:Int)<= -1)=O by decide,List.any_eq_false];intro v hv;obtain⟨j,hj,rfl⟩:=ef hv;have:=h2 j hj;simp only[aw,av hj]at this
  simpa using this
 ·rw[h1]
  symm
  rw[show decide ((0:Int)<=(i:Int))=ac by simp,List.any_eq_true];exact⟨_,getD_mem h0,h2⟩
theorem contains_calls (wd:Int)(l:List Int)(bp:Nat)(A:Option Addr)(c:Nat)(W:World)(hc:W.cell? ⟨bp,1,aj⟩=ae (.int .i64 wd))(h0:0<=wd)(hx:∀v∈l,0<=v)(hl:(Kd.int .u64).C W A l.length l)(hlc:l.length<=c)(b:Bool)(hb:b=l.any (fun v=> !iJ wd v)):
 Calls au 185 #[.slice A l.length c,.func (.func 186) #[] #[.pointer (ae ⟨bp,0,aj⟩)]] W fun e w'=>e=.returned (.bool b)/\Below W.heap.size W w':=by
 have H:=J (aq hc (aq hx hl));obtain⟨r,hr⟩:∃r,r=indexS wd l:=⟨_,rfl⟩;have HR:=J hr;have HB:=J (hb.trans (index_any wd l).symm);clear hc hx hl hr hb;go_enter Tryz.func185,Tryz.ntmps185
 go_upto_region 1 with (fail)
 refine aG ?_;intro gg;go_wp2_with fail;refine(aC (g:=gg) (index_calls wd l bp A c gg.W (aM gg.below H.out.1) h0 H.out.2.1 (Kd.aF H.out.2.2 gg.below) hlc r HR.out)).mono ?_;rintro _ _ ⟨rfl,gg,rfl⟩
 rcases dq r 0 with hn | hn
 ·have hn':¬r ≥ 0:=by omega
  have HN:=J hn;go_wp2_with fail;go_ret;exact⟨aA (by rw[HB.out,←HR.out] <;> (symm;exact decide_eq_false (by have:=HN.out;omega))),gg.below⟩
 ·have hn':r ≥ 0:=hn;have HN:=J hn;go_wp2_with fail;go_ret;exact⟨aA (by rw[HB.out,←HR.out] <;> (symm;exact decide_eq_true HN.out)),gg.below⟩
theorem c54_calls (nm:ByteArray)(wd ln:Int)(ds:List S70)(bd:List S119)(A3:Option Addr)(c3:Nat)(A4:Option Addr)(c4:Nat)(W:World)(hd:k70.C W A3 ds.length ds)(h0:0<=wd)(hv:∀d∈ds,∀v∈d.f3,0<=v)(i:Nat)(hi:i<ds.length)(b:Bool)(hb:b=dF wd ds i):
 Calls au 184 #[.agg #[.string nm,.int .i64 wd,.int .i64 ln,.slice A3 ds.length c3,.slice A4 bd.length c4],.int .i64 (i:Int)] W fun e w'=>e=.returned (.bool b)/\Below W.heap.size W w':=by
 have hmf:∀(fn:Fn) (first cap:Array Value) (w:World),(Instr.makeFunc fn first cap).run au w=.ok (.func fn first cap) w:=fun _ _ _ _=>rfl;have gout:=@gA W;have HR:=J hb;have HV:=J (hv _ (iH hi));have hlm:=hd.2.1;obtain⟨adr,A9d,c9d,e1,q0,q1,q2,q3,l9,g9⟩:=d6 hd (i:Int) (bc _) (by omega);cases e1;rw[ax]at q3
 have hi1:(i:Int)<(ds.length:Int):=by omega
 have VAL:=J (aq l9 g9);clear hb hv hd q0 q1 q2 l9 g9;go_enter Tryz.func184,Tryz.ntmps184
 go_upto_region 1 with (fail)
 refine aG ?_;intro gg;have r3:=aM (gout gg) q3;have x1:=J (show gg.W.cell? ⟨W.heap.size,1,aj⟩=ae (.int .i64 wd) from(gg.below.cell (p:=⟨W.heap.size,1,aj⟩) (by simp)).trans (by simp[go_sem]));clear q3;go_wp2_with fail;refine(aC (g:=gg) (contains_calls wd (aJ ds (i:Int)).f3 W.heap.size A9d c9d gg.W x1.out h0 HV.out (Kd.aF VAL.out.2 (gout gg)) VAL.out.1 b HR.out)).mono ?_;rintro _ _ ⟨rfl,gg,rfl⟩;go_wp2_with fail;go_ret;exact⟨rfl,gout _⟩
end
end Go.Proofs.YtfigjpehecibeaaGreat.L
