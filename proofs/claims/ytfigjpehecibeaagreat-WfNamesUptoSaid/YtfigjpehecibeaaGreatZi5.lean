/- Texts joined by a program of mine: Up Ue Uf Ug Uh Uq Ur Uv Fa Fb Fc Fd Fe Pm Pr Rc Sb Se Ff Fg. -/
import Derived.Test.YtfigjpehecibeaaGreatProg
import Derived.Laws.CopyOwn
import Derived.Deep.RegionLaw
import Derived.Deep.RegionHeld3
import Derived.WalkKit
import Derived.WalkSpells
import Derived.Maps.OwnOps
import Derived.Maps.OwnSet
import Derived.Maps.Views
import Derived.StringKeys
import Derived.Laws.StructEq
import Derived.Test.YtfigjpehecibeaaGreatZi0
import Derived.Test.YtfigjpehecibeaaGreatZi2
import Derived.Test.YtfigjpehecibeaaGreatZi3
import Derived.Test.YtfigjpehecibeaaGreatZi4
set_option maxRecDepth 100000
open And renaming intro -> aq
open Bool renaming false -> O, true -> ac, and_eq_true -> dg, true_eq_false -> cx
open ByteArray renaming empty -> ba
open Go.Act renaming put -> ay
open Go.Proofs.Tryz renaming prog -> au
open Go.Proofs.YtfigjpehecibeaaGreatW.PrintWords.Aside0 renaming mk -> J
open Go.RowKit.Below renaming refl -> ak, heap_setCell -> cy, heap_alloc -> dr
open Go.World renaming setCell -> fo
open Int renaming toNat_natCast -> ax, natCast_nonneg -> bc
open List renaming mem_cons -> cg, mem_append -> bo, getElem_of_mem -> ef, getD_eq_getElem?_getD -> aw, getElem?_eq_getElem -> av, setIfInBounds_toArray -> aa, set_cons_zero -> af, set_cons_succ -> ag, length_append -> ar, take_length -> df, length_singleton -> az, append_assoc -> bh, sizeOf_lt_of_mem -> fe, range -> cr, getElem?_append_left -> fu
open Nat renaming le_refl -> ai, add_zero -> fg, not_lt -> gf, le_trans -> bg, zero_le -> br, not_lt_zero -> dn, lt_of_lt_of_le -> ee, add_assoc -> db
open Option renaming some -> ae, none -> aj
open Or renaming inl -> bi
open SizeOf renaming sizeOf -> cu
set_option linter.unusedVariables false
set_option linter.unusedSimpArgs false
set_option maxHeartbeats 8000000
namespace Go.Proofs.YtfigjpehecibeaaGreat.L
open Go.RowKit Go.Proofs.YtfigjpehecibeaaGreatW.PrintWords Go.Proofs.YtfigjpehecibeaaGreatW.PrintLast Go.Proofs.YtfigjpehecibeaaGreatW.PrintMore Go.Proofs.YtfigjpehecibeaaGreat.Gr
theorem gV:∀(L:List Obj) (W:World),Below W.heap.size W (L.foldl World.alloc W)
 | [],W=>ak _ _
 |o::r,W=>((ak _ _).alloc (ai _) o).trans ((gV r (W.alloc o)).mono (by simp))
theorem iS:∀(L:List Obj) (W:World) (i:Nat),i<L.length->(L.foldl World.alloc W).heap[W.heap.size+i]? =L[i]?
 | [],_,_,h=>by simp at h
 |o::r,W,0,_=>by
  rw[List.foldl_cons,fg,(gV r (W.alloc o)).block W.heap.size (by simp)];exact bR W o
 |o::r,W,i+1,h=>by
  have e:=iS r (W.alloc o) i (by simpa using h)
  have hs:(W.alloc o).heap.size=W.heap.size+1:=by simp
  rw[hs]at e;rw[List.foldl_cons,show W.heap.size+(i+1)=W.heap.size+1+i by omega]
  simpa using e
def clL (b:Nat):List Obj:=[.cells #[.func (.func 75) #[] #[]] 33,.cells #[.func (.func 175) #[] #[]] 33,.cells #[.func (.func 177) #[] #[]] 33,.cells #[.func (.func 178) #[] #[]] 33,.cells #[.func (.func 180) #[] #[]] 55,.cells #[.func (.func 182) #[] #[]] 55,.cells #[.func (.func 183) #[] #[]] 55,.cells #[.func (.func 184) #[] #[]] 55,.cells #[.func (.func 188) #[] #[]] 33,.cells #[.func (.func 191) #[] #[]] 240,.cells #[.func (.func 193) #[] #[]] 240,.cells #[.func (.func 196) #[] #[]] 240,.cells #[.func (.func 198) #[] #[]] 240,.cells #[.func (.func 199) #[] #[]] 240,.cells #[.func (.func 200) #[] #[]] 240,.cells #[.func (.func 201) #[] #[]] 33,.cells #[.int .i64 1,.func (.func 246) #[] #[.pointer (ae ⟨b+0,0,aj⟩)],.int .i64 5,.func (.func 246) #[] #[.pointer (ae ⟨b+1,0,aj⟩)],.int .i64 163,.func (.func 246) #[] #[.pointer (ae ⟨b+2,0,aj⟩)],.int .i64 4,.func (.func 246) #[] #[.pointer (ae ⟨b+3,0,aj⟩)],.int .i64 160,.func (.func 247) #[] #[.pointer (ae ⟨b+4,0,aj⟩)],.int .i64 163,.func (.func 247) #[] #[.pointer (ae ⟨b+5,0,aj⟩)],.int .i64 164,.func (.func 247) #[] #[.pointer (ae ⟨b+6,0,aj⟩)],.int .i64 165,.func (.func 247) #[] #[.pointer (ae ⟨b+7,0,aj⟩)],.int .i64 169,.func (.func 246) #[] #[.pointer (ae ⟨b+8,0,aj⟩)],.int .i64 152,.func (.func 249) #[] #[.pointer (ae ⟨b+9,0,aj⟩)],.int .i64 161,.func (.func 249) #[] #[.pointer (ae ⟨b+10,0,aj⟩)],.int .i64 162,.func (.func 249) #[] #[.pointer (ae ⟨b+11,0,aj⟩)],.int .i64 165,.func (.func 249) #[] #[.pointer (ae ⟨b+12,0,aj⟩)],.int .i64 166,.func (.func 249) #[] #[.pointer (ae ⟨b+13,0,aj⟩)],.int .i64 167,.func (.func 249) #[] #[.pointer (ae ⟨b+14,0,aj⟩)],.int .i64 168,.func (.func 246) #[] #[.pointer (ae ⟨b+15,0,aj⟩)]] 190]
theorem clauses_calls (W:World):Calls au 128 #[] W fun e w'=>e=.returned (.slice (ae ⟨W.heap.size+16,0,aj⟩) 16 16)/\w'=(clL W.heap.size).foldl World.alloc W:=by
 have hmf:∀(fn:Fn) (first cap:Array Value) (w:World),(Instr.makeFunc fn first cap).run au w=.ok (.func fn first cap) w:=fun _ _ _ _=>rfl;go_enter Tryz.func128,Tryz.ntmps128
 go_wp2
 go_ret;exact⟨rfl,rfl⟩
section
attribute [local go_sem] G.cell
theorem cl12_calls {Wb:World}(nm:ByteArray)(wd ln:Int)(ds:List S70)(bd:List S119)(A3:Option Addr)(c3:Nat)(A4:Option Addr)(c4:Nat)(hp:ProgAt Wb ds bd A3 c3 A4 c4)(hd0:∀d∈ds,0<=d.f2)(W:World)(n:Nat)(dp sp ep:Value)(dI:Int)(lp:Value)(t:Th)(hR:RT t)(hB:Below Wb.heap.size Wb W)(ht:ThP Wb W dp sp ep dI lp t)(h11:bad11 ds t=O)(b:Bool)(hb:b=bad12 ds t):
 Calls au 196 #[.agg #[.string nm,.int .i64 wd,.int .i64 ln,.slice A3 ds.length c3,.slice A4 bd.length c4],.agg #[.int .i64 n,dp,sp,ep,.int .i64 dI,lp]] W fun e w'=>e=.returned (.bool b)/\Below W.heap.size W w':=by
 have gout:∀{o o':Obj} (g:G ((W.alloc o).alloc o')),Below W.heap.size W g.W:=fun g=>(((ak _ _).alloc (ai _) _).alloc (by simp) _).trans (g.below.mono (by simp;omega));have HB:=J hB;have HP:=J hp;have HR:=J hb;have HT:=J ht;have HRT:=J hR;clear hb hB hp hR;go_enter Tryz.func196,Tryz.ntmps196
 go_upto_region 1 with (fail)
 refine aG ?_;intro gg;have goutW:∀(g:G (gw0 gg)),Below W.heap.size W g.W:=fun g=>gout g;have goutB:∀(g:G (gw0 gg)),Below Wb.heap.size Wb g.W:=fun g=>HB.out.trans ((goutW g).mono HB.out.size);clear ht;obtain⟨r1,h1⟩:∃r,r=(jX t).getD ⟨#[]⟩:=⟨_,rfl⟩;obtain⟨r2,h2⟩:∃r,r=(jX t).isSome:=⟨_,rfl⟩;have HU:=J (show(r1,r2)=((jX t).getD ⟨#[]⟩,(jX t).isSome) by rw[h1,h2]);have HV:=J (aq h1 h2);have H11:=J h11;have HD:=J hd0;clear h1 h2 h11 hd0;go_wp2_with fail;refine(aC (g:=gg) (use_calls gg.W n dp sp ep dI lp t HRT.out (goutB gg) (HT.out.below (goutW gg)) r1 r2 HU.out)).mono ?_;rintro _ _ ⟨rfl,gg,rfl⟩
 cases hu:jX t with
 |none=>
  have e2:r2=O:=by rw[HV.out.2,hu];rfl
  have HE:=J (show b=O by rw[HR.out];unfold bad12;rw[hu]);clear hu;subst e2;go_wp2_with fail;go_ret;exact⟨aA HE.out.symm,goutW _⟩
 |some s=>
  have e2:r2=ac:=by rw[HV.out.2,hu];rfl
  have e1:r1=s:=by rw[HV.out.1,hu];rfl
  have HE:=J (show b= !kindB ds t s by rw[HR.out];unfold bad12;rw[hu]);have HUS:=J hu
  have KN:=J (show kM (gT t) s=ac\/∃i,dH ds s=ae i by
   have h:=H11.out;unfold bad11 at h;rw[hu]at h;simp only[Bool.and_eq_false_iff,Bool.not_eq_false']at h
   rcases h with h | h
   ·exact .inl h
   ·cases hf:dH ds s with
    |none=>rw[hf]at h;cases h
    |some i=>exact .inr ⟨i,rfl⟩)
  clear hu;subst e2 e1;obtain⟨kb,hkb⟩:∃z,z=kindB ds t r1:=⟨_,rfl⟩;have HKB:=J hkb;clear hkb;go_wp2_with fail;refine(aC (g:=gg) (wkind_calls nm wd ln ds bd A3 c3 A4 c4 HP.out HD.out gg.W n dp sp ep dI lp t HRT.out (goutB gg) (HT.out.below (goutW gg)) r1 HUS.out KN.out kb HKB.out)).mono ?_;rintro _ _ ⟨rfl,gg,rfl⟩;go_wp2_with fail;go_ret;exact⟨aA (by rw[HE.out,←HKB.out]),goutW _⟩
end
section
attribute [local go_sem] G.cell
theorem cl13_calls {Wb:World}(nm:ByteArray)(wd ln:Int)(ds:List S70)(bd:List S119)(A3:Option Addr)(c3:Nat)(A4:Option Addr)(c4:Nat)(hp:ProgAt Wb ds bd A3 c3 A4 c4)(hw:0<=wd)(W:World)(n:Nat)(dp sp ep:Value)(dI:Int)(lp:Value)(t:Th)(hR:RT t)(hB:Below Wb.heap.size Wb W)(ht:ThP Wb W dp sp ep dI lp t)(b:Bool)(hb:b=bad13 wd t):
 Calls au 198 #[.agg #[.string nm,.int .i64 wd,.int .i64 ln,.slice A3 ds.length c3,.slice A4 bd.length c4],.agg #[.int .i64 n,dp,sp,ep,.int .i64 dI,lp]] W fun e w'=>e=.returned (.bool b)/\Below W.heap.size W w':=by
 have gout:∀{o o':Obj} (g:G ((W.alloc o).alloc o')),Below W.heap.size W g.W:=fun g=>(((ak _ _).alloc (ai _) _).alloc (by simp) _).trans (g.below.mono (by simp;omega));have HB:=J hB;have HP:=J hp;have HR:=J hb;have HT:=J ht;have HRT:=J hR;clear hb hB hp hR;go_enter Tryz.func198,Tryz.ntmps198
 go_upto_region 1 with (fail)
 refine aG ?_;intro gg;have goutW:∀(g:G (gw0 gg)),Below W.heap.size W g.W:=fun g=>gout g;have goutB:∀(g:G (gw0 gg)),Below Wb.heap.size Wb g.W:=fun g=>HB.out.trans ((goutW g).mono HB.out.size)
 cases t with
 |decl i=>
  obtain⟨⟨a,rfl⟩,rfl,rfl,rfl,rfl⟩:=ht
  go_upto_region 1 with (fail)
  refine aL (g:=gg) (by kernel_rfl) (by kernel_rfl) ?_
  repeat(go_big_quiet_step (fail))
  refine wpQuiet_nil ?_;rintro _ ⟨gg,rfl⟩;go_wp2_with fail;go_ret;exact⟨aA (by rw[HR.out];rfl),goutW _⟩
 |stmt s d lo=>
  obtain⟨rfl,⟨a,A5,c5,A9,c9,A12,c12,A13,c13,rfl,hr,_⟩,rfl,rfl,hsc⟩:=ht;clear hr hsc
  go_upto_region 1 with (fail)
  refine aL (g:=gg) (by kernel_rfl) (by kernel_rfl) ?_
  repeat(go_big_quiet_step (fail))
  refine wpQuiet_nil ?_;rintro _ ⟨gg,rfl⟩;go_wp2_with fail;go_ret;exact⟨aA (by rw[HR.out];rfl),goutW _⟩
 |expr x lo=>
  obtain⟨rfl,rfl,⟨a,A,c,rfl,hr,_⟩,rfl,hsc⟩:=ht;have q0:∀g:G (gw0 gg),g.W.cell? ⟨a.block,a.off,aj⟩=ae (.int .i64 x.f0):=fun g=>aM (goutB g) (by have:=hr 0 _ rfl;rwa [fg]at this);have q1:∀g:G (gw0 gg),g.W.cell? ⟨a.block,a.off+1,aj⟩=ae (.int .u64 x.f1):=fun g=>aM (goutB g) (hr 1 _ rfl);clear hr hsc
  by_cases k:x.f0=1
  ·have K:=J k;rw[k]at q0;clear k
   rcases aH (iJ wd x.f1)with hf | hf
   ·have HF:=J hf;clear hf
    go_upto_region 1 with (fail)
    refine aL (g:=gg) (by kernel_rfl) (by kernel_rfl) ?_
    repeat(go_big_quiet_step (fail))
    go_big_quiet_step (first | (go_at_call 187;exact aC (iP wd x.f1 _ hw HRT.out.1 _ HF.out)))
    repeat(go_big_quiet_step (fail))
    refine wpQuiet_nil ?_;rintro _ ⟨gg,rfl⟩;go_wp2_with fail;go_ret;exact⟨aA (by rw[HR.out];simp[bad13,K.out,HF.out]),goutW _⟩
   ·have HF:=J hf;clear hf
    go_upto_region 1 with (fail)
    refine aL (g:=gg) (by kernel_rfl) (by kernel_rfl) ?_
    repeat(go_big_quiet_step (fail))
    go_big_quiet_step (first | (go_at_call 187;exact aC (iP wd x.f1 _ hw HRT.out.1 _ HF.out)))
    repeat(go_big_quiet_step (fail))
    refine wpQuiet_nil ?_;rintro _ ⟨gg,rfl⟩;go_wp2_with fail;go_ret;exact⟨aA (by rw[HR.out];simp[bad13,K.out,HF.out]),goutW _⟩
  ·have K:=J k;have b1:=bf k;clear k
   go_upto_region 1 with (fail)
   refine aL (g:=gg) (by kernel_rfl) (by kernel_rfl) ?_
   repeat(go_big_quiet_step (fail))
   refine wpQuiet_nil ?_;rintro _ ⟨gg,rfl⟩;go_wp2_with fail;go_ret;exact⟨aA (by rw[HR.out];simp[bad13,K.out]),goutW _⟩
end
section
attribute [local go_sem] G.cell
theorem e9 {wd:Int}{s:S119}{d:Nat}{lo:List ByteArray}(hk:s.f0=4)(hn:¬s.f5<s.f4)(P:Int)(hP:(2:Int) ^ wd.toNat=P)(hw:¬64<=wd)(hP0:0<P):bad14 wd (.stmt s d lo)=decide (P<s.f5):=by
 unfold bad14 iJ;simp only[];rw[beq_iff_eq.2 hk,decide_eq_false hn,decide_eq_false hw,hP]
 by_cases h:P<s.f5
 ·rw[decide_eq_true h,decide_eq_true (show 0<s.f5 by omega),decide_eq_false (show ¬s.f5 - 1<P by omega)];rfl
 ·rw[decide_eq_false h,decide_eq_true (show s.f5 - 1<P by omega)];simp
theorem bad14_64 {s:S119}{d:Nat}{lo:List ByteArray}(hk:s.f0=4)(hn:¬s.f5<s.f4):bad14 64 (.stmt s d lo)=O:=by
 unfold bad14 iJ;simp only[];rw[beq_iff_eq.2 hk,decide_eq_false hn,decide_eq_true (show(64:Int)<=64 by decide)]
 simp
theorem cl14_calls {Wb:World}(nm:ByteArray)(wd ln:Int)(ds:List S70)(bd:List S119)(A3:Option Addr)(c3:Nat)(A4:Option Addr)(c4:Nat)(hp:ProgAt Wb ds bd A3 c3 A4 c4)(hw:cN wd=ac)(W:World)(n:Nat)(dp sp ep:Value)(dI:Int)(lp:Value)(t:Th)(hR:RT t)(hB:Below Wb.heap.size Wb W)(ht:ThP Wb W dp sp ep dI lp t)(b:Bool)(hb:b=bad14 wd t):
 Calls au 199 #[.agg #[.string nm,.int .i64 wd,.int .i64 ln,.slice A3 ds.length c3,.slice A4 bd.length c4],.agg #[.int .i64 n,dp,sp,ep,.int .i64 dI,lp]] W fun e w'=>e=.returned (.bool b)/\Below W.heap.size W w':=by
 have gout:∀{o o':Obj} (g:G ((W.alloc o).alloc o')),Below W.heap.size W g.W:=fun g=>(((ak _ _).alloc (ai _) _).alloc (by simp) _).trans (g.below.mono (by simp;omega));have HB:=J hB;have HP:=J hp;have HR:=J hb;have HT:=J ht;have HRT:=J hR;clear hb hB hp hR;go_enter Tryz.func199,Tryz.ntmps199
 go_upto_region 1 with (fail)
 refine aG ?_;intro gg;have goutW:∀(g:G (gw0 gg)),Below W.heap.size W g.W:=fun g=>gout g;have goutB:∀(g:G (gw0 gg)),Below Wb.heap.size Wb g.W:=fun g=>HB.out.trans ((goutW g).mono HB.out.size)
 cases t with
 |decl i=>
  obtain⟨⟨a,rfl⟩,rfl,rfl,rfl,rfl⟩:=ht
  go_upto_region 1 with (fail)
  refine aL (g:=gg) (by kernel_rfl) (by kernel_rfl) ?_
  repeat(go_big_quiet_step (fail))
  refine wpQuiet_nil ?_;rintro _ ⟨gg,rfl⟩;go_wp2_with fail;go_ret;exact⟨aA (by rw[HR.out];rfl),goutW _⟩
 |stmt s d lo=>
  obtain⟨rfl,⟨a,A5,c5,A9,c9,A12,c12,A13,c13,rfl,hr,_⟩,rfl,rfl,hsc⟩:=ht;have q0:∀g:G (gw0 gg),g.W.cell? ⟨a.block,a.off,aj⟩=ae (.int .i64 s.f0):=fun g=>aM (goutB g) (by have:=hr 0 _ rfl;rwa [fg]at this);have q10:∀g:G (gw0 gg),g.W.cell? ⟨a.block,a.off+10,aj⟩=ae (.int .u64 s.f4):=fun g=>aM (goutB g) (hr 10 _ rfl);have q11:∀g:G (gw0 gg),g.W.cell? ⟨a.block,a.off+11,aj⟩=ae (.int .u64 s.f5):=fun g=>aM (goutB g) (hr 11 _ rfl);clear hr hsc
  by_cases k:s.f0=4
  ·have K:=J k;rw[k]at q0;clear k
   have hww:wd=4\/wd=8\/wd=16\/wd=32\/wd=64:=by
    unfold cN at hw;simp only[Bool.or_eq_true,beq_iff_eq]at hw;omega
   clear hw
   by_cases h:s.f5<s.f4
   ·have h':s.f4 > s.f5:=h;have H:=J h;clear h
    go_upto_region 1 with (fail)
    refine aL (g:=gg) (by kernel_rfl) (by kernel_rfl) ?_
    repeat(go_big_quiet_step (fail))
    refine wpQuiet_nil ?_;rintro _ ⟨gg,rfl⟩;go_wp2_with fail;go_ret;exact⟨aA (by rw[HR.out];simp[bad14,K.out,H.out]),goutW _⟩
   ·have h':¬s.f4 > s.f5:=h;have H:=J h;clear h
    rcases hww with w | w | w | w | w
    ·subst w
     by_cases h2:s.f5 > 16
     ·have H2:=J h2;clear h2
      go_upto_region 1 with (fail)
      refine aL (g:=gg) (by kernel_rfl) (by kernel_rfl) ?_
      repeat(go_big_quiet_step (fail))
      refine wpQuiet_nil ?_;rintro _ ⟨gg,rfl⟩;go_wp2_with fail;go_ret;exact⟨aA (by rw[HR.out,e9 K.out (by have:=H.out;omega) 16 (by rfl) (by decide) (by decide)]),goutW _⟩
     ·have H2:=J h2;clear h2
      go_upto_region 1 with (fail)
      refine aL (g:=gg) (by kernel_rfl) (by kernel_rfl) ?_
      repeat(go_big_quiet_step (fail))
      refine wpQuiet_nil ?_;rintro _ ⟨gg,rfl⟩;go_wp2_with fail;go_ret;exact⟨aA (by rw[HR.out,e9 K.out (by have:=H.out;omega) 16 (by rfl) (by decide) (by decide)]),goutW _⟩
    ·subst w
     by_cases h2:s.f5 > 256
     ·have H2:=J h2;clear h2
      go_upto_region 1 with (fail)
      refine aL (g:=gg) (by kernel_rfl) (by kernel_rfl) ?_
      repeat(go_big_quiet_step (fail))
      refine wpQuiet_nil ?_;rintro _ ⟨gg,rfl⟩;go_wp2_with fail;go_ret;exact⟨aA (by rw[HR.out,e9 K.out (by have:=H.out;omega) 256 (by rfl) (by decide) (by decide)]),goutW _⟩
     ·have H2:=J h2;clear h2
      go_upto_region 1 with (fail)
      refine aL (g:=gg) (by kernel_rfl) (by kernel_rfl) ?_
      repeat(go_big_quiet_step (fail))
      refine wpQuiet_nil ?_;rintro _ ⟨gg,rfl⟩;go_wp2_with fail;go_ret;exact⟨aA (by rw[HR.out,e9 K.out (by have:=H.out;omega) 256 (by rfl) (by decide) (by decide)]),goutW _⟩
    ·subst w
     by_cases h2:s.f5 > 65536
     ·have H2:=J h2;clear h2
      go_upto_region 1 with (fail)
      refine aL (g:=gg) (by kernel_rfl) (by kernel_rfl) ?_
      repeat(go_big_quiet_step (fail))
      refine wpQuiet_nil ?_;rintro _ ⟨gg,rfl⟩;go_wp2_with fail;go_ret;exact⟨aA (by rw[HR.out,e9 K.out (by have:=H.out;omega) 65536 (by rfl) (by decide) (by decide)]),goutW _⟩
     ·have H2:=J h2;clear h2
      go_upto_region 1 with (fail)
      refine aL (g:=gg) (by kernel_rfl) (by kernel_rfl) ?_
      repeat(go_big_quiet_step (fail))
      refine wpQuiet_nil ?_;rintro _ ⟨gg,rfl⟩;go_wp2_with fail;go_ret;exact⟨aA (by rw[HR.out,e9 K.out (by have:=H.out;omega) 65536 (by rfl) (by decide) (by decide)]),goutW _⟩
    ·subst w
     by_cases h2:s.f5 > 4294967296
     ·have H2:=J h2;clear h2
      go_upto_region 1 with (fail)
      refine aL (g:=gg) (by kernel_rfl) (by kernel_rfl) ?_
      repeat(go_big_quiet_step (fail))
      refine wpQuiet_nil ?_;rintro _ ⟨gg,rfl⟩;go_wp2_with fail;go_ret;exact⟨aA (by rw[HR.out,e9 K.out (by have:=H.out;omega) 4294967296 (by rfl) (by decide) (by decide)]),goutW _⟩
     ·have H2:=J h2;clear h2
      go_upto_region 1 with (fail)
      refine aL (g:=gg) (by kernel_rfl) (by kernel_rfl) ?_
      repeat(go_big_quiet_step (fail))
      refine wpQuiet_nil ?_;rintro _ ⟨gg,rfl⟩;go_wp2_with fail;go_ret;exact⟨aA (by rw[HR.out,e9 K.out (by have:=H.out;omega) 4294967296 (by rfl) (by decide) (by decide)]),goutW _⟩
    ·subst w
     go_upto_region 1 with (fail)
     refine aL (g:=gg) (by kernel_rfl) (by kernel_rfl) ?_
     repeat(go_big_quiet_step (fail))
     refine wpQuiet_nil ?_;rintro _ ⟨gg,rfl⟩;go_wp2_with fail;go_ret;exact⟨aA (by rw[HR.out,bad14_64 K.out (by have:=H.out;omega)]),goutW _⟩
  ·have K:=J k;have b1:=bf k;clear k
   go_upto_region 1 with (fail)
   refine aL (g:=gg) (by kernel_rfl) (by kernel_rfl) ?_
   repeat(go_big_quiet_step (fail))
   refine wpQuiet_nil ?_;rintro _ ⟨gg,rfl⟩;go_wp2_with fail;go_ret;exact⟨aA (by rw[HR.out];simp[bad14,K.out]),goutW _⟩
 |expr x lo=>
  obtain⟨rfl,rfl,⟨a,A,c,rfl,hr,_⟩,rfl,hsc⟩:=ht;clear hr hsc
  go_upto_region 1 with (fail)
  refine aL (g:=gg) (by kernel_rfl) (by kernel_rfl) ?_
  repeat(go_big_quiet_step (fail))
  refine wpQuiet_nil ?_;rintro _ ⟨gg,rfl⟩;go_wp2_with fail;go_ret;exact⟨aA (by rw[HR.out];rfl),goutW _⟩
end
section
attribute [local go_sem] G.cell
theorem find_qv {A3:Option Addr}{ds:List S70}{s:ByteArray}{q:Option Addr}(hq:qOf A3 ds s=q)(nm:ByteArray)(wd ln:Int)(A3':Option Addr)(c3:Nat)(A4:Option Addr)(n4 c4:Nat)(w:World)(hd:k70.C w A3 ds.length ds)(hld:ds.length<=c3):
 Calls au 181 #[.agg #[.string nm,.int .i64 wd,.int .i64 ln,.slice A3 ds.length c3,.slice A4 n4 c4],.string s] w fun e w'=>e=.returned (.pointer q)/\Below w.heap.size w w':=hq ▸ find_q nm wd ln ds A3 c3 A4 n4 c4 s w hd hld
theorem cl15_calls {Wb:World}(nm:ByteArray)(wd ln:Int)(ds:List S70)(bd:List S119)(A3:Option Addr)(c3:Nat)(A4:Option Addr)(c4:Nat)(hp:ProgAt Wb ds bd A3 c3 A4 c4)(W:World)(n:Nat)(dp sp ep:Value)(dI:Int)(lp:Value)(t:Th)(hR:RT t)(hB:Below Wb.heap.size Wb W)(ht:ThP Wb W dp sp ep dI lp t)(b:Bool)(hb:b=bad15 ds t):
 Calls au 200 #[.agg #[.string nm,.int .i64 wd,.int .i64 ln,.slice A3 ds.length c3,.slice A4 bd.length c4],.agg #[.int .i64 n,dp,sp,ep,.int .i64 dI,lp]] W fun e w'=>e=.returned (.bool b)/\Below W.heap.size W w':=by
 have gout:∀{o o':Obj} (g:G ((W.alloc o).alloc o')),Below W.heap.size W g.W:=fun g=>(((ak _ _).alloc (ai _) _).alloc (by simp) _).trans (g.below.mono (by simp;omega));have HB:=J hB;have HP:=J hp;have HR:=J hb;have HT:=J ht;have HRT:=J hR;clear hb hB hp hR;go_enter Tryz.func200,Tryz.ntmps200
 go_upto_region 1 with (fail)
 refine aG ?_;intro gg;have goutW:∀(g:G (gw0 gg)),Below W.heap.size W g.W:=fun g=>gout g;have goutB:∀(g:G (gw0 gg)),Below Wb.heap.size Wb g.W:=fun g=>HB.out.trans ((goutW g).mono HB.out.size);have HSC:=J ht.scope
 cases t with
 |decl i=>
  obtain⟨⟨a,rfl⟩,rfl,rfl,rfl,rfl⟩:=ht
  go_upto_region 1 with (fail)
  refine aL (g:=gg) (by kernel_rfl) (by kernel_rfl) ?_
  repeat(go_big_quiet_step (fail))
  refine wpQuiet_nil ?_;rintro _ ⟨gg,rfl⟩;go_wp2_with fail;go_ret;exact⟨aA (by rw[HR.out];rfl),goutW _⟩
 |stmt s d lo=>
  obtain⟨rfl,⟨a,A5,c5,A9,c9,A12,c12,A13,c13,rfl,hr,_⟩,rfl,rfl,hsc⟩:=ht;have q0:∀g:G (gw0 gg),g.W.cell? ⟨a.block,a.off,aj⟩=ae (.int .i64 s.f0):=fun g=>aM (goutB g) (by have:=hr 0 _ rfl;rwa [fg]at this);have q1:∀g:G (gw0 gg),g.W.cell? ⟨a.block,a.off+1,aj⟩=ae (.string s.f1):=fun g=>aM (goutB g) (hr 1 _ rfl);clear hr hsc
  by_cases k:s.f0=4
  ·have K:=J k;rw[k]at q0;clear k
   rcases aH (kM lo s.f1)with hh | hh
   ·have HH:=J hh;clear hh
    go_upto_region 1 with (fail)
    refine aL (g:=gg) (by kernel_rfl) (by kernel_rfl) ?_
    repeat(go_big_quiet_step (fail))
    go_big_quiet_step (first | (go_at_call 195;exact aC (has_v (HSC.out.below (goutW _)) HH.out)))
    repeat(go_big_quiet_step (fail))
    refine wpQuiet_nil ?_;rintro _ ⟨gg,rfl⟩;go_wp2_with fail;go_ret;exact⟨aA (by rw[HR.out];simp[bad15,K.out,HH.out]),goutW _⟩
   ·have HH:=J hh;clear hh
    rcases aH ((dH ds s.f1).isNone)with hn | hn
    ·have hq:=qOf_none (A3:=A3) hn;have HN:=J (show(dH ds s.f1).isSome=O by cases hf:dH ds s.f1 with | none=>rfl | some i=>rw[hf]at hn;cases hn);clear hn
     go_upto_region 1 with (fail)
     refine aL (g:=gg) (by kernel_rfl) (by kernel_rfl) ?_
     repeat(go_big_quiet_step (fail))
     go_big_quiet_step (first | (go_at_call 195;exact aC (has_v (HSC.out.below (goutW _)) HH.out)))
     repeat(go_big_quiet_step (fail))
     go_big_quiet_step (first | (go_at_call 181;exact aC (find_qv hq nm wd ln A3 c3 A4 bd.length c4 _ (Kd.aF HP.out.hd (goutB _)) HP.out.hld)))
     repeat(go_big_quiet_step (fail))
     refine wpQuiet_nil ?_;rintro _ ⟨gg,rfl⟩;go_wp2_with fail;go_ret;exact⟨aA (by rw[HR.out];simp only[bad15];rw[HN.out,HH.out];simp),goutW _⟩
    ·obtain⟨qa,hq⟩:=qOf_some HP.out.hd hn;have HN:=J (show(dH ds s.f1).isSome=ac by cases hf:dH ds s.f1 with | none=>rw[hf]at hn;cases hn | some i=>rfl);clear hn
     go_upto_region 1 with (fail)
     refine aL (g:=gg) (by kernel_rfl) (by kernel_rfl) ?_
     repeat(go_big_quiet_step (fail))
     go_big_quiet_step (first | (go_at_call 195;exact aC (has_v (HSC.out.below (goutW _)) HH.out)))
     repeat(go_big_quiet_step (fail))
     go_big_quiet_step (first | (go_at_call 181;exact aC (find_qv hq nm wd ln A3 c3 A4 bd.length c4 _ (Kd.aF HP.out.hd (goutB _)) HP.out.hld)))
     repeat(go_big_quiet_step (fail))
     refine wpQuiet_nil ?_;rintro _ ⟨gg,rfl⟩;go_wp2_with fail;go_ret;exact⟨aA (by rw[HR.out];simp only[bad15];rw[HN.out,K.out];rfl),goutW _⟩
  ·have K:=J k;have b1:=bf k;clear k
   go_upto_region 1 with (fail)
   refine aL (g:=gg) (by kernel_rfl) (by kernel_rfl) ?_
   repeat(go_big_quiet_step (fail))
   refine wpQuiet_nil ?_;rintro _ ⟨gg,rfl⟩;go_wp2_with fail;go_ret;exact⟨aA (by rw[HR.out];simp[bad15,K.out]),goutW _⟩
 |expr x lo=>
  obtain⟨rfl,rfl,⟨a,A,c,rfl,hr,_⟩,rfl,hsc⟩:=ht;clear hr hsc
  go_upto_region 1 with (fail)
  refine aL (g:=gg) (by kernel_rfl) (by kernel_rfl) ?_
  repeat(go_big_quiet_step (fail))
  refine wpQuiet_nil ?_;rintro _ ⟨gg,rfl⟩;go_wp2_with fail;go_ret;exact⟨aA (by rw[HR.out];rfl),goutW _⟩
end
def KW:Th->Prop
 | .decl _=>True
 | .stmt s _ _=>1<=s.f0/\s.f0<=5
 | .expr e _=>aO e<=8388608
mutual
theorem kw_exTh:∀(e:S116) (lo:List ByteArray),aO e<=8388608->∀t∈bJ e lo,KW t
 | ⟨a,b,s,l⟩,lo,h,t,ht=>by
   rw[bJ]at ht
   rcases cg.1 ht with rfl | ht
   ·exact h
   ·rw[aO]at h;exact kw_exThs l lo (by omega) t ht
theorem kw_exThs:∀(l:List S116) (lo:List ByteArray),bD l<=8388608->∀t∈bY l lo,KW t
 | [],_,_,t,ht=>by rw[bY]at ht;cases ht
 |x::r,lo,h,t,ht=>by
  rw[bD]at h;rw[bY]at ht
  rcases bo.1 ht with ht | ht
  ·exact kw_exTh x lo (by omega) t ht
  ·exact kw_exThs r lo (by omega) t ht
end
mutual
theorem kw_stTh:∀(x:S119) (d:Nat) (lo:List ByteArray),stB x=ac->Ot.iT x<=1048576->∀t∈jN x d lo,KW t
 | ⟨k,nm,e,f,l,h,th,el⟩,d,lo,hs,hb,t,ht=>by
   have F:=st_form hs;rw[Ot.iT]at hb;rw[jN]at ht;have h1:=aK e;have h2:=aK f
   rcases cg.1 ht with rfl | ht
   ·exact⟨F.1,F.2.1⟩
   ·rcases bo.1 ht with ht | ht
    ·rcases bo.1 ht with ht | ht
     ·split at ht
      ·exact kw_exTh e lo (by omega) t ht
      ·cases ht
     ·split at ht
      ·exact kw_exTh f lo (by omega) t ht
      ·cases ht
    ·rcases bo.1 ht with ht | ht
     ·exact kN th _ _ F.2.2.2.2.1 (by omega) t ht
     ·exact kN el _ _ F.2.2.2.2.2 (by omega) t ht
theorem kN:∀(l:List S119) (d:Nat) (lo:List ByteArray),bdB l=ac->Ot.bH l<=1048576->∀t∈aD l d lo,KW t
 | [],_,_,_,_,t,ht=>by rw[aD]at ht;cases ht
 |x::r,d,lo,hs,hb,t,ht=>by
  rw[iO,List.all_cons,dg,←iO]at hs;rw[Ot.bH]at hb;rw[aD]at ht
  rcases bo.1 ht with ht | ht
  ·exact kw_stTh x d lo hs.1 (by omega) t ht
  ·exact kN r d lo hs.2 (by omega) t ht
end
theorem rw_things {ds:List S70}{bd:List S119}(h:∀t∈bd,Ot.kF t)(hf:bdB bd=ac)(hb:Ot.bH bd<=1048576):∀t∈things ds bd,RW t:=by
 intro t ht;have h1:=good_things (ds:=ds) h t ht
 have h2:KW t:=by
  unfold things at ht
  rcases bo.1 ht with ht | ht
  ·obtain⟨i,_,rfl⟩:=List.mem_map.1 ht;trivial
  ·exact kN bd 1 [] hf hb t ht
 cases t with
 |decl i=>exact⟨⟨h1,trivial⟩,trivial⟩
 |stmt s d l=>exact⟨⟨h1,h2⟩,trivial⟩
 |expr e l=>exact⟨⟨h1,trivial⟩,h2⟩
theorem aY {f:Th->Bool}{l:List Th}(h:(dW f l).2=O):aU l.length (fun i=>f (eQ l i))=aj:=by
 unfold dW at h
 cases e:aU l.length (fun i=>f (eQ l i))with
 |none=>rfl
 |some i=>rw[e]at h;cases h
theorem eS {f:Th->Bool}{l:List Th}(h:(dW f l).2=ac):∃i:Nat,aU l.length (fun i=>f (eQ l i))=ae i/\(dW f l).1=(i:Int):=by
 unfold dW at h ⊢
 cases e:aU l.length (fun i=>f (eQ l i))with
 |none=>rw[e]at h;cases h
 |some i=>exact⟨i,rfl,rfl⟩
theorem aN {f:Nat->Bool}{n:Nat}(h:(dN f n).2=O):aU n f=aj:=by
 unfold dN at h
 cases e:aU n f with
 |none=>rfl
 |some i=>rw[e]at h;cases h
theorem iI {f:Nat->Bool}{n:Nat}(h:(dN f n).2=ac):∃i:Nat,aU n f=ae i/\(dN f n).1=(i:Int):=by
 unfold dN at h ⊢
 cases e:aU n f with
 |none=>rw[e]at h;cases h
 |some i=>exact⟨i,rfl,rfl⟩
theorem firstN_all {n:Nat}{f:Nat->Bool}(h:aU n f=aj):∀j,j<n->f j=O:=by
 rcases fA n f with ⟨_,h2⟩ | ⟨i,_,h1,_,_⟩
 ·exact h2
 ·rw[h]at h1;cases h1
theorem firstS_mem {f:Th->Bool}{l:List Th}(h:(dW f l).2=O):∀t∈l,f t=O:=by
 intro t ht;obtain⟨i,hi,rfl⟩:=ef ht
 have:=firstN_all (aY h) i hi
 rwa [kQ hi]at this
def cR (nm:ByteArray)(wd ln:Int)(ds:List S70)(bd:List S119):Nat->Int × Bool
 |0=>(-1,!cI nm wd ln ds bd)
 |1=>(-1,!cN wd)
 |2=>(-1,!dB ln)
 |3=>(-1,!decide (ds.length<=256))
 |4=>dN (d8 ds) ds.length
 |5=>dN (cL ds) ds.length
 |6=>dN (bT ds) ds.length
 |7=>dN (dF wd ds) ds.length
 |8=>(-1,!decide (cV ds<=4096))
 |9=>dW (badC wd ds 10) (things ds bd)
 |10=>dW (badC wd ds 11) (things ds bd)
 |11=>dW (badC wd ds 12) (things ds bd)
 |12=>dW (badC wd ds 13) (things ds bd)
 |13=>dW (badC wd ds 14) (things ds bd)
 |14=>dW (badC wd ds 15) (things ds bd)
 |_=>(-1,!decide (dQ bd<=65536))
def cF:Nat->FuncId
 |4=>247
 |5=>247
 |6=>247
 |7=>247
 |9=>249
 |10=>249
 |11=>249
 |12=>249
 |13=>249
 |14=>249
 |_=>246
def cE:Nat->Int
 |0=>1
 |1=>5
 |2=>163
 |3=>4
 |4=>160
 |5=>163
 |6=>164
 |7=>165
 |8=>169
 |9=>152
 |10=>161
 |11=>162
 |12=>165
 |13=>166
 |14=>167
 |_=>168
theorem eU {b:Bool}(h:(!b)=O):b=ac:=by cases b <;> simp_all
theorem b_yes {b:Bool}(h:(!b)=ac):b=O:=by cases b <;> simp_all
theorem d_no {p:Prop} [Decidable p](h:(!decide p)=O):p:=by simpa using h
theorem d_yes {p:Prop} [Decidable p](h:(!decide p)=ac):¬p:=by simpa using h
theorem clause_calls (nm:ByteArray)(wd ln:Int)(ds:List S70)(bd:List S119)(A3:Option Addr)(c3:Nat)(A4:Option Addr)(c4:Nat)(b:Nat)(X:World)(hp:ProgAt X ds bd A3 c3 A4 c4)(hg:PGood nm wd ln ds bd)(hbx:∀i,i<16->X.heap[b+i]? =(clL b)[i]?)(k:Nat)(hk:k<16)(hprev:∀j,j<k->(cR nm wd ln ds bd j).2=O):
 Calls au (cF k) #[.agg #[.string nm,.int .i64 wd,.int .i64 ln,.slice A3 ds.length c3,.slice A4 bd.length c4],.pointer (ae ⟨b+k,0,aj⟩)] X fun e w'=>e=.returned (.tuple #[.int .i64 (cR nm wd ln ds bd k).1,.bool (cR nm wd ln ds bd k).2])/\Below X.heap.size X w':=by
 have hdl:=hg.sizes.1;have hbk:=hg.sizes.2;have FF:0<k->0<=wd/\0<=ln/\(∀d∈ds,0<=d.f2)/\bdB bd=ac:=fun h=>jV (eU (hprev 0 h));have RWt:0<k->∀t∈things ds bd,RW t:=fun h=>rw_things hg.good.bd (FF h).2.2.2 hbk;have HV:∀d∈ds,∀v∈d.f3,0<=v:=fun d hd v hv=>(okU_b ((hg.good.ds d hd).2.2.2.2 v hv)).1
 have hcs:k=0\/k=1\/k=2\/k=3\/k=4\/k=5\/k=6\/k=7\/k=8\/k=9\/k=10\/k=11\/k=12\/k=13\/k=14\/k=15:=by omega
 rcases hcs with rfl | rfl | rfl | rfl | rfl | rfl | rfl | rfl | rfl | rfl | rfl | rfl | rfl | rfl | rfl | rfl
 ·exact whole44_calls nm wd ln ds bd A3 c3 A4 c4 (b+0) X ((hbx 0 (by decide)).trans rfl) (cI nm wd ln ds bd) fun Y hY=>wf_v (hp.below hY) rfl
 ·exact whole45_calls nm wd ln ds bd A3 c3 A4 c4 (b+1) X ((hbx 1 (by decide)).trans rfl) (cN wd) fun Y hY=>c45_calls nm wd ln ds bd A3 c3 A4 c4 Y _ rfl
 ·exact whole47_calls nm wd ln ds bd A3 c3 A4 c4 (b+2) X ((hbx 2 (by decide)).trans rfl) (dB ln) fun Y hY=>c47_calls nm wd ln ds bd A3 c3 A4 c4 Y _ rfl
 ·exact whole48_calls nm wd ln ds bd A3 c3 A4 c4 (b+3) X ((hbx 3 (by decide)).trans rfl) (decide (ds.length<=256)) fun Y hY=>c48_calls nm wd ln ds bd A3 c3 A4 c4 Y hdl _ rfl
 ·exact decls50_calls nm wd ln ds bd A3 c3 A4 c4 (b+4) X hdl ((hbx 4 (by decide)).trans rfl) (d8 ds) (fun Y i hY hi=>c50_calls nm wd ln ds bd A3 c3 A4 c4 Y (hp.below hY).hd hp.hld i hi _ rfl) _ rfl
 ·exact decls52_calls nm wd ln ds bd A3 c3 A4 c4 (b+5) X hdl ((hbx 5 (by decide)).trans rfl) (cL ds) (fun Y i hY hi=>c52_calls nm wd ln ds bd A3 c3 A4 c4 Y (hp.below hY).hd i hi _ rfl) _ rfl
 ·exact decls53_calls nm wd ln ds bd A3 c3 A4 c4 (b+6) X hdl ((hbx 6 (by decide)).trans rfl) (bT ds) (fun Y i hY hi=>c53_calls nm wd ln ds bd A3 c3 A4 c4 Y (hp.below hY).hd i hi _ rfl) _ rfl
 ·exact decls54_calls nm wd ln ds bd A3 c3 A4 c4 (b+7) X hdl ((hbx 7 (by decide)).trans rfl) (dF wd ds) (fun Y i hY hi=>c54_calls nm wd ln ds bd A3 c3 A4 c4 Y (hp.below hY).hd (FF (by decide)).1 HV i hi _ rfl) _ rfl
 ·have HW:∀d∈ds,d.f2=0\/dB d.f2=ac:=by
   intro d hd;obtain⟨i,hi,rfl⟩:=ef hd;have h:=size_good (firstN_all (aN (hprev 5 (by decide))) i hi)
   have e:aJ ds (i:Int)=ds[i]:=by unfold aJ;rw[ax,aw,av hi];rfl
   rwa [e]at h
  exact whole58_calls nm wd ln ds bd A3 c3 A4 c4 (b+8) X ((hbx 8 (by decide)).trans rfl) (decide (cV ds<=4096)) fun Y hY=>c58_calls nm wd ln ds bd A3 c3 A4 c4 Y (hp.below hY).hd hdl HW _ rfl
 ·refine dE (R:=RW) (f:=badC wd ds 10) nm wd ln ds bd A3 c3 A4 c4 (b+9) X hp (FF (by decide)).2.2.2 hdl hbk (RWt (by decide)) (fun Y b2 hY h2=>wrong61_ok (W0:=Y) (nm:=nm) (wd:=wd) (ln:=ln) (ds:=ds) (bd:=bd) (A3:=A3) (c3:=c3) (A4:=A4) (c4:=c4) ?_ ((hY.block _ (aR ((hbx 9 (by decide)).trans rfl))).trans ((hbx 9 (by decide)).trans rfl)) h2) _ rfl;intro Wb W n dp sp ep dI lp t hR h0 hB ht;exact cl10_calls nm wd ln ds bd A3 c3 A4 c4 W n dp sp ep dI lp t hR hB ht _ rfl
 ·refine dE (R:=RW) (f:=badC wd ds 11) nm wd ln ds bd A3 c3 A4 c4 (b+10) X hp (FF (by decide)).2.2.2 hdl hbk (RWt (by decide)) (fun Y b2 hY h2=>wrong63_ok (W0:=Y) (nm:=nm) (wd:=wd) (ln:=ln) (ds:=ds) (bd:=bd) (A3:=A3) (c3:=c3) (A4:=A4) (c4:=c4) ?_ ((hY.block _ (aR ((hbx 10 (by decide)).trans rfl))).trans ((hbx 10 (by decide)).trans rfl)) h2) _ rfl;intro Wb W n dp sp ep dI lp t hR h0 hB ht;exact cl11_calls nm wd ln ds bd A3 c3 A4 c4 ((hp.below hY).below h0) W n dp sp ep dI lp t hR.1 hB ht _ rfl
 ·refine dE (R:=(fun t=>RW t/\bad11 ds t=O)) (f:=badC wd ds 12) nm wd ln ds bd A3 c3 A4 c4 (b+11) X hp (FF (by decide)).2.2.2 hdl hbk (fun t ht=>⟨RWt (by decide) t ht,firstS_mem (hprev 10 (by decide)) t ht⟩) (fun Y b2 hY h2=>wrong66_ok (W0:=Y) (nm:=nm) (wd:=wd) (ln:=ln) (ds:=ds) (bd:=bd) (A3:=A3) (c3:=c3) (A4:=A4) (c4:=c4) ?_ ((hY.block _ (aR ((hbx 11 (by decide)).trans rfl))).trans ((hbx 11 (by decide)).trans rfl)) h2) _ rfl;intro Wb W n dp sp ep dI lp t hR h0 hB ht;exact cl12_calls nm wd ln ds bd A3 c3 A4 c4 ((hp.below hY).below h0) (FF (by decide)).2.2.1 W n dp sp ep dI lp t hR.1.1 hB ht hR.2 _ rfl
 ·refine dE (R:=RW) (f:=badC wd ds 13) nm wd ln ds bd A3 c3 A4 c4 (b+12) X hp (FF (by decide)).2.2.2 hdl hbk (RWt (by decide)) (fun Y b2 hY h2=>wrong68_ok (W0:=Y) (nm:=nm) (wd:=wd) (ln:=ln) (ds:=ds) (bd:=bd) (A3:=A3) (c3:=c3) (A4:=A4) (c4:=c4) ?_ ((hY.block _ (aR ((hbx 12 (by decide)).trans rfl))).trans ((hbx 12 (by decide)).trans rfl)) h2) _ rfl;intro Wb W n dp sp ep dI lp t hR h0 hB ht;exact cl13_calls nm wd ln ds bd A3 c3 A4 c4 ((hp.below hY).below h0) (FF (by decide)).1 W n dp sp ep dI lp t hR.1 hB ht _ rfl
 ·refine dE (R:=RW) (f:=badC wd ds 14) nm wd ln ds bd A3 c3 A4 c4 (b+13) X hp (FF (by decide)).2.2.2 hdl hbk (RWt (by decide)) (fun Y b2 hY h2=>wrong69_ok (W0:=Y) (nm:=nm) (wd:=wd) (ln:=ln) (ds:=ds) (bd:=bd) (A3:=A3) (c3:=c3) (A4:=A4) (c4:=c4) ?_ ((hY.block _ (aR ((hbx 13 (by decide)).trans rfl))).trans ((hbx 13 (by decide)).trans rfl)) h2) _ rfl;intro Wb W n dp sp ep dI lp t hR h0 hB ht;exact cl14_calls nm wd ln ds bd A3 c3 A4 c4 ((hp.below hY).below h0) (eU (hprev 1 (by decide))) W n dp sp ep dI lp t hR.1 hB ht _ rfl
 ·refine dE (R:=RW) (f:=badC wd ds 15) nm wd ln ds bd A3 c3 A4 c4 (b+14) X hp (FF (by decide)).2.2.2 hdl hbk (RWt (by decide)) (fun Y b2 hY h2=>wrong70_ok (W0:=Y) (nm:=nm) (wd:=wd) (ln:=ln) (ds:=ds) (bd:=bd) (A3:=A3) (c3:=c3) (A4:=A4) (c4:=c4) ?_ ((hY.block _ (aR ((hbx 14 (by decide)).trans rfl))).trans ((hbx 14 (by decide)).trans rfl)) h2) _ rfl;intro Wb W n dp sp ep dI lp t hR h0 hB ht;exact cl15_calls nm wd ln ds bd A3 c3 A4 c4 ((hp.below hY).below h0) W n dp sp ep dI lp t hR.1 hB ht _ rfl
 ·exact whole71_calls nm wd ln ds bd A3 c3 A4 c4 (b+15) X ((hbx 15 (by decide)).trans rfl) (decide (dQ bd<=65536)) fun Y hY=>c71_calls nm wd ln ds bd A3 c3 A4 c4 Y (hp.below hY).hb hp.hlb ((Ot.dC bd).2 hg.good.bd) hbk _ rfl
theorem ans_eq {a b:Ans}(h1:a.c=b.c)(h2:a.at'=b.at')(h3:a.e=b.e):a=b:=by cases a;cases b;cases h1;cases h2;cases h3;rfl
theorem faultS_at {nm:ByteArray}{wd ln:Int}{ds:List S70}{bd:List S119}{k:Nat}(hk:k<16)(hprev:∀j,j<k->(cR nm wd ln ds bd j).2=O)(hb:(cR nm wd ln ds bd k).2=ac):cJ nm wd ln ds bd=⟨(k:Int)+1,(cR nm wd ln ds bd k).1,cE k⟩:=by
 have hcs:k=0\/k=1\/k=2\/k=3\/k=4\/k=5\/k=6\/k=7\/k=8\/k=9\/k=10\/k=11\/k=12\/k=13\/k=14\/k=15:=by omega
 rcases hcs with rfl | rfl | rfl | rfl | rfl | rfl | rfl | rfl | rfl | rfl | rfl | rfl | rfl | rfl | rfl | rfl
 ·have hh:cI nm wd ln ds bd=O:=b_yes hb
  simp only[cJ,d7,dV,errC,cx,if_false,if_true,reduceIte,reduceCtorEq,Nat.reduceSub,hh] <;> rfl
 ·have h0:cI nm wd ln ds bd=ac:=eU (hprev 0 (by decide));have hh:cN wd=O:=b_yes hb
  simp only[cJ,d7,dV,errC,cx,if_false,if_true,reduceIte,reduceCtorEq,Nat.reduceSub,hh,h0] <;> rfl
 ·have h0:cI nm wd ln ds bd=ac:=eU (hprev 0 (by decide));have h1:cN wd=ac:=eU (hprev 1 (by decide));have hh:dB ln=O:=b_yes hb
  simp only[cJ,d7,dV,errC,cx,if_false,if_true,reduceIte,reduceCtorEq,Nat.reduceSub,hh,h0,h1] <;> rfl
 ·have h0:cI nm wd ln ds bd=ac:=eU (hprev 0 (by decide));have h1:cN wd=ac:=eU (hprev 1 (by decide));have h2:dB ln=ac:=eU (hprev 2 (by decide));have hh:256<ds.length:=Nat.not_le.1 (d_yes hb)
  simp only[cJ,d7,dV,errC,cx,if_false,if_true,reduceIte,reduceCtorEq,Nat.reduceSub,hh,h0,h1,h2] <;> rfl
 ·have h0:cI nm wd ln ds bd=ac:=eU (hprev 0 (by decide));have h1:cN wd=ac:=eU (hprev 1 (by decide));have h2:dB ln=ac:=eU (hprev 2 (by decide));have h3:¬256<ds.length:=gf.2 (d_no (hprev 3 (by decide)));obtain⟨i,hh,hv⟩:=iI hb;have hv2:(cR nm wd ln ds bd 4).1=(i:Int):=hv
  simp only[cJ,d7,dV,errC,cx,if_false,if_true,reduceIte,reduceCtorEq,Nat.reduceSub,hh,hv2,h0,h1,h2,h3] <;> rfl
 ·have h0:cI nm wd ln ds bd=ac:=eU (hprev 0 (by decide));have h1:cN wd=ac:=eU (hprev 1 (by decide));have h2:dB ln=ac:=eU (hprev 2 (by decide));have h3:¬256<ds.length:=gf.2 (d_no (hprev 3 (by decide)));have h4:aU ds.length (d8 ds)=aj:=aN (hprev 4 (by decide));obtain⟨i,hh,hv⟩:=iI hb;have hv2:(cR nm wd ln ds bd 5).1=(i:Int):=hv
  simp only[cJ,d7,dV,errC,cx,if_false,if_true,reduceIte,reduceCtorEq,Nat.reduceSub,hh,hv2,h0,h1,h2,h3,h4] <;> rfl
 ·have h0:cI nm wd ln ds bd=ac:=eU (hprev 0 (by decide));have h1:cN wd=ac:=eU (hprev 1 (by decide));have h2:dB ln=ac:=eU (hprev 2 (by decide));have h3:¬256<ds.length:=gf.2 (d_no (hprev 3 (by decide)));have h4:aU ds.length (d8 ds)=aj:=aN (hprev 4 (by decide));have h5:aU ds.length (cL ds)=aj:=aN (hprev 5 (by decide));obtain⟨i,hh,hv⟩:=iI hb;have hv2:(cR nm wd ln ds bd 6).1=(i:Int):=hv
  simp only[cJ,d7,dV,errC,cx,if_false,if_true,reduceIte,reduceCtorEq,Nat.reduceSub,hh,hv2,h0,h1,h2,h3,h4,h5] <;> rfl
 ·have h0:cI nm wd ln ds bd=ac:=eU (hprev 0 (by decide));have h1:cN wd=ac:=eU (hprev 1 (by decide));have h2:dB ln=ac:=eU (hprev 2 (by decide));have h3:¬256<ds.length:=gf.2 (d_no (hprev 3 (by decide)));have h4:aU ds.length (d8 ds)=aj:=aN (hprev 4 (by decide));have h5:aU ds.length (cL ds)=aj:=aN (hprev 5 (by decide));have h6:aU ds.length (bT ds)=aj:=aN (hprev 6 (by decide));obtain⟨i,hh,hv⟩:=iI hb;have hv2:(cR nm wd ln ds bd 7).1=(i:Int):=hv
  simp only[cJ,d7,dV,errC,cx,if_false,if_true,reduceIte,reduceCtorEq,Nat.reduceSub,hh,hv2,h0,h1,h2,h3,h4,h5,h6] <;> rfl
 ·have h0:cI nm wd ln ds bd=ac:=eU (hprev 0 (by decide));have h1:cN wd=ac:=eU (hprev 1 (by decide));have h2:dB ln=ac:=eU (hprev 2 (by decide));have h3:¬256<ds.length:=gf.2 (d_no (hprev 3 (by decide)));have h4:aU ds.length (d8 ds)=aj:=aN (hprev 4 (by decide));have h5:aU ds.length (cL ds)=aj:=aN (hprev 5 (by decide));have h6:aU ds.length (bT ds)=aj:=aN (hprev 6 (by decide));have h7:aU ds.length (dF wd ds)=aj:=aN (hprev 7 (by decide));have hh:4096<cV ds:=Int.not_le.1 (d_yes hb)
  simp only[cJ,d7,dV,errC,cx,if_false,if_true,reduceIte,reduceCtorEq,Nat.reduceSub,hh,h0,h1,h2,h3,h4,h5,h6,h7] <;> rfl
 ·have h0:cI nm wd ln ds bd=ac:=eU (hprev 0 (by decide));have h1:cN wd=ac:=eU (hprev 1 (by decide));have h2:dB ln=ac:=eU (hprev 2 (by decide));have h3:¬256<ds.length:=gf.2 (d_no (hprev 3 (by decide)));have h4:aU ds.length (d8 ds)=aj:=aN (hprev 4 (by decide));have h5:aU ds.length (cL ds)=aj:=aN (hprev 5 (by decide));have h6:aU ds.length (bT ds)=aj:=aN (hprev 6 (by decide));have h7:aU ds.length (dF wd ds)=aj:=aN (hprev 7 (by decide));have h8:¬4096<cV ds:=Int.not_lt.2 (d_no (hprev 8 (by decide)));obtain⟨i,hh,hv⟩:=eS hb;have hv2:(cR nm wd ln ds bd 9).1=(i:Int):=hv;have hh:aX wd ds (things ds bd) 10=ae i:=hh
  simp only[cJ,d7,dV,errC,cx,if_false,if_true,reduceIte,reduceCtorEq,Nat.reduceSub,hh,hv2,h0,h1,h2,h3,h4,h5,h6,h7,h8] <;> rfl
 ·have h0:cI nm wd ln ds bd=ac:=eU (hprev 0 (by decide));have h1:cN wd=ac:=eU (hprev 1 (by decide));have h2:dB ln=ac:=eU (hprev 2 (by decide));have h3:¬256<ds.length:=gf.2 (d_no (hprev 3 (by decide)));have h4:aU ds.length (d8 ds)=aj:=aN (hprev 4 (by decide));have h5:aU ds.length (cL ds)=aj:=aN (hprev 5 (by decide));have h6:aU ds.length (bT ds)=aj:=aN (hprev 6 (by decide));have h7:aU ds.length (dF wd ds)=aj:=aN (hprev 7 (by decide));have h8:¬4096<cV ds:=Int.not_lt.2 (d_no (hprev 8 (by decide)));have h9:aX wd ds (things ds bd) 10=aj:=aY (hprev 9 (by decide));obtain⟨i,hh,hv⟩:=eS hb;have hv2:(cR nm wd ln ds bd 10).1=(i:Int):=hv;have hh:aX wd ds (things ds bd) 11=ae i:=hh
  simp only[cJ,d7,dV,errC,cx,if_false,if_true,reduceIte,reduceCtorEq,Nat.reduceSub,hh,hv2,h0,h1,h2,h3,h4,h5,h6,h7,h8,h9] <;> rfl
 ·have h0:cI nm wd ln ds bd=ac:=eU (hprev 0 (by decide));have h1:cN wd=ac:=eU (hprev 1 (by decide));have h2:dB ln=ac:=eU (hprev 2 (by decide));have h3:¬256<ds.length:=gf.2 (d_no (hprev 3 (by decide)));have h4:aU ds.length (d8 ds)=aj:=aN (hprev 4 (by decide));have h5:aU ds.length (cL ds)=aj:=aN (hprev 5 (by decide));have h6:aU ds.length (bT ds)=aj:=aN (hprev 6 (by decide));have h7:aU ds.length (dF wd ds)=aj:=aN (hprev 7 (by decide));have h8:¬4096<cV ds:=Int.not_lt.2 (d_no (hprev 8 (by decide)));have h9:aX wd ds (things ds bd) 10=aj:=aY (hprev 9 (by decide));have h10:aX wd ds (things ds bd) 11=aj:=aY (hprev 10 (by decide));obtain⟨i,hh,hv⟩:=eS hb;have hv2:(cR nm wd ln ds bd 11).1=(i:Int):=hv;have hh:aX wd ds (things ds bd) 12=ae i:=hh
  simp only[cJ,d7,dV,errC,cx,if_false,if_true,reduceIte,reduceCtorEq,Nat.reduceSub,hh,hv2,h0,h1,h2,h3,h4,h5,h6,h7,h8,h9,h10] <;> rfl
 ·have h0:cI nm wd ln ds bd=ac:=eU (hprev 0 (by decide));have h1:cN wd=ac:=eU (hprev 1 (by decide));have h2:dB ln=ac:=eU (hprev 2 (by decide));have h3:¬256<ds.length:=gf.2 (d_no (hprev 3 (by decide)));have h4:aU ds.length (d8 ds)=aj:=aN (hprev 4 (by decide));have h5:aU ds.length (cL ds)=aj:=aN (hprev 5 (by decide));have h6:aU ds.length (bT ds)=aj:=aN (hprev 6 (by decide));have h7:aU ds.length (dF wd ds)=aj:=aN (hprev 7 (by decide));have h8:¬4096<cV ds:=Int.not_lt.2 (d_no (hprev 8 (by decide)));have h9:aX wd ds (things ds bd) 10=aj:=aY (hprev 9 (by decide));have h10:aX wd ds (things ds bd) 11=aj:=aY (hprev 10 (by decide));have h11:aX wd ds (things ds bd) 12=aj:=aY (hprev 11 (by decide));obtain⟨i,hh,hv⟩:=eS hb;have hv2:(cR nm wd ln ds bd 12).1=(i:Int):=hv;have hh:aX wd ds (things ds bd) 13=ae i:=hh
  simp only[cJ,d7,dV,errC,cx,if_false,if_true,reduceIte,reduceCtorEq,Nat.reduceSub,hh,hv2,h0,h1,h2,h3,h4,h5,h6,h7,h8,h9,h10,h11] <;> rfl
 ·have h0:cI nm wd ln ds bd=ac:=eU (hprev 0 (by decide));have h1:cN wd=ac:=eU (hprev 1 (by decide));have h2:dB ln=ac:=eU (hprev 2 (by decide));have h3:¬256<ds.length:=gf.2 (d_no (hprev 3 (by decide)));have h4:aU ds.length (d8 ds)=aj:=aN (hprev 4 (by decide));have h5:aU ds.length (cL ds)=aj:=aN (hprev 5 (by decide));have h6:aU ds.length (bT ds)=aj:=aN (hprev 6 (by decide));have h7:aU ds.length (dF wd ds)=aj:=aN (hprev 7 (by decide));have h8:¬4096<cV ds:=Int.not_lt.2 (d_no (hprev 8 (by decide)));have h9:aX wd ds (things ds bd) 10=aj:=aY (hprev 9 (by decide));have h10:aX wd ds (things ds bd) 11=aj:=aY (hprev 10 (by decide));have h11:aX wd ds (things ds bd) 12=aj:=aY (hprev 11 (by decide));have h12:aX wd ds (things ds bd) 13=aj:=aY (hprev 12 (by decide));obtain⟨i,hh,hv⟩:=eS hb;have hv2:(cR nm wd ln ds bd 13).1=(i:Int):=hv;have hh:aX wd ds (things ds bd) 14=ae i:=hh
  simp only[cJ,d7,dV,errC,cx,if_false,if_true,reduceIte,reduceCtorEq,Nat.reduceSub,hh,hv2,h0,h1,h2,h3,h4,h5,h6,h7,h8,h9,h10,h11,h12] <;> rfl
 ·have h0:cI nm wd ln ds bd=ac:=eU (hprev 0 (by decide));have h1:cN wd=ac:=eU (hprev 1 (by decide));have h2:dB ln=ac:=eU (hprev 2 (by decide));have h3:¬256<ds.length:=gf.2 (d_no (hprev 3 (by decide)));have h4:aU ds.length (d8 ds)=aj:=aN (hprev 4 (by decide));have h5:aU ds.length (cL ds)=aj:=aN (hprev 5 (by decide));have h6:aU ds.length (bT ds)=aj:=aN (hprev 6 (by decide));have h7:aU ds.length (dF wd ds)=aj:=aN (hprev 7 (by decide));have h8:¬4096<cV ds:=Int.not_lt.2 (d_no (hprev 8 (by decide)));have h9:aX wd ds (things ds bd) 10=aj:=aY (hprev 9 (by decide));have h10:aX wd ds (things ds bd) 11=aj:=aY (hprev 10 (by decide));have h11:aX wd ds (things ds bd) 12=aj:=aY (hprev 11 (by decide));have h12:aX wd ds (things ds bd) 13=aj:=aY (hprev 12 (by decide));have h13:aX wd ds (things ds bd) 14=aj:=aY (hprev 13 (by decide));obtain⟨i,hh,hv⟩:=eS hb;have hv2:(cR nm wd ln ds bd 14).1=(i:Int):=hv;have hh:aX wd ds (things ds bd) 15=ae i:=hh
  simp only[cJ,d7,dV,errC,cx,if_false,if_true,reduceIte,reduceCtorEq,Nat.reduceSub,hh,hv2,h0,h1,h2,h3,h4,h5,h6,h7,h8,h9,h10,h11,h12,h13] <;> rfl
 ·have h0:cI nm wd ln ds bd=ac:=eU (hprev 0 (by decide));have h1:cN wd=ac:=eU (hprev 1 (by decide));have h2:dB ln=ac:=eU (hprev 2 (by decide));have h3:¬256<ds.length:=gf.2 (d_no (hprev 3 (by decide)));have h4:aU ds.length (d8 ds)=aj:=aN (hprev 4 (by decide));have h5:aU ds.length (cL ds)=aj:=aN (hprev 5 (by decide));have h6:aU ds.length (bT ds)=aj:=aN (hprev 6 (by decide));have h7:aU ds.length (dF wd ds)=aj:=aN (hprev 7 (by decide));have h8:¬4096<cV ds:=Int.not_lt.2 (d_no (hprev 8 (by decide)));have h9:aX wd ds (things ds bd) 10=aj:=aY (hprev 9 (by decide));have h10:aX wd ds (things ds bd) 11=aj:=aY (hprev 10 (by decide));have h11:aX wd ds (things ds bd) 12=aj:=aY (hprev 11 (by decide));have h12:aX wd ds (things ds bd) 13=aj:=aY (hprev 12 (by decide));have h13:aX wd ds (things ds bd) 14=aj:=aY (hprev 13 (by decide));have h14:aX wd ds (things ds bd) 15=aj:=aY (hprev 14 (by decide));have hh:65536<dQ bd:=Nat.not_le.1 (d_yes hb)
  simp only[cJ,d7,dV,errC,cx,if_false,if_true,reduceIte,reduceCtorEq,Nat.reduceSub,hh,h0,h1,h2,h3,h4,h5,h6,h7,h8,h9,h10,h11,h12,h13,h14] <;> rfl
theorem faultS_none {nm:ByteArray}{wd ln:Int}{ds:List S70}{bd:List S119}(hprev:∀j,j<16->(cR nm wd ln ds bd j).2=O):cJ nm wd ln ds bd=⟨0,0,0⟩:=by
 have h0:cI nm wd ln ds bd=ac:=eU (hprev 0 (by decide));have h1:cN wd=ac:=eU (hprev 1 (by decide));have h2:dB ln=ac:=eU (hprev 2 (by decide));have h3:¬256<ds.length:=gf.2 (d_no (hprev 3 (by decide)));have h4:aU ds.length (d8 ds)=aj:=aN (hprev 4 (by decide));have h5:aU ds.length (cL ds)=aj:=aN (hprev 5 (by decide));have h6:aU ds.length (bT ds)=aj:=aN (hprev 6 (by decide));have h7:aU ds.length (dF wd ds)=aj:=aN (hprev 7 (by decide));have h8:¬4096<cV ds:=Int.not_lt.2 (d_no (hprev 8 (by decide)));have h9:aX wd ds (things ds bd) 10=aj:=aY (hprev 9 (by decide));have h10:aX wd ds (things ds bd) 11=aj:=aY (hprev 10 (by decide));have h11:aX wd ds (things ds bd) 12=aj:=aY (hprev 11 (by decide));have h12:aX wd ds (things ds bd) 13=aj:=aY (hprev 12 (by decide));have h13:aX wd ds (things ds bd) 14=aj:=aY (hprev 13 (by decide));have h14:aX wd ds (things ds bd) 15=aj:=aY (hprev 14 (by decide));have h15:¬65536<dQ bd:=gf.2 (d_no (hprev 15 (by decide)));simp only[cJ,d7,dV,errC,cx,if_false,if_true,reduceIte,reduceCtorEq,Nat.reduceSub,h0,h1,h2,h3,h4,h5,h6,h7,h8,h9,h10,h11,h12,h13,h14,h15]
section
attribute [local go_sem] G.cell
theorem run_store_fn (P:Program)(w:World)(a:Addr)(m:Mode)(fn:Fn)(x y:Array Value):(store a (.func fn x y) m).run P w=stored P w a (.func fn x y) m:=run_store P w a _ m rfl
attribute [local go_sem] run_store_fn
def BoxAt (b:Nat)(W:World):Prop:=b+17<=W.heap.size/\∀i,i<17->W.heap[b+i]? =(clL b)[i]?
theorem BoxAt.below {b:Nat}{W W':World}(h:BoxAt b W)(hb:Below W.heap.size W W'):BoxAt b W':=
 ⟨bg h.1 hb.size,fun i hi=>(hb.block (b+i) (by have:=h.1;omega)).trans (h.2 i hi)⟩
theorem lD {f:FuncId}{fn:Func}{c:Code}(hf:Tryz.prog.funcs[f]? =ae fn)(hname:(fn.name== "runtime.NumGoroutine")=O)(hb:fn.body=ae c)(args:Array Value)(w:World):(callFunc f args).run au w=.ok (.enter f args) w:=by
 have h1:fn.name≠ "runtime.NumGoroutine" :=by simpa using hname
 simp[callFunc,hf,h1,hb]
theorem enter87 (args:Array Value)(w:World):(callFunc 246 args).run au w=.ok (.enter 246 args) w:=lD Tryz.func246 (by kernel_rfl) rfl args w
theorem enter91 (args:Array Value)(w:World):(callFunc 247 args).run au w=.ok (.enter 247 args) w:=lD Tryz.func247 (by kernel_rfl) rfl args w
theorem enter93 (args:Array Value)(w:World):(callFunc 249 args).run au w=.ok (.enter 249 args) w:=lD Tryz.func249 (by kernel_rfl) rfl args w
theorem cF_cases {k:Nat}(hk:k<16):cF k=246\/cF k=247\/cF k=249:=by
 have hcs:k=0\/k=1\/k=2\/k=3\/k=4\/k=5\/k=6\/k=7\/k=8\/k=9\/k=10\/k=11\/k=12\/k=13\/k=14\/k=15:=by omega
 rcases hcs with rfl | rfl | rfl | rfl | rfl | rfl | rfl | rfl | rfl | rfl | rfl | rfl | rfl | rfl | rfl | rfl <;> decide
theorem enterF {k:Nat}(hk:k<16)(args:Array Value)(w:World):(callFunc (cF k) args).run au w=.ok (.enter (cF k) args) w:=by
 rcases cF_cases hk with h | h | h <;> rw[h]
 ·exact enter87 args w
 ·exact enter91 args w
 ·exact enter93 args w
def RowAt (b:Nat)(adr:Addr)(W:World):Prop:=adr=⟨b+16,0,aj⟩/\BoxAt b W
theorem RowAt.below {b:Nat}{adr:Addr}{W W':World}(h:RowAt b adr W)(hb:Below W.heap.size W W'):RowAt b adr W':=⟨h.1,h.2.below hb⟩
theorem RowAt.at {b:Nat}{adr:Addr}{W:World}(h:RowAt b adr W){k:Nat}(hk:k<16):W.cell? (adr.add (k*2))=ae (.int .i64 (cE k))/\W.cell? ⟨(adr.add (k*2)).block,(adr.add (k*2)).off+1,aj⟩=ae (.func (.func (cF k)) #[] #[.pointer (ae ⟨b+k,0,aj⟩)]):=by
 obtain⟨rfl,hb⟩:=h;have q:=hb.2 16 (by decide)
 have hcs:k=0\/k=1\/k=2\/k=3\/k=4\/k=5\/k=6\/k=7\/k=8\/k=9\/k=10\/k=11\/k=12\/k=13\/k=14\/k=15:=by omega
 rcases hcs with rfl | rfl | rfl | rfl | rfl | rfl | rfl | rfl | rfl | rfl | rfl | rfl | rfl | rfl | rfl | rfl <;> exact⟨(aB q _).trans rfl,(aB q _).trans rfl⟩
theorem clauses_v {w:World}(g:G w):Calls au 128 #[] g.W fun e w'=>∃(b:Nat) (adr:Addr) (g':G w),e=.returned (.slice (ae adr) 16 16)/\w'=g'.W/\RowAt b adr g'.W:=by
 refine(clauses_calls g.W).mono ?_;rintro _ _ ⟨rfl,rfl⟩;have hb:=gV (clL g.W.heap.size) g.W;refine⟨g.W.heap.size,⟨g.W.heap.size+16,0,aj⟩,⟨_,g.below.trans (hb.mono g.below.size)⟩,rfl,rfl,rfl,?_,fun i hi=>iS _ _ i (by simpa[clL]using hi)⟩;have q:=iS (clL g.W.heap.size) g.W 16 (by simp[clL]);have:=aR (q.trans (show(clL g.W.heap.size)[16]? =ae _ from rfl))
 show g.W.heap.size+17<=((clL g.W.heap.size).foldl World.alloc g.W).heap.size
 omega
theorem mD (nm:ByteArray)(wd ln:Int)(ds:List S70)(bd:List S119)(A3:Option Addr)(c3:Nat)(A4:Option Addr)(c4:Nat)(W:World)(hp:ProgAt W ds bd A3 c3 A4 c4)(hg:PGood nm wd ln ds bd)(r:Ans)(hr:r=cJ nm wd ln ds bd):
 Calls au 81 #[.agg #[.string nm,.int .i64 wd,.int .i64 ln,.slice A3 ds.length c3,.slice A4 bd.length c4]] W fun e w'=>e=.returned (.tuple #[.int .i64 r.c,.int .i64 r.at',.int .i64 r.e])/\Below W.heap.size W w':=by
 have gout:=@gA W;have PAt:=J hp;have HR:=J hr;have HG:=J hg;clear hp hr hg;go_enter Tryz.func81,Tryz.ntmps81
 go_upto_region 1 with (fail)
 refine aG ?_;intro gg;have goutW:∀(g:G (gw0 gg)),Below W.heap.size W g.W:=fun g=>gout g;go_wp2_with fail;refine(clauses_v gg).mono ?_;rintro _ _ ⟨b,adr,gg,rfl,rfl,hrow⟩;have HB:=J hrow;clear hrow;go_wp2_with fail
 go_loopw [11] (fun i X=>∃(k:Nat) (g:G (gw0 gg)),i=.int .i64 k/\X=g.W/\k<=16/\Aside0 (RowAt b adr g.W/\∀j,j<k->(cR nm wd ln ds bd j).2=O)) (fun i _=>16 - (intOf i).toNat)
 case atStart=>exact⟨0,gg,rfl,rfl,br _,⟨HB.out,fun j hj=>absurd hj (dn _)⟩⟩
 case round=>
  obtain⟨k,gx,rfl,rfl,hk,HK⟩:=hrel
  by_cases hlt:k<16
  ·have hk1:(k:Int)<16:=by omega
   obtain⟨fn,hfn⟩:∃fn,fn=cF k:=⟨_,rfl⟩;obtain⟨er,her⟩:∃er,er=cE k:=⟨_,rfl⟩;obtain⟨q0,q1⟩:=HK.out.1.at hlt;have hent:=enterF hlt;rw[←hfn]at q1 hent;rw[←her]at q0;have HF:=J (aq hfn her);clear hfn her
   go_upto_region 4 with (fail)
   refine aG ?_;intro g2;have goutX:∀(g:G (gw0 g2)),Below gx.W.heap.size gx.W g.W:=fun g=>((ak _ _).alloc (ai _) _).trans (g.below.mono (by simp[gw0]));have KB:∀g:G (gw0 g2),g.W.heap[W.heap.size]? =ae (.cells #[.string nm,.int .i64 wd,.int .i64 ln,.slice A3 ds.length c3,.slice A4 bd.length c4] 25 (0,0)):=fun g=>aE (aE (bR _ _) gx.below) (goutX g);have z0:∀g:G (gw0 g2),g.W.cell? ⟨W.heap.size,0,aj⟩=ae (.string nm):=fun g=>(aB (KB g) 0).trans rfl;have z1:∀g:G (gw0 g2),g.W.cell? ⟨W.heap.size,1,aj⟩=ae (.int .i64 wd):=fun g=>(aB (KB g) 1).trans rfl;have z2:∀g:G (gw0 g2),g.W.cell? ⟨W.heap.size,2,aj⟩=ae (.int .i64 ln):=fun g=>(aB (KB g) 2).trans rfl;have z3:∀g:G (gw0 g2),g.W.cell? ⟨W.heap.size,3,aj⟩=ae (.slice A3 ds.length c3):=fun g=>(aB (KB g) 3).trans rfl;have z4:∀g:G (gw0 g2),g.W.cell? ⟨W.heap.size,4,aj⟩=ae (.slice A4 bd.length c4):=fun g=>(aB (KB g) 4).trans rfl;clear KB;have goutY:∀(g:G (gw0 g2)),Below (gw0 gg).heap.size (gw0 gg) g.W:=fun g=>(gx.below.alloc gx.below.size _).trans (g.below.mono (bg gx.below.size (by simp[gw0])));obtain⟨p,hp⟩:∃p,p=cR nm wd ln ds bd k:=⟨_,rfl⟩;have C:=clause_calls nm wd ln ds bd A3 c3 A4 c4 b g2.W (PAt.out.below ((goutW gx).trans ((goutX g2).mono (goutW gx).size))) HG.out (fun i hi=>((HK.out.1.below (goutX g2)).2.2 i (by omega))) k hlt HK.out.2;rw[←HF.out.1,←hp]at C;have HC:=J C;have HP:=J hp;clear C hp;go_wp2_with fail;refine(aC (g:=g2) HC.out).mono ?_;rintro _ _ ⟨rfl,g2,rfl⟩
   rcases aH p.2 with hb | hb
   ·have HBB:=J hb;go_wp2_with fail;have y0:∀g:G g2.W,g.W.cell? ⟨gx.W.heap.size,0,aj⟩=ae (.int .i64 er):=fun g=>(aB (aE (aE (bR _ _) g2.below) g.below) 0).trans rfl;refine bE (by kernel_rfl) (by kernel_rfl) ?_
    repeat go_big_quiet_step (fail)
    refine wpQuiet_nil ?_;rintro _ ⟨gz,rfl⟩;go_wp2_with fail;go_ret3
    have e:r=⟨(k:Int)+1,p.1,er⟩:=by
     rw[HR.out,faultS_at hlt HK.out.2 (HP.out ▸ HBB.out),HF.out.2,HP.out]
    exact⟨fault_ret e,(goutW gx).trans (((goutX g2).trans (gz.below.mono (goutX g2).size)).mono (goutW gx).size)⟩
   ·have HBB:=J hb;go_wp2_with fail;exact⟨⟨k+1,mkG (goutY g2),by go_num,rfl,by omega,⟨HK.out.1.below (goutX g2),fun j hj=>(Decidable.em (j=k)).elim (fun h=>h ▸ HP.out ▸ HBB.out) (fun h=>HK.out.2 j (by omega))⟩⟩,by simp[intOf];omega⟩
  ·have hk1:¬(k:Int)<16:=by omega
   go_wp2_with fail;go_ret3
   have e:r=⟨0,0,0⟩:=by rw[HR.out,faultS_none fun j hj=>HK.out.2 j (by omega)]
   exact⟨fault_ret e,goutW _⟩
end
section
attribute [local go_sem] G.cell
theorem kY (nm:ByteArray)(wd ln:Int)(ds:List S70)(bd:List S119)(A3:Option Addr)(c3:Nat)(A4:Option Addr)(c4:Nat)(w:World)(hp:ProgAt w ds bd A3 c3 A4 c4)(hg:PGood nm wd ln ds bd)(r:Ans)(hr:r=cJ nm wd ln ds bd):
 Calls au 60 #[.agg #[.string nm,.int .i64 wd,.int .i64 ln,.slice A3 ds.length c3,.slice A4 bd.length c4]] w fun e w'=>e=.returned (.int .i64 r.e)/\Below w.heap.size w w':=by
 have gout:=@gA w;have PAt:=J hp;have HR:=J hr;have HG:=J hg;clear hp hr hg;go_enter Tryz.func60,Tryz.ntmps60
 go_upto_region 1 with (fail)
 refine aG ?_;intro gg;go_wp2_with fail;refine(aC (g:=gg) (mD nm wd ln ds bd A3 c3 A4 c4 gg.W (PAt.out.below (gout gg)) HG.out r HR.out)).mono ?_;rintro _ _ ⟨rfl,gg,rfl⟩;go_wp2_with fail;go_ret;exact⟨rfl,gout _⟩
theorem size_calls (nm:ByteArray)(wd ln:Int)(ds:List S70)(bd:List S119)(A3:Option Addr)(c3:Nat)(A4:Option Addr)(c4:Nat)(w:World)(hp:ProgAt w ds bd A3 c3 A4 c4)(hg:PGood nm wd ln ds bd)(r:Int × Int)(hr:r=sizeS 1099511627776 nm wd ln ds bd):
 Calls au 65 #[.agg #[.string nm,.int .i64 wd,.int .i64 ln,.slice A3 ds.length c3,.slice A4 bd.length c4]] w fun e w'=>e=.returned (.tuple #[.int .i64 r.1,.int .i64 r.2])/\Below w.heap.size w w':=by
 have gout:=@gA w;have PAt:=J hp;have HR:=J hr;have HG:=J hg;clear hp hr hg;obtain⟨f,hf⟩:∃f,f=cJ nm wd ln ds bd:=⟨_,rfl⟩;have HF:=J hf;clear hf;go_enter Tryz.func65,Tryz.ntmps65
 go_upto_region 1 with (fail)
 refine aG ?_;intro gg;go_wp2_with fail;refine(aC (g:=gg) (kY nm wd ln ds bd A3 c3 A4 c4 gg.W (PAt.out.below (gout gg)) HG.out f HF.out)).mono ?_;rintro _ _ ⟨rfl,gg,rfl⟩
 by_cases h:f.e=0
 ·have H:=J h
  have b:(f.e != 0)=O:=by simp[h]
  clear h;obtain⟨m,hm⟩:∃m,m=min (dQ bd) 1099511627776:=⟨_,rfl⟩;have HM:=J hm;clear hm;go_wp2_with fail;refine(aC (g:=gg) (size_v (mB _ bd (ai _) ((Ot.dC bd).2 HG.out.good.bd) HG.out.sizes.2) HM.out A4 c4 gg.W (Kd.aF PAt.out.hb (gout gg)) PAt.out.hlb)).mono ?_;rintro _ _ ⟨rfl,gg,rfl⟩;go_wp2_with fail;go_ret2
  have e:r=((m:Int),0):=by rw[HR.out,sizeS,←HF.out,if_pos H.out,HM.out]
  exact⟨ret_two (by rw[e]) (by rw[e]),gout _⟩
 ·have H:=J h;have b:=bn h;clear h;go_wp2_with fail;go_ret2
  have e:r=(0,f.e):=by rw[HR.out,sizeS,←HF.out,if_neg H.out]
  exact⟨ret_two (by rw[e]) (by rw[e]),gout _⟩
end
section
attribute [local go_sem] G.cell
structure Gi (A B:World):Prop where
 size:A.heap.size<=B.heap.size
 blk:∀(k:Nat) (cs:Array Value) (t:TypeId),A.heap[k]? =ae (.cells cs t (0,0))->t≠183->B.heap[k]? =ae (.cells cs t (0,0))
theorem Gi.of_below {A B:World}(h:Below A.heap.size A B):Gi A B:=⟨h.size,fun k cs t q _=>aE q h⟩
theorem Gi.rc {A:World}{b j:Nat}{u:Value}{cs0:Array Value}(h:A.heap[b]? =ae (.cells cs0 183 (0,0))):Gi A (A.setCell ⟨b,j,aj⟩ u):=⟨by simp[fo],fun k cs t q hne=>(cy _ _ _ k (gS q h hne)).trans q⟩
theorem Gi.trans {A B C:World}(h:Gi A B)(k:Gi B C):Gi A C:=⟨bg h.size k.size,fun i cs t q hne=>k.blk i cs t (h.blk i cs t q hne) hne⟩
structure Gs (Wb W W':World):Prop where
 below:Below Wb.heap.size Wb W'
 size:W.heap.size<=W'.heap.size
 blk:∀(k:Nat) (cs:Array Value) (t:TypeId),W.heap[k]? =ae (.cells cs t (0,0))->t=121\/t=25->W'.heap[k]? =ae (.cells cs t (0,0))
theorem Gs.refl {Wb W:World}(h:Below Wb.heap.size Wb W):Gs Wb W W:=⟨h,ai _,fun _ _ _ q _=>q⟩
theorem Gs.trans {Wb A B C:World}(h:Gs Wb A B)(k:Gs Wb B C):Gs Wb A C:=⟨k.below,bg h.size k.size,fun i cs t q ht=>k.blk i cs t (h.blk i cs t q ht) ht⟩
theorem Gs.of_gi {Wb W W':World}(hB:Below Wb.heap.size Wb W')(h:Gi W W'):Gs Wb W W':=⟨hB,h.size,fun k cs t q ht=>h.blk k cs t q (by rcases ht with rfl | rfl <;> decide)⟩
theorem Gs.of_below {Wb W W':World}(hB:Below Wb.heap.size Wb W)(h:Below W.heap.size W W'):Gs Wb W W':=Gs.of_gi (hB.trans (h.mono hB.size)) (Gi.of_below h)
theorem aW.gs {Wb W W':World}(h:Gs Wb W W'):∀{lo:List ByteArray} {v:Value},aW W v lo->aW W' v lo
 | [],v,h=>h
 |nm::r,v,⟨c,nx,hv,hc,hr⟩=>⟨c,nx,hv,h.blk c _ 121 hc (.inl rfl),aW.gs h hr⟩
theorem ThP.gs {Wb W W':World}{dp sp ep:Value}{dI:Int}{lp:Value}{t:Th}(h:ThP Wb W dp sp ep dI lp t)(hg:Gs Wb W W'):ThP Wb W' dp sp ep dI lp t:=by
 cases t with
 |decl i=>exact h
 |stmt s d lo=>exact⟨h.1,h.2.1,h.2.2.1,h.2.2.2.1,h.2.2.2.2.gs hg⟩
 |expr e lo=>exact⟨h.1,h.2.1,h.2.2.1,h.2.2.2.1,h.2.2.2.2.gs hg⟩
abbrev mC (cf:FuncId)(caps:Array Value):Value:=.func (.func cf) #[] caps
structure SeeS (Wb:World)(cf:FuncId)(caps:Array Value)(I:List Th->World->Prop)(L:List Th):Prop where
 enter:∀args w,(callFunc cf args).run au w=.ok (.enter cf args) w
 stay:∀pre A B,I pre A->Gi A B->I pre B
 see:∀(W:World) (n:Nat) (pre:List Th) (dp sp ep:Value) (dI:Int) (lp:Value) (t:Th) (rest:List Th),n=pre.length->L=pre++t::rest->Below Wb.heap.size Wb W->ThP Wb W dp sp ep dI lp t->I pre W->
  Calls au cf (#[.agg #[.int .i64 n,dp,sp,ep,.int .i64 dI,lp]]++caps) W fun r W'=>r=.returned (.tuple #[])/\I (pre++[t]) W'/\Gs Wb W W'/\∀(k:Nat) (cs:Array Value),W.heap[k]? =ae (.cells cs 183 (0,0))->W'.heap[k]? =ae (.cells cs 183 (0,0))
theorem tellS {Wb:World}{b:Nat}{cf:FuncId}{caps:Array Value}{I:List Th->World->Prop}{L:List Th}(hs:SeeS Wb cf caps I L)(hbb:Wb.heap.size<=b)(W:World)(n:Nat)(hn:n<4611686018427387904)(pre rest:List Th)(hnp:n=pre.length)(dp sp ep:Value)(n0 dI:Int)(lp:Value)(t:Th)(hL:L=pre++t::rest)(hB:Below Wb.heap.size Wb W)
 (hw:W.heap[b]? =ae (.cells #[.int .i64 n,mC cf caps] 183 (0,0))) (ht:ThP Wb W dp sp ep dI lp t) (hI:I pre W):
 Calls au 122 #[.pointer (ae ⟨b,0,aj⟩),.agg #[.int .i64 n0,dp,sp,ep,.int .i64 dI,lp]] W fun r W'=>r=.returned (.tuple #[])/\W'.heap[b]? =ae (.cells #[.int .i64 ((n+1:Nat):Int),mC cf caps] 183 (0,0))/\Gs Wb W W'/\I (pre++[t]) W':=by
 have c0:W.cell? ⟨b,0,aj⟩=ae (.int .i64 n):=(aB hw 0).trans rfl;have c1:W.cell? ⟨b,1,aj⟩=ae (mC cf caps):=(aB hw 1).trans rfl;have f0:=bS hw 0;have hlt:=aR hw;have hw1:wrap64 ((n:Int)+1)=((n+1:Nat):Int):=fP (by omega);have HS:=J hs;have HRT:=J (aq hnp (aq hL hI));clear hnp hL hI;have HT:=J ht;have HW:=J hw;have HB:=J hB;have HBB:=J hbb;clear hs ht hw hB hbb;go_enter Tryz.func122,Tryz.ntmps122
 go_upto_region 3 with (fail)
 refine aG ?_;intro gg;have HX:=J (show Below Wb.heap.size Wb (gw0 gg)/\Gi W (gw0 gg) from⟨(HB.out.setCell (p:=⟨b,0,aj⟩) HBB.out _).alloc (bg HB.out.size (by simp[fo])) _,(Gi.rc HW.out).trans (Gi.of_below ((ak _ _).alloc (ai _) _))⟩);have HLT:=J hlt
 have HXB:=J (show(gw0 gg).heap[b]? =ae (.cells #[.int .i64 ((n+1:Nat):Int),mC cf caps] 183 (0,0)) by
  rw[dr _ _ _ (by simpa[fo]using hlt)]
  exact gL HW.out 0 _ rfl)
 have y1:∀g':G (gw0 gg),g'.W.cell? ⟨b,1,aj⟩=ae (mC cf caps):=fun g'=>(g'.below.cell (p:=⟨b,1,aj⟩) (ee HLT.out HX.out.2.size)).trans ((aB HXB.out 1).trans rfl);clear c0 c1 f0 hlt;refine gG (n:=6) (S:=fun w'=>∃g':G (gw0 gg),w'=g'.W) (ds:=[5]) #[O,O,O,O,O,O] (by kernel_rfl) rfl rfl ⟨mkG (gg.2.drew),rfl⟩ (fun hHeld=> ?_);obtain⟨gd,hgd⟩:=hHeld;rw[hgd];clear hgd;refine bN (i:=0) (N:=ae 16) (v:= ?_) (a':= ?_) #[ac,O,O,O,O,O] rfl rfl (by kernel_rfl) (fun _ _ _ h=>h) (bi ⟨by rfl,?_⟩) ?_ ?_;rotate_left
 ·intro w';go_simp;with_reducible rfl
 rotate_left
 ·simp only[ay,aa,af,ag,aQ,aP];rfl
 refine bN (i:=1) (N:=ae 17) (v:= ?_) (a':= ?_) #[ac,ac,O,O,O,O] rfl rfl (by kernel_rfl) (fun _ _ _ h=>h) (bi ⟨by rfl,?_⟩) ?_ ?_;rotate_left
 ·intro w';go_simp;with_reducible rfl
 rotate_left
 ·simp only[ay,aa,af,ag,aQ,aP];rfl
 refine bN (i:=2) (N:=ae 18) (v:= ?_) (a':= ?_) #[ac,ac,ac,O,O,O] rfl rfl (by kernel_rfl) (fun _ _ _ h=>h) (bi ⟨by rfl,?_⟩) ?_ ?_;rotate_left
 ·intro w';go_simp;with_reducible rfl
 rotate_left
 ·simp only[ay,aa,af,ag,aQ,aP];rfl
 refine eO (i:=3) (N:=ae 19) (v:= ?_) (a':= ?_) #[ac,ac,ac,ac,O,O] rfl rfl (by kernel_rfl) (fun _ _ _ h=>h) (bi ⟨by rfl,?_⟩) ⟨gd,rfl⟩ ?_ ?_;rotate_left
 ·rintro w' ⟨g',rfl⟩;go_simp;with_reducible rfl
 rotate_left
 ·simp only[ay,aa,af,ag,aQ,aP];rfl
 refine eO (i:=4) (N:=ae 20) (v:= ?_) (a':= ?_) #[ac,ac,ac,ac,ac,O] rfl rfl (by kernel_rfl) (fun _ _ _ h=>h) (bi ⟨by rfl,?_⟩) ⟨gd,rfl⟩ ?_ ?_;rotate_left
 ·rintro w' ⟨g',rfl⟩;go_simp;with_reducible rfl
 rotate_left
 ·simp only[ay,aa,af,ag,aQ,aP];rfl
 refine last_ (i:=5) (N:=ae 21) #[ac,ac,ac,ac,ac,ac] rfl rfl (by kernel_rfl) (by simp) (fun K hK=> ?_);have eg:=HS.out.enter;refine call_ cf (#[.agg #[.int .i64 n,dp,sp,ep,.int .i64 dI,lp]]++caps) (by rfl) rfl (by first | (go_simp;done) | (go_simp;rfl) | (simp[execOp,resolve,Deferred.ofValue,invoke,Act.eval,eg];done)) ?_;refine(HS.out.see gd.W n pre dp sp ep dI lp t rest HRT.out.1 HRT.out.2.1 (HX.out.1.trans (gd.below.mono HX.out.1.size)) (HT.out.gs (Gs.of_gi (HX.out.1.trans (gd.below.mono HX.out.1.size)) (HX.out.2.trans (Gi.of_below gd.below)))) (HS.out.stay _ _ _ HRT.out.2.2 (HX.out.2.trans (Gi.of_below gd.below)))).mono ?_;rintro _ w9 ⟨rfl,hI9,hG9,hk9⟩;refine⟨_,rfl,?_⟩;have HE:=J (show w9.heap[b]? =ae (.cells #[.int .i64 ((n+1:Nat):Int),mC cf caps] 183 (0,0))/\Gs Wb W w9/\I (pre++[t]) w9 from⟨hk9 _ _ (aE HXB.out gd.below),(Gs.of_gi (HX.out.1.trans (gd.below.mono HX.out.1.size)) (HX.out.2.trans (Gi.of_below gd.below))).trans hG9,hI9⟩);clear eg hI9 hG9 hk9;refine hK.out _ _ ?_;clear hK K;refine cG (a':= ?_) ?_ ?_;rotate_left
 ·show ay _ (ae 21) _ = _
  simp only[ay,aa,af,ag,aQ,aP];rfl
 refine kG (by kernel_rfl) ?_;go_wp2_with fail
 first | go_end0 | skip
 exact⟨rfl,HE.out.1,HE.out.2.1,HE.out.2.2⟩
end
section
attribute [local go_sem] G.cell
def WExS (Wb:World)(b:Nat)(cf:FuncId)(caps:Array Value)(I:List Th->World->Prop)(L:List Th)(e:S116):Prop:=∀(W:World) (n:Nat) (pre rest:List Th) (p lp:Value) (lo:List ByteArray),n=pre.length->L=pre++(bJ e lo++rest)->Below Wb.heap.size Wb W->W.heap[b]? =ae (.cells #[.int .i64 n,mC cf caps] 183 (0,0))->ExAt Wb p e->aW W lp lo.reverse->n+aO e<4611686018427387904->I pre W->
 Calls au 169 #[.pointer (ae ⟨b,0,aj⟩),p,lp] W fun r W'=>r=.returned (.tuple #[])/\W'.heap[b]? =ae (.cells #[.int .i64 ((n+aO e:Nat):Int),mC cf caps] 183 (0,0))/\Gs Wb W W'/\I (pre++bJ e lo) W'
theorem wexS_walk {Wb:World}{b:Nat}{cf:FuncId}{caps:Array Value}{I:List Th->World->Prop}{L:List Th}(hs:SeeS Wb cf caps I L)(hbb:Wb.heap.size<=b)(e:S116)(ih:∀y∈e.f3,WExS Wb b cf caps I L y):WExS Wb b cf caps I L e:=by
 intro W n pre rest p lp lo hnp hL hB hw hx hsc hn hI;have HX:=J hx;obtain⟨lq,rfl⟩:=hsc.ptr;obtain⟨a,A,c,rfl,hr,hl,hC⟩:=hx;have HS:=J hs;have HL:=J (aq hnp (aq hL hI));clear hnp hL hI;have HW:=J hw;have HB:=J hB;have HBB:=J hbb;have HSC:=J hsc;have HN:=J hn;have IH:=J ih;have HRG:=J hr;have HC:=J hC;have hlm:=hC.2.1;clear hs hw hB hbb hsc hn ih hr hC;go_enter Tryz.func169,Tryz.ntmps169;go_wp2_with fail;refine(tellS HS.out HBB.out W n (by have:=HN.out;omega) pre (bY e.f3 lo++rest) HL.out.1 (.pointer aj) (.pointer aj) (.pointer (ae ⟨a.block,a.off,aj⟩)) 0 0 (.pointer lq) (.expr e lo) (by rw[HL.out.2.1,eW];rfl) HB.out HW.out ⟨rfl,rfl,HX.out,rfl,HSC.out⟩ HL.out.2.2).mono ?_;rintro _ W1 ⟨rfl,hw1,hg1,hI1⟩;have HR1:=J (aq hw1 (aq hg1 hI1));have z3:W1.cell? ⟨a.block,a.off+3,aj⟩=ae (.slice A e.f3.length c):=aM hg1.below (HRG.out 3 _ rfl);clear hw1 hg1 hI1;go_wp2_with fail
 go_loopw [17] (fun i W=>∃(k:Nat) (W2:World),i=.int .i64 k/\W2=W/\k<=e.f3.length/\Aside0 (W2.heap[b]? =ae (.cells #[.int .i64 ((n+1+bD (e.f3.take k):Nat):Int),mC cf caps] 183 (0,0))/\Gs Wb W1 W2/\I (pre++(.expr e lo::bY (e.f3.take k) lo)) W2)) (fun i _=>e.f3.length - (intOf i).toNat)
 case atStart=>exact⟨0,_,rfl,rfl,br _,⟨by simpa[bD]using HR1.out.1,Gs.refl HR1.out.2.1.below,by simpa[bY]using HR1.out.2.2⟩⟩
 case round=>
  obtain⟨k,W2,rfl,rfl,hk,HK⟩:=hrel
  by_cases hlt:k<e.f3.length
  ·obtain⟨ad,e1,hkid⟩:=ex_kid HC.out hlt;cases e1;have HKID:=J hkid;clear hkid
   have hk1:(k:Int)<(e.f3.length:Int):=by omega
   have z3:W2.cell? ⟨a.block,a.off+3,aj⟩=ae (.slice (ae ad) e.f3.length c):=aM HK.out.2.1.below (HRG.out 3 _ rfl);have MEM:=J (gX hlt);have T:=J (aq (congrArg bD (cP hlt)) (congrArg (fun l=>bY l lo) (cP hlt)));have SP:=J (lW e.f3 k hlt lo);have WT:=J (fD e.f3 (k+1));obtain⟨y,hy⟩:∃y,y=bF e.f3 (k:Int):=⟨_,rfl⟩;rw[←hy]at HKID MEM T SP;clear hy
   have HNY:n+1+bD (e.f3.take k)+aO y<4611686018427387904:=by
    have h1:=HN.out;have h2:=T.out.1;have h3:=WT.out;rw[dR]at h2;rw[eC]at h1;omega
   have HNY:=J HNY;go_wp2_with fail;refine(IH.out _ MEM.out W2 (n+1+bD (e.f3.take k)) (pre++(.expr e lo::bY (e.f3.take k) lo)) (bY (e.f3.drop (k+1)) lo++rest) (.pointer (ae (ad.add (k*4)))) (.pointer lq) lo (by rw[ar,List.length_cons,gM,←HL.out.1];omega) (by rw[HL.out.2.1,eW,SP.out];simp) HK.out.2.1.below HK.out.1 HKID.out (HSC.out.gs (HR1.out.2.1.trans HK.out.2.1)) HNY.out HK.out.2.2).mono ?_;rintro _ W3 ⟨rfl,hw3,hg3,hI3⟩;have HR3:=J (aq hw3 (aq hg3 hI3));clear hw3 hg3 hI3;go_wp2_with fail;refine⟨⟨k+1,W3,by go_num,rfl,by omega,⟨?_,HK.out.2.1.trans HR3.out.2.1,?_⟩⟩,by simp[intOf];omega⟩
   ·have h1:=HR3.out.1;have h2:=T.out.1;rw[dR]at h2;rw[h2,←db];exact h1
   ·have h2:=T.out.2;simp only[i9]at h2;rw[h2]
    simpa using HR3.out.2.2
  ·go_wp2_with fail
   first | go_end0 | skip
   have hke:k=e.f3.length:=by omega
   have h1:=HK.out;rw[hke,df]at h1;refine⟨rfl,?_,HR1.out.2.1.trans h1.2.1,?_⟩
   ·rw[eC,←db];exact h1.1
   ·rw[eW];exact h1.2.2
theorem iB {Wb:World}{b:Nat}{cf:FuncId}{caps:Array Value}{I:List Th->World->Prop}{L:List Th}(hs:SeeS Wb cf caps I L)(hbb:Wb.heap.size<=b):∀(n:Nat) (e:S116),cu e<=n->WExS Wb b cf caps I L e:=by
 intro n
 induction n with
 |zero=>intro e h;obtain⟨a,b,s,l⟩:=e;simp at h
 |succ n ih=>exact fun e h=>wexS_walk hs hbb e fun y hy=>ih y (fO rfl hy h)
end
section
attribute [local go_sem] G.cell
theorem lenP {α:Type}{pre x:List α}{n:Nat}(h:n=pre.length):n+x.length=(pre++x).length:=by rw[ar,h]
def WStS (Wb:World)(b:Nat)(cf:FuncId)(caps:Array Value)(I:List Th->World->Prop)(L:List Th)(l:List S119):Prop:=∀(W:World) (n:Nat) (pre rest:List Th) (lp:Value) (lo:List ByteArray) (A:Option Addr) (c d:Nat) (dI:Int),n=pre.length->L=pre++(aD l d lo++rest)->dI=(d:Int)->bdB l=ac->Below Wb.heap.size Wb W->W.heap[b]? =ae (.cells #[.int .i64 n,mC cf caps] 183 (0,0))->cU.C Wb A l.length l->l.length<=c->aW W lp lo.reverse->n+(aD l d lo).length<4611686018427387904->d+Ot.bH l<4611686018427387904->I pre W->
 Calls au 123 #[.pointer (ae ⟨b,0,aj⟩),.slice A l.length c,.int .i64 dI,lp] W fun r W'=>r=.returned (.tuple #[])/\W'.heap[b]? =ae (.cells #[.int .i64 ((n+(aD l d lo).length:Nat):Int),mC cf caps] 183 (0,0))/\Gs Wb W W'/\I (pre++aD l d lo) W'
theorem wstS_walk {Wb:World}{b:Nat}{cf:FuncId}{caps:Array Value}{I:List Th->World->Prop}{L:List Th}(hs:SeeS Wb cf caps I L)(hbb:Wb.heap.size<=b)(l:List S119)(ih:∀x∈l,WStS Wb b cf caps I L x.f6/\WStS Wb b cf caps I L x.f7):WStS Wb b cf caps I L l:=by
 intro W n pre rest lp lo A c d dI hnp hL hdI hform hB hw hC hl hsc hn hd hI;obtain⟨lq,rfl⟩:=hsc.ptr;subst hdI;have HS:=J hs;have HL:=J (aq hnp (aq hL hI));clear hnp hL hI;have HW:=J hw;have HB:=J hB;have HBB:=J hbb;have HSC:=J hsc;have HN:=J (aq hn hd);have IH:=J ih;have HF:=J hform;have HC:=J hC;have hlm:=hC.2.1;clear hs hw hB hbb hsc hn hd ih hform hC;go_enter Tryz.func123,Tryz.ntmps123;go_wp2_with fail
 go_loopw [12] (fun i W3=>∃(k:Nat) (W2:World),i=.int .i64 k/\W2=W3/\k<=l.length/\Aside0 (W2.heap[b]? =ae (.cells #[.int .i64 ((n+(aD (l.take k) d lo).length:Nat):Int),mC cf caps] 183 (0,0))/\Gs Wb W W2/\I (pre++aD (l.take k) d lo) W2)) (fun i _=>l.length - (intOf i).toNat)
 case atStart=>exact⟨0,_,rfl,rfl,br _,⟨by simpa[aD]using HW.out,Gs.refl HB.out,by simpa[aD]using HL.out.2.2⟩⟩
 case round=>
  obtain⟨k,W2,rfl,rfl,hk,HK⟩:=hrel
  by_cases hlt:k<l.length
  ·obtain⟨ad,bb,oo,A5,c5,A9,c9,A12,c12,A13,c13,e1,he,hrg,l5,g5,l9,g9,l12,g12,l13,g13⟩:=st_kid HC.out hlt;cases e1
   have hk1:(k:Int)<(l.length:Int):=by omega
   have MEM:=jH hlt;have IH1:=J (IH.out _ MEM);have FM:=J (st_form (bd_mem HF.out MEM));have BK:=J (aq (iA MEM) (aZ (aI l (k:Int))));have SP:=J (kU l k hlt d lo);have T:=J (congrArg (fun l=>aD l d lo) (eT hlt));clear MEM
   have kk:(aI l (k:Int)).f0=1\/(aI l (k:Int)).f0=2\/(aI l (k:Int)).f0=3\/(aI l (k:Int)).f0=4\/(aI l (k:Int)).f0=5:=by have:=FM.out.1;have:=FM.out.2.1;omega
   generalize aI l (k:Int)=y at*;have ST:=J (show StAt Wb (.pointer (ae ⟨bb,oo,aj⟩)) y from⟨⟨bb,oo,aj⟩,A5,c5,A9,c9,A12,c12,A13,c13,rfl,hrg,l5,g5,l9,g9,l12,g12,l13,g13⟩);have EA:=J (show ExAt Wb (.pointer (ae ⟨bb,oo+2,aj⟩)) y.f2 from⟨⟨bb,oo+2,aj⟩,A5,c5,rfl,jK 2 hrg (fun j v hj=>by match j,hj with | 0,hj=>exact hj | 1,hj=>exact hj | 2,hj=>exact hj | 3,hj=>exact hj | j+4,hj=>simp at hj),l5,g5⟩);have EE:=J (show ExAt Wb (.pointer (ae ⟨bb,oo+6,aj⟩)) y.f3 from⟨⟨bb,oo+6,aj⟩,A9,c9,rfl,jK 6 hrg (fun j v hj=>by match j,hj with | 0,hj=>exact hj | 1,hj=>exact hj | 2,hj=>exact hj | 3,hj=>exact hj | j+4,hj=>simp at hj),l9,g9⟩);have RG:=J hrg;have K:=J (aq l12 (aq g12 (aq l13 g13)));clear hrg l5 g5 l9 g9 l12 g12 l13 g13;have NB:=J (show n+(aD (l.take k) d lo).length+((jN y d lo).length+(aD (l.drop (k+1)) d lo).length)<4611686018427387904 by have h1:=HN.out.1;rw[SP.out,ar,ar]at h1;omega);go_wp2_with fail;refine(tellS HS.out HBB.out W2 (n+(aD (l.take k) d lo).length) (by have:=NB.out;omega) (pre++aD (l.take k) d lo) ((jN y d lo).tail++(aD (l.drop (k+1)) d lo++rest)) (by rw[ar,←HL.out.1]) (.pointer aj) (.pointer (ae ⟨bb,oo,aj⟩)) (.pointer aj) 0 (d:Int) (.pointer lq) (.stmt y d lo) (by rw[HL.out.2.1,SP.out,cK];simp) HK.out.2.1.below HK.out.1 ⟨rfl,ST.out,rfl,rfl,HSC.out.gs HK.out.2.1⟩ HK.out.2.2).mono ?_;rintro _ W3 ⟨rfl,hw1,hg1,hI1⟩;have H1:=J (show W3.heap[b]? =ae (.cells #[.int .i64 ((n+(aD (l.take k) d lo++[Th.stmt y d lo]).length:Nat):Int),mC cf caps] 183 (0,0))/\Gs Wb W W3/\I (pre++(aD (l.take k) d lo++[Th.stmt y d lo])) W3 from⟨by rw[ar,az,←db];exact hw1,HK.out.2.1.trans hg1,by rw[←bh];exact hI1⟩);clear hw1 hg1 hI1;have q0:W3.cell? ⟨bb,oo,aj⟩=ae (.int .i64 y.f0):=aM H1.out.2.1.below (RG.out 0 _ rfl)
   rcases kk with h0 | h0 | h0 | h0 | h0
   ·rw[h0]at q0;have H0:=J h0;clear h0
    have SPK:=J (show jN y d lo=Th.stmt y d lo::((bJ y.f3 lo)) by
     have FE:=FM.out.2.2.1 (by have:=H0.out;omega);rw[cK]
     simp[H0.out,FE.1,FE.2,aD])
    go_wp2_with fail;have FULL:=J (show aD l d lo=(aD (l.take k) d lo++[Th.stmt y d lo])++(bJ y.f3 lo++(aD (l.drop (k+1)) d lo)) by rw[SP.out,SPK.out];simp);have BN:=J (show n+(aD (l.take k) d lo++[Th.stmt y d lo]).length+(bJ y.f3 lo).length<4611686018427387904 by have h1:=HN.out.1;rw[FULL.out]at h1;simp only[ar]at h1 ⊢;omega);have C:=iB HS.out HBB.out _ y.f3 (ai _) W3 (n+(aD (l.take k) d lo++[Th.stmt y d lo]).length) (pre++(aD (l.take k) d lo++[Th.stmt y d lo])) ((aD (l.drop (k+1)) d lo)++rest) (.pointer (ae ⟨bb,oo+6,aj⟩)) (.pointer lq) lo (lenP HL.out.1) (by rw[HL.out.2.1,FULL.out];simp) H1.out.2.1.below H1.out.1 EE.out (HSC.out.gs H1.out.2.1) (by have:=BN.out;rw[bB]at this;exact this) H1.out.2.2;refine C.mono ?_;clear C;rintro _ W4 ⟨rfl,hw3,hg3,hI3⟩;have H2:=J (show W4.heap[b]? =ae (.cells #[.int .i64 ((n+(aD (l.take k) d lo++[Th.stmt y d lo]++bJ y.f3 lo).length:Nat):Int),mC cf caps] 183 (0,0))/\Gs Wb W W4/\I (pre++(aD (l.take k) d lo++[Th.stmt y d lo]++bJ y.f3 lo)) W4 from⟨by rw[ar,bB,←db];exact hw3,H1.out.2.1.trans hg3,by rw[←bh];exact hI3⟩);clear hw3 hg3 hI3 FULL BN;go_wp2_with fail
    have HX:=J (show aD (l.take k) d lo++[Th.stmt y d lo]++bJ y.f3 lo=aD (l.take (k+1)) d lo by
     have h2:=T.out;simp only[bW]at h2
     rw[h2,SPK.out] <;> simp)
    refine⟨⟨k+1,W4,by go_num,rfl,by omega,⟨?_,H2.out.2.1,?_⟩⟩,by simp[intOf];omega⟩
    ·rw[←HX.out];exact H2.out.1
    ·rw[←HX.out];exact H2.out.2.2
   ·rw[h0]at q0;have H0:=J h0;clear h0
    have SPK:=J (show jN y d lo=Th.stmt y d lo::((bJ y.f2 lo)++(bJ y.f3 lo)) by
     have FE:=FM.out.2.2.1 (by have:=H0.out;omega);rw[cK]
     simp[H0.out,FE.1,FE.2,aD])
    go_wp2_with fail;have FULL:=J (show aD l d lo=(aD (l.take k) d lo++[Th.stmt y d lo])++(bJ y.f2 lo++(bJ y.f3 lo++(aD (l.drop (k+1)) d lo))) by rw[SP.out,SPK.out];simp);have BN:=J (show n+(aD (l.take k) d lo++[Th.stmt y d lo]).length+(bJ y.f2 lo).length<4611686018427387904 by have h1:=HN.out.1;rw[FULL.out]at h1;simp only[ar]at h1 ⊢;omega);have C:=iB HS.out HBB.out _ y.f2 (ai _) W3 (n+(aD (l.take k) d lo++[Th.stmt y d lo]).length) (pre++(aD (l.take k) d lo++[Th.stmt y d lo])) ((bJ y.f3 lo++(aD (l.drop (k+1)) d lo))++rest) (.pointer (ae ⟨bb,oo+2,aj⟩)) (.pointer lq) lo (lenP HL.out.1) (by rw[HL.out.2.1,FULL.out];simp) H1.out.2.1.below H1.out.1 EA.out (HSC.out.gs H1.out.2.1) (by have:=BN.out;rw[bB]at this;exact this) H1.out.2.2;refine C.mono ?_;clear C;rintro _ W4 ⟨rfl,hw3,hg3,hI3⟩;have H2:=J (show W4.heap[b]? =ae (.cells #[.int .i64 ((n+(aD (l.take k) d lo++[Th.stmt y d lo]++bJ y.f2 lo).length:Nat):Int),mC cf caps] 183 (0,0))/\Gs Wb W W4/\I (pre++(aD (l.take k) d lo++[Th.stmt y d lo]++bJ y.f2 lo)) W4 from⟨by rw[ar,bB,←db];exact hw3,H1.out.2.1.trans hg3,by rw[←bh];exact hI3⟩);clear hw3 hg3 hI3 FULL BN;go_wp2_with fail;have FULL:=J (show aD l d lo=(aD (l.take k) d lo++[Th.stmt y d lo]++bJ y.f2 lo)++(bJ y.f3 lo++(aD (l.drop (k+1)) d lo)) by rw[SP.out,SPK.out];simp);have BN:=J (show n+(aD (l.take k) d lo++[Th.stmt y d lo]++bJ y.f2 lo).length+(bJ y.f3 lo).length<4611686018427387904 by have h1:=HN.out.1;rw[FULL.out]at h1;simp only[ar]at h1 ⊢;omega);have C:=iB HS.out HBB.out _ y.f3 (ai _) W4 (n+(aD (l.take k) d lo++[Th.stmt y d lo]++bJ y.f2 lo).length) (pre++(aD (l.take k) d lo++[Th.stmt y d lo]++bJ y.f2 lo)) ((aD (l.drop (k+1)) d lo)++rest) (.pointer (ae ⟨bb,oo+6,aj⟩)) (.pointer lq) lo (lenP HL.out.1) (by rw[HL.out.2.1,FULL.out];simp) H2.out.2.1.below H2.out.1 EE.out (HSC.out.gs H2.out.2.1) (by have:=BN.out;rw[bB]at this;exact this) H2.out.2.2;refine C.mono ?_;clear C;rintro _ W5 ⟨rfl,hw3,hg3,hI3⟩;have H3:=J (show W5.heap[b]? =ae (.cells #[.int .i64 ((n+(aD (l.take k) d lo++[Th.stmt y d lo]++bJ y.f2 lo++bJ y.f3 lo).length:Nat):Int),mC cf caps] 183 (0,0))/\Gs Wb W W5/\I (pre++(aD (l.take k) d lo++[Th.stmt y d lo]++bJ y.f2 lo++bJ y.f3 lo)) W5 from⟨by rw[ar,bB,←db];exact hw3,H2.out.2.1.trans hg3,by rw[←bh];exact hI3⟩);clear hw3 hg3 hI3 FULL BN;go_wp2_with fail
    have HX:=J (show aD (l.take k) d lo++[Th.stmt y d lo]++bJ y.f2 lo++bJ y.f3 lo=aD (l.take (k+1)) d lo by
     have h2:=T.out;simp only[bW]at h2
     rw[h2,SPK.out] <;> simp)
    refine⟨⟨k+1,W5,by go_num,rfl,by omega,⟨?_,H3.out.2.1,?_⟩⟩,by simp[intOf];omega⟩
    ·rw[←HX.out];exact H3.out.1
    ·rw[←HX.out];exact H3.out.2.2
   ·rw[h0]at q0;have H0:=J h0;clear h0
    have SPK:=J (show jN y d lo=Th.stmt y d lo::((bJ y.f3 lo)++(aD y.f6 (d+1) lo)++(aD y.f7 (d+1) lo)) by
     skip
     rw[cK]
     simp[H0.out,inLoop])
    have KQ:=J (aq (RG.out 12 _ rfl) (RG.out 13 _ rfl));go_wp2_with fail;have FULL:=J (show aD l d lo=(aD (l.take k) d lo++[Th.stmt y d lo])++(bJ y.f3 lo++(aD y.f6 (d+1) lo++(aD y.f7 (d+1) lo++(aD (l.drop (k+1)) d lo)))) by rw[SP.out,SPK.out];simp);have BN:=J (show n+(aD (l.take k) d lo++[Th.stmt y d lo]).length+(bJ y.f3 lo).length<4611686018427387904 by have h1:=HN.out.1;rw[FULL.out]at h1;simp only[ar]at h1 ⊢;omega);have C:=iB HS.out HBB.out _ y.f3 (ai _) W3 (n+(aD (l.take k) d lo++[Th.stmt y d lo]).length) (pre++(aD (l.take k) d lo++[Th.stmt y d lo])) ((aD y.f6 (d+1) lo++(aD y.f7 (d+1) lo++(aD (l.drop (k+1)) d lo)))++rest) (.pointer (ae ⟨bb,oo+6,aj⟩)) (.pointer lq) lo (lenP HL.out.1) (by rw[HL.out.2.1,FULL.out];simp) H1.out.2.1.below H1.out.1 EE.out (HSC.out.gs H1.out.2.1) (by have:=BN.out;rw[bB]at this;exact this) H1.out.2.2;refine C.mono ?_;clear C;rintro _ W4 ⟨rfl,hw3,hg3,hI3⟩;have H2:=J (show W4.heap[b]? =ae (.cells #[.int .i64 ((n+(aD (l.take k) d lo++[Th.stmt y d lo]++bJ y.f3 lo).length:Nat):Int),mC cf caps] 183 (0,0))/\Gs Wb W W4/\I (pre++(aD (l.take k) d lo++[Th.stmt y d lo]++bJ y.f3 lo)) W4 from⟨by rw[ar,bB,←db];exact hw3,H1.out.2.1.trans hg3,by rw[←bh];exact hI3⟩);clear hw3 hg3 hI3 FULL BN;have q20:W4.cell? ⟨bb,oo+12,aj⟩=ae (.slice A12 y.f6.length c12):=aM H2.out.2.1.below KQ.out.1;go_wp2_with fail;have FULL:=J (show aD l d lo=(aD (l.take k) d lo++[Th.stmt y d lo]++bJ y.f3 lo)++(aD y.f6 (d+1) lo++(aD y.f7 (d+1) lo++(aD (l.drop (k+1)) d lo))) by rw[SP.out,SPK.out];simp);have BN:=J (show n+(aD (l.take k) d lo++[Th.stmt y d lo]++bJ y.f3 lo).length+(aD y.f6 (d+1) lo).length<4611686018427387904 by have h1:=HN.out.1;rw[FULL.out]at h1;simp only[ar]at h1 ⊢;omega);have C:=IH1.out.1 W4 (n+(aD (l.take k) d lo++[Th.stmt y d lo]++bJ y.f3 lo).length) (pre++(aD (l.take k) d lo++[Th.stmt y d lo]++bJ y.f3 lo)) ((aD y.f7 (d+1) lo++(aD (l.drop (k+1)) d lo))++rest) (.pointer lq) lo A12 c12 (d+1) (wrap64 ((d:Int)+1)) (lenP HL.out.1) (by rw[HL.out.2.1,FULL.out];simp) (fP (by have:=HN.out.2;omega)) FM.out.2.2.2.2.1 H2.out.2.1.below H2.out.1 K.out.2.1 K.out.1 (HSC.out.gs H2.out.2.1) BN.out (by have h1:=HN.out.2;have h2:=BK.out;omega) H2.out.2.2;refine C.mono ?_;clear C;rintro _ W5 ⟨rfl,hw3,hg3,hI3⟩;have H3:=J (show W5.heap[b]? =ae (.cells #[.int .i64 ((n+(aD (l.take k) d lo++[Th.stmt y d lo]++bJ y.f3 lo++aD y.f6 (d+1) lo).length:Nat):Int),mC cf caps] 183 (0,0))/\Gs Wb W W5/\I (pre++(aD (l.take k) d lo++[Th.stmt y d lo]++bJ y.f3 lo++aD y.f6 (d+1) lo)) W5 from⟨by rw[ar,←db];exact hw3,H2.out.2.1.trans hg3,by rw[←bh];exact hI3⟩);clear hw3 hg3 hI3 FULL BN;have q21:W5.cell? ⟨bb,oo+13,aj⟩=ae (.slice A13 y.f7.length c13):=aM H3.out.2.1.below KQ.out.2;go_wp2_with fail;have FULL:=J (show aD l d lo=(aD (l.take k) d lo++[Th.stmt y d lo]++bJ y.f3 lo++aD y.f6 (d+1) lo)++(aD y.f7 (d+1) lo++(aD (l.drop (k+1)) d lo)) by rw[SP.out,SPK.out];simp)
    have BN:=J (show n+(aD (l.take k) d lo++[Th.stmt y d lo]++bJ y.f3 lo++aD y.f6 (d+1) lo).length+(aD y.f7 (d+1) lo).length<4611686018427387904 by have h1:=HN.out.1;rw[FULL.out]at h1;simp only[ar]at h1 ⊢;omega);have C:=IH1.out.2 W5 (n+(aD (l.take k) d lo++[Th.stmt y d lo]++bJ y.f3 lo++aD y.f6 (d+1) lo).length) (pre++(aD (l.take k) d lo++[Th.stmt y d lo]++bJ y.f3 lo++aD y.f6 (d+1) lo)) ((aD (l.drop (k+1)) d lo)++rest) (.pointer lq) lo A13 c13 (d+1) (wrap64 ((d:Int)+1)) (lenP HL.out.1) (by rw[HL.out.2.1,FULL.out];simp) (fP (by have:=HN.out.2;omega)) FM.out.2.2.2.2.2 H3.out.2.1.below H3.out.1 K.out.2.2.2 K.out.2.2.1 (HSC.out.gs H3.out.2.1) BN.out (by have h1:=HN.out.2;have h2:=BK.out;omega) H3.out.2.2;refine C.mono ?_;clear C;rintro _ W6 ⟨rfl,hw3,hg3,hI3⟩;have H4:=J (show W6.heap[b]? =ae (.cells #[.int .i64 ((n+(aD (l.take k) d lo++[Th.stmt y d lo]++bJ y.f3 lo++aD y.f6 (d+1) lo++aD y.f7 (d+1) lo).length:Nat):Int),mC cf caps] 183 (0,0))/\Gs Wb W W6/\I (pre++(aD (l.take k) d lo++[Th.stmt y d lo]++bJ y.f3 lo++aD y.f6 (d+1) lo++aD y.f7 (d+1) lo)) W6 from⟨by rw[ar,←db];exact hw3,H3.out.2.1.trans hg3,by rw[←bh];exact hI3⟩);clear hw3 hg3 hI3 FULL BN;go_wp2_with fail
    have HX:=J (show aD (l.take k) d lo++[Th.stmt y d lo]++bJ y.f3 lo++aD y.f6 (d+1) lo++aD y.f7 (d+1) lo=aD (l.take (k+1)) d lo by
     have h2:=T.out;simp only[bW]at h2
     rw[h2,SPK.out] <;> simp)
    refine⟨⟨k+1,W6,by go_num,rfl,by omega,⟨?_,H4.out.2.1,?_⟩⟩,by simp[intOf];omega⟩
    ·rw[←HX.out];exact H4.out.1
    ·rw[←HX.out];exact H4.out.2.2
   ·rw[h0]at q0;have H0:=J h0;clear h0
    have SPK:=J (show jN y d lo=Th.stmt y d lo::((aD y.f6 (d+1) (lo++[y.f1]))) by
     have FE:=FM.out.2.2.2.1 H0.out;rw[cK]
     simp[H0.out,FE,aD,inLoop])
    have FULL:=J (show aD l d lo=(aD (l.take k) d lo++[Th.stmt y d lo])++(aD y.f6 (d+1) (lo++[y.f1])++(aD (l.drop (k+1)) d lo)) by rw[SP.out,SPK.out];simp);have BN:=J (show n+(aD (l.take k) d lo++[Th.stmt y d lo]).length+(aD y.f6 (d+1) (lo++[y.f1])).length<4611686018427387904 by have h1:=HN.out.1;rw[FULL.out]at h1;simp only[ar]at h1 ⊢;omega)
    go_upto_region 15 with (fail)
    have t12:∀g':G W3,g'.W.cell? ⟨bb,oo+12,aj⟩=ae (.slice A12 y.f6.length c12):=fun g'=>aM g'.below (aM H1.out.2.1.below (RG.out 12 _ rfl));have t1:∀g':G W3,g'.W.cell? ⟨bb,oo+1,aj⟩=ae (.string y.f1):=fun g'=>aM g'.below (aM H1.out.2.1.below (RG.out 1 _ rfl));refine gG (n:=15) (S:=fun w'=>∃g':G W3,w'=g'.W) (ds:=[14]) #[O,O,O,O,O,O,O,O,O,O,O,O,O,O,O] (by kernel_rfl) rfl rfl ⟨mkG (ak _ _).drew,rfl⟩ (fun hHeld=> ?_);obtain⟨gd,hgd⟩:=hHeld;rw[hgd];clear hgd;refine bN (i:=0) (N:=ae 72) (v:= ?_) (a':= ?_) #[ac,O,O,O,O,O,O,O,O,O,O,O,O,O,O] rfl rfl (by kernel_rfl) (fun _ _ _ h=>h) (bi ⟨by rfl,?_⟩) ?_ ?_;rotate_left
    ·intro w';go_simp;with_reducible rfl
    rotate_left
    ·simp only[ay,aa,af,ag,aQ,aP];rfl
    refine bN (i:=1) (N:=ae 73) (v:= ?_) (a':= ?_) #[ac,ac,O,O,O,O,O,O,O,O,O,O,O,O,O] rfl rfl (by kernel_rfl) (fun _ _ _ h=>h) (bi ⟨by rfl,?_⟩) ?_ ?_;rotate_left
    ·intro w';go_simp;with_reducible rfl
    rotate_left
    ·simp only[ay,aa,af,ag,aQ,aP];rfl
    refine bN (i:=2) (N:=ae 74) (v:= ?_) (a':= ?_) #[ac,ac,ac,O,O,O,O,O,O,O,O,O,O,O,O] rfl rfl (by kernel_rfl) (fun _ _ _ h=>h) (bi ⟨by rfl,?_⟩) ?_ ?_;rotate_left
    ·intro w';go_simp;with_reducible rfl
    rotate_left
    ·simp only[ay,aa,af,ag,aQ,aP];rfl
    refine bN (i:=3) (N:=ae 75) (v:= ?_) (a':= ?_) #[ac,ac,ac,ac,O,O,O,O,O,O,O,O,O,O,O] rfl rfl (by kernel_rfl) (fun _ _ _ h=>h) (bi ⟨by rfl,?_⟩) ?_ ?_;rotate_left
    ·intro w';go_simp;with_reducible rfl
    rotate_left
    ·simp only[ay,aa,af,ag,aQ,aP];rfl
    refine bN (i:=5) (N:=ae 77) (v:= ?_) (a':= ?_) #[ac,ac,ac,ac,O,ac,O,O,O,O,O,O,O,O,O] rfl rfl (by kernel_rfl) (fun _ _ _ h=>h) (bi ⟨by rfl,?_⟩) ?_ ?_;rotate_left
    ·intro w';go_simp;with_reducible rfl
    rotate_left
    ·simp only[ay,aa,af,ag,aQ,aP];rfl
    refine bN (i:=6) (N:=ae 78) (v:= ?_) (a':= ?_) #[ac,ac,ac,ac,O,ac,ac,O,O,O,O,O,O,O,O] rfl rfl (by kernel_rfl) (fun _ _ _ h=>h) (bi ⟨by rfl,?_⟩) ?_ ?_;rotate_left
    ·intro w';go_simp;with_reducible rfl
    rotate_left
    ·simp only[ay,aa,af,ag,aQ,aP];rfl
    refine bN (i:=7) (N:=ae 79) (v:= ?_) (a':= ?_) #[ac,ac,ac,ac,O,ac,ac,ac,O,O,O,O,O,O,O] rfl rfl (by kernel_rfl) (fun _ _ _ h=>h) (bi ⟨by rfl,?_⟩) ?_ ?_;rotate_left
    ·intro w';go_simp;with_reducible rfl
    rotate_left
    ·simp only[ay,aa,af,ag,aQ,aP];rfl
    refine bN (i:=8) (N:=ae 80) (v:= ?_) (a':= ?_) #[ac,ac,ac,ac,O,ac,ac,ac,ac,O,O,O,O,O,O] rfl rfl (by kernel_rfl) (fun _ _ _ h=>h) (bi ⟨by rfl,?_⟩) ?_ ?_;rotate_left
    ·intro w';go_simp;with_reducible rfl
    rotate_left
    ·simp only[ay,aa,af,ag,aQ,aP];rfl
    refine bN (i:=9) (N:=ae 81) (v:= ?_) (a':= ?_) #[ac,ac,ac,ac,O,ac,ac,ac,ac,ac,O,O,O,O,O] rfl rfl (by kernel_rfl) (fun _ _ _ h=>h) (bi ⟨by rfl,?_⟩) ?_ ?_;rotate_left
    ·intro w';go_simp;with_reducible rfl
    rotate_left
    ·simp only[ay,aa,af,ag,aQ,aP];rfl
    refine bN (i:=11) (N:=ae 83) (v:= ?_) (a':= ?_) #[ac,ac,ac,ac,O,ac,ac,ac,ac,ac,O,ac,O,O,O] rfl rfl (by kernel_rfl) (fun _ _ _ h=>h) (bi ⟨by rfl,?_⟩) ?_ ?_;rotate_left
    ·intro w';go_simp;with_reducible rfl
    rotate_left
    ·simp only[ay,aa,af,ag,aQ,aP];rfl
    refine eO (i:=4) (N:=ae 76) (v:= ?_) (a':= ?_) #[ac,ac,ac,ac,ac,ac,ac,ac,ac,ac,O,ac,O,O,O] rfl rfl (by kernel_rfl) (fun _ _ _ h=>h) (bi ⟨by rfl,?_⟩) ⟨gd,rfl⟩ ?_ ?_;rotate_left
    ·rintro w' ⟨g',rfl⟩;go_simp;with_reducible rfl
    rotate_left
    ·simp only[ay,aa,af,ag,aQ,aP];rfl
    refine eO (i:=10) (N:=ae 82) (v:= ?_) (a':= ?_) #[ac,ac,ac,ac,ac,ac,ac,ac,ac,ac,ac,ac,O,O,O] rfl rfl (by kernel_rfl) (fun _ _ _ h=>h) (bi ⟨by rfl,?_⟩) ⟨gd,rfl⟩ ?_ ?_;rotate_left
    ·rintro w' ⟨g',rfl⟩;go_simp;with_reducible rfl
    rotate_left
    ·simp only[ay,aa,af,ag,aQ,aP];rfl
    refine bN (i:=12) (N:=ae 84) (v:= ?_) (a':= ?_) #[ac,ac,ac,ac,ac,ac,ac,ac,ac,ac,ac,ac,ac,O,O] rfl rfl (by kernel_rfl) (fun _ _ _ h=>h) (bi ⟨by rfl,?_⟩) ?_ ?_;rotate_left
    ·intro w';go_simp;with_reducible rfl
    rotate_left
    ·simp only[ay,aa,af,ag,aQ,aP];rfl
    refine jO (i:=13) (N:=ae 85) #[ac,ac,ac,ac,ac,ac,ac,ac,ac,ac,ac,ac,ac,ac,O] rfl rfl (by kernel_rfl) (by simp) (fun K9 hK=> ?_);refine box_step ?hg (N:=85) ?hd (cs:= #[.string y.f1,.pointer lq]) (t:=121) ?hr ?_;(case hd=>rfl);(case hg=>rfl);(case hr=>first | (go_simp;done) | (go_simp;rfl));intro b9 hb9 w9 hbx hbl;obtain⟨ge,rfl⟩:∃g':G W3,w9=g'.W:=⟨mkG (gd.below.trans (hbl.mono gd.below.size)),rfl⟩;refine hK.out _ _ ⟨ge,rfl⟩ (fun _=> ?_);clear hK K9;refine cG (a':= ?_) ?_ ?_;rotate_left
    ·show ay _ (ae 85) _ = _
     simp only[ay,aa,af,ag,aQ,aP];rfl
    have HE:=J (show Gs Wb W ge.W/\I (pre++(aD (l.take k) d lo++[Th.stmt y d lo])) ge.W from⟨H1.out.2.1.trans (Gs.of_below H1.out.2.1.below ge.below),HS.out.stay _ _ _ H1.out.2.2 (Gi.of_below ge.below)⟩);have HEB:=J (aE H1.out.1 ge.below);have HES:=J (show aW ge.W (.pointer (ae ⟨b9,0,aj⟩)) (lo++[y.f1]).reverse by rw[List.reverse_append];exact⟨b9,.pointer lq,rfl,hbx,(HSC.out.gs H1.out.2.1).below ge.below⟩);refine last_ (i:=14) (N:=ae 86) #[ac,ac,ac,ac,ac,ac,ac,ac,ac,ac,ac,ac,ac,ac,ac] rfl rfl (by kernel_rfl) (by simp) (fun K9 hK=> ?_);refine call_ 123 #[.pointer (ae ⟨b,0,aj⟩),.slice A12 y.f6.length c12,.int .i64 (wrap64 ((d:Int)+1)),.pointer (ae ⟨b9,0,aj⟩)] (by rfl) rfl (by first | (go_simp;done) | (go_simp;rfl)) ?_;have C:=IH1.out.1 ge.W (n+(aD (l.take k) d lo++[Th.stmt y d lo]).length) (pre++(aD (l.take k) d lo++[Th.stmt y d lo])) ((aD (l.drop (k+1)) d lo)++rest) (.pointer (ae ⟨b9,0,aj⟩)) (lo++[y.f1]) A12 c12 (d+1) (wrap64 ((d:Int)+1)) (lenP HL.out.1) (by rw[HL.out.2.1,FULL.out];simp) (fP (by have:=HN.out.2;omega)) FM.out.2.2.2.2.1 HE.out.1.below HEB.out K.out.2.1 K.out.1 HES.out BN.out (by have h1:=HN.out.2;have h2:=BK.out;omega) HE.out.2;refine C.mono ?_;clear C;rintro _ W4 ⟨rfl,hw3,hg3,hI3⟩;have H2:=J (show W4.heap[b]? =ae (.cells #[.int .i64 ((n+(aD (l.take k) d lo++[Th.stmt y d lo]++aD y.f6 (d+1) (lo++[y.f1])).length:Nat):Int),mC cf caps] 183 (0,0))/\Gs Wb W W4/\I (pre++(aD (l.take k) d lo++[Th.stmt y d lo]++aD y.f6 (d+1) (lo++[y.f1]))) W4 from⟨by rw[ar,←db];exact hw3,HE.out.1.trans hg3,by rw[←bh];exact hI3⟩);refine⟨_,rfl,?_⟩;clear hw3 hg3 hI3;refine hK.out _ _ ?_;clear hK K9;refine cG (a':= ?_) ?_ ?_;rotate_left
    ·show ay _ (ae 86) _ = _
     simp only[ay,aa,af,ag,aQ,aP];rfl
    refine kG (by kernel_rfl) ?_;clear t12 t1;go_wp2_with fail
    have HX:=J (show aD (l.take k) d lo++[Th.stmt y d lo]++aD y.f6 (d+1) (lo++[y.f1])=aD (l.take (k+1)) d lo by
     have h2:=T.out;simp only[bW]at h2
     rw[h2,SPK.out] <;> simp)
    refine⟨⟨k+1,W4,by go_num,rfl,by omega,⟨?_,H2.out.2.1,?_⟩⟩,by simp[intOf];omega⟩
    ·rw[←HX.out];exact H2.out.1
    ·rw[←HX.out];exact H2.out.2.2
   ·rw[h0]at q0;have H0:=J h0;clear h0
    have SPK:=J (show jN y d lo=Th.stmt y d lo::([]) by
     have FE:=FM.out.2.2.1 (by have:=H0.out;omega);rw[cK]
     simp[H0.out,FE.1,FE.2,aD])
    go_wp2_with fail
    have HX:=J (show aD (l.take k) d lo++[Th.stmt y d lo]=aD (l.take (k+1)) d lo by
     have h2:=T.out;simp only[bW]at h2
     rw[h2,SPK.out] <;> simp)
    refine⟨⟨k+1,W3,by go_num,rfl,by omega,⟨?_,H1.out.2.1,?_⟩⟩,by simp[intOf];omega⟩
    ·rw[←HX.out];exact H1.out.1
    ·rw[←HX.out];exact H1.out.2.2
  ·go_wp2_with fail
   first | go_end0 | skip
   have hke:k=l.length:=by omega
   have h1:=HK.out;rw[hke,df]at h1;exact⟨rfl,h1.1,h1.2.1,h1.2.2⟩
theorem wstS_calls {Wb:World}{b:Nat}{cf:FuncId}{caps:Array Value}{I:List Th->World->Prop}{L:List Th}(hs:SeeS Wb cf caps I L)(hbb:Wb.heap.size<=b):∀(n:Nat) (l:List S119),cu l<=n->WStS Wb b cf caps I L l:=by
 intro n
 induction n with
 |zero=>intro l h;cases l <;> simp at h <;> omega
 |succ n ih=>
  intro l h;refine wstS_walk hs hbb l fun x hx=> ?_;have h1:=fe hx;obtain⟨a,b,c,d,e,f,g,k⟩:=x;simp only[S119.mk.sizeOf_spec]at h1;exact⟨ih _ (by show cu g<=n;omega),ih _ (by show cu k<=n;omega)⟩
end
section
attribute [local go_sem] G.cell
theorem allS {Wb:World}{cf:FuncId}{caps:Array Value}{I:List Th->World->Prop}(nm:ByteArray)(wd ln:Int)(ds:List S70)(bd:List S119)(hs:SeeS Wb cf caps I (things ds bd))(A3:Option Addr)(c3:Nat)(A4:Option Addr)(c4:Nat)(hp:ProgAt Wb ds bd A3 c3 A4 c4)(hform:bdB bd=ac)(hdl:ds.length<=1048576)(hbb:Ot.bH bd<=1048576)(W:World)(hB:Below Wb.heap.size Wb W)(hI:I [] W):
 Calls au 76 #[.agg #[.string nm,.int .i64 wd,.int .i64 ln,.slice A3 ds.length c3,.slice A4 bd.length c4],mC cf caps] W fun r W'=>r=.returned (.int .i64 ((things ds bd).length:Int))/\I (things ds bd) W'/\Gs Wb W W':=by
 have HS:=J hs;have HI0:=J hI;clear hI;have HP:=J hp;have HF:=J hform;have HZ:=J (aq hdl hbb);have HB:=J hB;have hlm:=hp.hd.2.1;have hl4:=hp.hlb;clear hs hp hform hdl hbb hB;go_enter Tryz.func76,Tryz.ntmps76
 go_upto_region 2 with (fail)
 refine wp_name ?_;intro X hX;have HWX:=J (show Below W.heap.size W X by rw[hX];exact((ak _ _).alloc (ai _) _).alloc (by simp) _);have HBX:=J (HB.out.trans (HWX.out.mono HB.out.size));have HXb:=J (show X.heap[W.heap.size+1]? =ae (.cells #[.int .i64 ((0:Nat):Int),mC cf caps] 183 (0,0)) by rw[hX];exact heap_alloc2_new _ _ _);have HXp:=J (show X.heap[W.heap.size]? =ae (.cells #[.string nm,.int .i64 wd,.int .i64 ln,.slice A3 ds.length c3,.slice A4 bd.length c4] 25 (0,0)) by rw[hX,dr _ _ _ (by simp)];exact bR _ _);clear hX;have HIX:=J (HS.out.stay _ _ _ HI0.out (Gi.of_below HWX.out));have pc:∀{W':World},Gs Wb X W'->W'.heap[W.heap.size]? =ae (.cells #[.string nm,.int .i64 wd,.int .i64 ln,.slice A3 ds.length c3,.slice A4 bd.length c4] 25 (0,0)):=fun h=>h.blk _ _ _ HXp.out (.inr rfl);have x3:X.cell? ⟨W.heap.size,3,aj⟩=ae (.slice A3 ds.length c3):=(aB HXp.out 3).trans rfl;have x4:X.cell? ⟨W.heap.size,4,aj⟩=ae (.slice A4 bd.length c4):=(aB HXp.out 4).trans rfl;go_wp2_with fail
 go_loopw [13] (fun i W3=>∃(k:Nat) (W2:World),i=.int .i64 k/\W2=W3/\k<=ds.length/\Aside0 (W2.heap[W.heap.size+1]? =ae (.cells #[.int .i64 (k:Int),mC cf caps] 183 (0,0))/\Gs Wb X W2/\I ((cr k).map Th.decl) W2)) (fun i _=>ds.length - (intOf i).toNat)
 case atStart=>exact⟨0,_,rfl,rfl,br _,⟨HXb.out,Gs.refl HBX.out,HIX.out⟩⟩
 case round=>
  obtain⟨k,W2,rfl,rfl,hk,HK⟩:=hrel;have z3:W2.cell? ⟨W.heap.size,3,aj⟩=ae (.slice A3 ds.length c3):=(aB (pc HK.out.2.1) 3).trans rfl;have z4:W2.cell? ⟨W.heap.size,4,aj⟩=ae (.slice A4 bd.length c4):=(aB (pc HK.out.2.1) 4).trans rfl
  by_cases hlt:k<ds.length
  ·obtain⟨ad,A9,c9,e1,_⟩:=d6 HP.out.hd (k:Int) (bc _) (by omega);cases e1
   have hk1:(k:Int)<(ds.length:Int):=by omega
   have SP:=J (l7 ds k hlt);go_wp2_with fail;refine(tellS HS.out (bg HB.out.size (Nat.le_succ _)) W2 k (by have:=HZ.out.1;omega) ((cr k).map Th.decl) (((cr ds.length).drop (k+1)).map Th.decl++aD bd 1 []) (by simp) (.pointer (ae (ad.add (k*4)))) (.pointer aj) (.pointer aj) 0 0 (.pointer aj) (.decl k) (by unfold things;rw[SP.out];simp) HK.out.2.1.below HK.out.1 ⟨⟨_,rfl⟩,rfl,rfl,rfl,rfl⟩ HK.out.2.2).mono ?_;rintro _ W3 ⟨rfl,hw1,hg1,hI1⟩;have HN:=J (aq hw1 (aq hg1 hI1));clear hw1 hg1 hI1;go_wp2_with fail;refine⟨⟨k+1,W3,by go_num,rfl,by omega,⟨HN.out.1,HK.out.2.1.trans HN.out.2.1,by rw[fG];exact HN.out.2.2⟩⟩,by simp[intOf];omega⟩
  ·have hke:k=ds.length:=by omega
   have hk1:¬(k:Int)<(ds.length:Int):=by omega
   have H0:=J (show I ((cr ds.length).map Th.decl) W2 by have:=HK.out.2.2;rw[hke]at this;exact this);have HKD:=J hke;have HL:=J (show k+(aD bd 1 []).length=(things ds bd).length by unfold things;rw[hke];simp);clear hke;go_wp2_with fail;have hle:=bV bd 1 [];refine(wstS_calls HS.out (bg HB.out.size (Nat.le_succ _)) _ bd (ai _) W2 k ((cr ds.length).map Th.decl) [] (.pointer aj) [] A4 c4 1 1 (by simp[HKD.out]) (by unfold things;simp) rfl HF.out HK.out.2.1.below HK.out.1 HP.out.hb HP.out.hlb rfl (by have:=HZ.out;omega) (by have:=HZ.out;omega) H0.out).mono ?_;rintro _ W3 ⟨rfl,hw3,hg3,hI3⟩;rw[HL.out]at hw3;have HA:=J (aq hg3 hI3);have u0:W3.cell? ⟨W.heap.size+1,0,aj⟩=ae (.int .i64 ((things ds bd).length:Int)):=(aB hw3 0).trans rfl;clear hw3 hg3 hI3;go_wp2_with fail;go_ret;exact⟨rfl,HA.out.2,(Gs.of_below HB.out HWX.out).trans (HK.out.2.1.trans HA.out.1)⟩
end
section
set_option maxRecDepth 100000
def bub:List ByteArray->Nat->List ByteArray
 |l,0=>l
 |l,k+1=>if Op.bytesLess (l.getD (k+1) ba).toList (l.getD k ba).toList=ac then bub ((l.set (k+1) (l.getD k ba)).set k (l.getD (k+1) ba)) k else l
def gK (l:List ByteArray)(x:ByteArray):List ByteArray:=if kM l x=ac then l else bub (l++[x]) l.length
theorem mA:(Tryz.prog.info? 9).map (fun i=>(i.zero,i.size,i.bytes))=ae (ae (.string ba),1,16):=by kernel_rfl
abbrev RS (W:World)(B:Nat)(v:Value)(l:List ByteArray):Prop:=Kd.string.R 9 W B (fun _=>True) v l
theorem rdN (l:List ByteArray)(k:Nat):kJ ba l (k:Int)=l.getD k ba:=by
 unfold kJ
 simp
theorem fK (l:List ByteArray)(x:ByteArray)(v:Value)(B:Nat)(W:World)(hR:RS W B v l)(hB:B<=W.heap.size)(hl:l.length<4194304):
 Calls au 86 #[v,.string x] W fun e W'=>∃v',e=.returned v'/\RS W' B v' (gK l x)/\Below B W W':=by
 obtain⟨A,c,rfl,hlc,hC⟩:=Kd.fF hR;have HR:=J hR;have HB:=J hB;have HL:=J hl;obtain⟨hb,hhb⟩:∃b,b=kM l x:=⟨_,rfl⟩;have HI:=J (in_v (l:=l) (s:=x) hhb.symm A c W hC hlc);have HH:=J hhb;clear hR hB hl hlc hC hhb;go_enter Tryz.func86,Tryz.ntmps86;go_wp2_with fail;refine HI.out.mono ?_;rintro _ w1 ⟨rfl,hb1⟩;have H1:=J (aq hb1 (Kd.dA HR.out hb1));clear hb1
 cases hb with
 |true=>
  go_wp2_with fail;go_ret;refine⟨_,rfl,?_,H1.out.1.mono HB.out⟩;unfold gK;rw[if_pos HH.out.symm];exact H1.out.2
 |false=>
  have HLE:=J (bg HB.out H1.out.1.size);have HLN:=J (show(l.length+1)*16<=140737488355328 from by have:=HL.out;omega)
  go_wp2_with ((with_reducible refine bX (b:=.append) (xs:= #[.tmp 11,.tmp 13]) rfl ?_);at_builtin;refine Kd.eG Kd.string (w0:=w1) B rfl (.tmp 11) (.tmp 13) 52 9 (.string ba) 16 rfl Tryz.underlying52 mA rfl (by decide) (by decide) (.slice A l.length c) l x [.string x] (fun _=>True) (fun _=>False) rfl rfl rfl (fun _ h=>h.elim) (fun _ _=>trivial) H1.out.2 (ak _ _) HLE.out HLN.out ?_)
  intro v1 w2 hR2 hb2 _ _;obtain⟨g,cap,hv1,hgb,hlc,inner,hin⟩:=Kd.R_form hR2 (by simp);obtain⟨m,hm⟩:∃m,m=(l++[x]).length:=⟨_,rfl⟩;rw[←hm]at hv1;subst hv1;have HM:=J (show m=l.length+1 from by rw[hm];simp)
  have hmb:m<=4194304:=by have:=HM.out;have:=HL.out;omega
  have H2:=J (aq hR2 ((H1.out.1.mono HB.out).trans hb2));clear hR2 hb2 hgb hlc hin hm HLN HLE;go_wp2_with fail
  go_loopw [5,6] (fun kv xv W'=>∃(t:Int) (k:Nat) (lc:List ByteArray),kv=.int .i64 t/\t=(k:Int)/\k<m/\Aside0 (lc.length=m/\RS W' B (.slice (ae ⟨g,0,aj⟩) m cap) lc/\bub lc k=bub (l++[x]) l.length/\Below B W W')) (fun kv _ _=>(intOf kv).toNat)
  case atStart=>exact⟨_,l.length,l++[x],rfl,by have:=HM.out;omega,by have:=HM.out;omega,⟨by rw[HM.out];simp,H2.out.1,rfl,H2.out.2⟩⟩
  case round=>
   as_aux_lemma=>
    obtain⟨t,k,lc,rfl,ht,hk,HK⟩:=hrel
    cases k with
    |zero=>
     obtain rfl:t=0:=ht;go_wp2_with fail;go_region;go_wp2_with fail;go_ret;refine⟨_,rfl,?_,HK.out.2.2.2.trans ((ak _ _).drew)⟩;unfold gK;rw[if_neg (by rw[←HH.out];decide),←HK.out.2.2.1];exact Kd.dA HK.out.2.1 ((ak _ _).drew)
    |succ j=>
     have hk1:((j+1:Nat):Int)<(m:Int):=by omega
     have hk2:(j:Int)<(m:Int):=by omega
     have hw:wrap64 (((j+1:Nat):Int) - 1)=(j:Int):=by unfold wrap64;omega
     subst ht;obtain⟨q1,f1⟩:=Kd.R_celln ba HK.out.2.1 ((j+1:Nat):Int) (by omega) hk1;obtain⟨q2,f2⟩:=Kd.R_celln ba HK.out.2.1 (j:Int) (by omega) hk2;rw[rdN,ax]at q1 q2;rw[ax]at f1 f2;obtain⟨s1,hs1⟩:∃s,s=lc.getD (j+1) ba:=⟨_,rfl⟩;obtain⟨s2,hs2⟩:∃s,s=lc.getD j ba:=⟨_,rfl⟩;rw[←hs1]at q1;rw[←hs2]at q2;have HSS:=J (aq hs1 hs2);clear hs1 hs2
     rcases aH (Op.bytesLess s1.toList s2.toList)with hc | hc
     ·go_wp2_with fail;go_region;go_wp2_with fail;have hgb:B<=g:=(Kd.R_base HK.out.2.1) g rfl;have r1:=Kd.R_putn HK.out.2.1 ((j+1:Nat):Int) s2;rw[ax]at r1;have r2:=Kd.R_putn r1 (j:Int) s1;rw[ax]at r2;refine⟨⟨_,j,_,rfl,rfl,by omega,⟨?_,Kd.dA r2 ((ak _ _).drew),?_,HK.out.2.2.2.trans ((((ak _ _).setCell (p:=⟨g,j+1,aj⟩) hgb _).setCell (p:=⟨g,j,aj⟩) hgb _).drew)⟩⟩,by simp[intOf]⟩
      ·rw[List.length_set,List.length_set];exact HK.out.1
      ·rw[←HK.out.2.2.1]
       conv=>rhs;unfold bub
       rw[←HSS.out.1,←HSS.out.2,hc,if_pos rfl]
     ·go_wp2_with fail;go_region;go_wp2_with fail;go_ret;refine⟨_,rfl,?_,HK.out.2.2.2.trans ((ak _ _).drew)⟩
      have e:bub lc (j+1)=lc:=by
       conv=>lhs;unfold bub
       rw[←HSS.out.1,←HSS.out.2,hc,if_neg (by decide)]
      unfold gK;rw[if_neg (by rw[←HH.out];decide),←HK.out.2.2.1,e];exact Kd.dA HK.out.2.1 ((ak _ _).drew)
end
end Go.Proofs.YtfigjpehecibeaaGreat.L
namespace Go.Proofs.YtfigjpehecibeaaGreat.L
open Go.RowKit Go.Proofs.YtfigjpehecibeaaGreatW.PrintWords Go.Proofs.YtfigjpehecibeaaGreatW.PrintLast Go.Proofs.YtfigjpehecibeaaGreatW.PrintMore
section
attribute [local go_sem] gZ gY j4 jZ fJ fM iG iE
def bits_Mul64.f (a0:Int)(a1:Int):Option (Int × Int):=ae (IntKind.u64.wrap ((IntKind.u64.wrap ((IntKind.u64.wrap ((a0 / 4294967296)*(a1 / 4294967296)))+((IntKind.u64.wrap ((IntKind.u64.wrap ((a0 / 4294967296)*(Go.bits .and .u64 a1 4294967295)))+((IntKind.u64.wrap ((Go.bits .and .u64 a0 4294967295)*(Go.bits .and .u64 a1 4294967295))) / 4294967296))) / 4294967296)))+((IntKind.u64.wrap ((Go.bits .and .u64 (IntKind.u64.wrap ((IntKind.u64.wrap ((a0 / 4294967296)*(Go.bits .and .u64 a1 4294967295)))+((IntKind.u64.wrap ((Go.bits .and .u64 a0 4294967295)*(Go.bits .and .u64 a1 4294967295))) / 4294967296))) 4294967295)+(IntKind.u64.wrap ((Go.bits .and .u64 a0 4294967295)*(a1 / 4294967296))))) / 4294967296)),IntKind.u64.wrap (a0*a1))
def bits_Mul.f (a0:Int)(a1:Int):Option (Int × Int):=(bits_Mul64.f a0 a1).bind fun bt131=>(ae (bt131.1,bt131.2))
end
theorem mul_one (n:Nat)(h:n<=256):bits_Mul.f 1 (n:Int)=ae (0,(n:Int)):=by
 have key:∀i:Fin 257,bits_Mul.f 1 ((i.val:Nat):Int)=ae (0,((i.val:Nat):Int)):=by decide+kernel
 exact key ⟨n,by omega⟩
end Go.Proofs.YtfigjpehecibeaaGreat.L
namespace Go.Proofs.YtfigjpehecibeaaGreat.L
open Go.RowKit Go.Maps Go.Proofs.YtfigjpehecibeaaGreatW.PrintWords Go.Proofs.YtfigjpehecibeaaGreatW.PrintLast Go.Proofs.YtfigjpehecibeaaGreatW.PrintMore Go.Proofs.YtfigjpehecibeaaGreat.Gr
section
set_option maxRecDepth 100000
def adv (d:S70)(m:Nat):Nat:=if d.f0=1\/d.f0=2 then m else 0
end
structure ShC where
 w0:World
 P0:World
 xb:Nat
 yb:Nat
 ab:Nat
section
set_option maxRecDepth 100000
theorem enter_func {f:FuncId}{fn:Func}{c:Code}(hf:Tryz.prog.funcs[f]? =ae fn)(hname:(fn.name== "runtime.NumGoroutine")=O)(hb:fn.body=ae c)(args:Array Value)(w:World):
 (callFunc f args).run au w=.ok (.enter f args) w:=by
 have h1:fn.name≠ "runtime.NumGoroutine" :=by simpa using hname
 simp[callFunc,hf,h1,hb]
end
end Go.Proofs.YtfigjpehecibeaaGreat.L
namespace Go.Proofs.YtfigjpehecibeaaGreat.L
open Go.RowKit Go.Proofs.YtfigjpehecibeaaGreatW.PrintWords Go.Proofs.YtfigjpehecibeaaGreatW.PrintLast Go.Proofs.YtfigjpehecibeaaGreatW.PrintMore Go.Proofs.YtfigjpehecibeaaGreat.Gr
section
set_option maxRecDepth 100000
theorem seeNone (Wb:World)(L:List Th):SeeS Wb 77 #[] (fun _ _=>True) L where
 enter:=enter_func Tryz.func77 (by kernel_rfl) rfl
 stay:=fun _ _ _ _ _=>trivial
 see:=by
  intro W n pre dp sp ep dI lp t rest hn hL hB ht hI;have HB:=J hB;clear hn hL hB ht hI;go_enter Tryz.func77,Tryz.ntmps77;go_wp2_with fail
  first | go_end0 | skip
  have hb:Below W.heap.size W (W.alloc (.cells #[.int .i64 n,dp,sp,ep,.int .i64 dI,lp] 110)):=(ak _ _).alloc (ai _) _;exact⟨rfl,trivial,Gs.of_below HB.out hb,fun k cs q=>aE q hb⟩
theorem things_calls (nm:ByteArray)(wd ln:Int)(ds:List S70)(bd:List S119)(A3:Option Addr)(c3:Nat)(A4:Option Addr)(c4:Nat)(W:World)(hp:ProgAt W ds bd A3 c3 A4 c4)(hg:PGood nm wd ln ds bd)(b:Bool)(hb:cI nm wd ln ds bd=b):
 Calls au 31 #[.agg #[.string nm,.int .i64 wd,.int .i64 ln,.slice A3 ds.length c3,.slice A4 bd.length c4]] W fun e W'=>e=.returned (.tuple #[.int .i64 (if b=ac then((things ds bd).length:Int)else 0),.int .i64 (if b=ac then 0 else 1)])/\Below W.heap.size W W':=by
 obtain⟨pb,hpb⟩:∃b,b=W.heap.size:=⟨_,rfl⟩;obtain⟨X,hX⟩:∃X,X=W.alloc (.cells #[.string nm,.int .i64 wd,.int .i64 ln,.slice A3 ds.length c3,.slice A4 bd.length c4] 25):=⟨_,rfl⟩
 have hXB:Below W.heap.size W X:=by rw[hX];exact(ak _ _).alloc (ai _) _
 have hbp:X.heap[pb]? =ae (.cells #[.string nm,.int .i64 wd,.int .i64 ln,.slice A3 ds.length c3,.slice A4 bd.length c4] 25 (0,0)):=by rw[hX,hpb];exact bR _ _
 have HFC:=J (wf_v (hp.below hXB) hb);have HP:=J (aq (hp.below hXB) hg);have HX:=J (aq hXB hbp);have HB:=J hb;have HXE:=J (aq hX hpb);have x0:X.cell? ⟨pb,0,aj⟩=ae (.string nm):=(aB hbp 0).trans rfl;have x1:X.cell? ⟨pb,1,aj⟩=ae (.int .i64 wd):=(aB hbp 1).trans rfl;have x2:X.cell? ⟨pb,2,aj⟩=ae (.int .i64 ln):=(aB hbp 2).trans rfl;have x3:X.cell? ⟨pb,3,aj⟩=ae (.slice A3 ds.length c3):=(aB hbp 3).trans rfl;have x4:X.cell? ⟨pb,4,aj⟩=ae (.slice A4 bd.length c4):=(aB hbp 4).trans rfl;clear hp hg hX hpb hXB hbp hb;go_enter Tryz.func31,Tryz.ntmps31
 go_upto_region 1 with (fail)
 rw[←HXE.out.1,←HXE.out.2];go_wp2_with fail;refine HFC.out.mono ?_;rintro _ w1 ⟨rfl,hb1⟩;have H1:=J (aq hb1 (HX.out.1.trans (hb1.mono HX.out.1.size)));clear hb1 x0 x1 x2 x3 x4
 cases b with
 |false=>
  go_wp2_with fail;go_ret2;exact⟨rfl,H1.out.2⟩
 |true=>
  have x0:w1.cell? ⟨pb,0,aj⟩=ae (.string nm):=(aB (aE HX.out.2 H1.out.1) 0).trans rfl;have x1:w1.cell? ⟨pb,1,aj⟩=ae (.int .i64 wd):=(aB (aE HX.out.2 H1.out.1) 1).trans rfl;have x2:w1.cell? ⟨pb,2,aj⟩=ae (.int .i64 ln):=(aB (aE HX.out.2 H1.out.1) 2).trans rfl;have x3:w1.cell? ⟨pb,3,aj⟩=ae (.slice A3 ds.length c3):=(aB (aE HX.out.2 H1.out.1) 3).trans rfl;have x4:w1.cell? ⟨pb,4,aj⟩=ae (.slice A4 bd.length c4):=(aB (aE HX.out.2 H1.out.1) 4).trans rfl;go_wp2_with fail;refine(allS nm wd ln ds bd (seeNone w1 (things ds bd)) A3 c3 A4 c4 (HP.out.1.below H1.out.1) (jV HB.out).2.2.2 HP.out.2.sizes.1 HP.out.2.sizes.2 w1 (ak _ _) trivial).mono ?_;rintro _ w2 ⟨rfl,_,hg2⟩;have H2:=J (H1.out.2.trans (hg2.below.mono H1.out.2.size));clear hg2;go_wp2_with fail;go_ret2;exact⟨rfl,H2.out⟩
theorem mF (nm:ByteArray)(wd ln:Int)(ds:List S70)(bd:List S119)(A3:Option Addr)(c3:Nat)(A4:Option Addr)(c4:Nat)(W:World)(hp:ProgAt W ds bd A3 c3 A4 c4)(hg:PGood nm wd ln ds bd)(b:Bool)(hb:cI nm wd ln ds bd=b):
 Calls au 32 #[.agg #[.string nm,.int .i64 wd,.int .i64 ln,.slice A3 ds.length c3,.slice A4 bd.length c4]] W fun e W'=>e=.returned (.tuple #[.int .i64 (if b=ac then((things ds bd).length:Int)else 0),.int .i64 (if b=ac then 0 else 1)])/\Below W.heap.size W W':=by
 obtain⟨pb,hpb⟩:∃b,b=W.heap.size:=⟨_,rfl⟩;obtain⟨X,hX⟩:∃X,X=W.alloc (.cells #[.string nm,.int .i64 wd,.int .i64 ln,.slice A3 ds.length c3,.slice A4 bd.length c4] 25):=⟨_,rfl⟩
 have hXB:Below W.heap.size W X:=by rw[hX];exact(ak _ _).alloc (ai _) _
 have hbp:X.heap[pb]? =ae (.cells #[.string nm,.int .i64 wd,.int .i64 ln,.slice A3 ds.length c3,.slice A4 bd.length c4] 25 (0,0)):=by rw[hX,hpb];exact bR _ _
 have HFC:=J (form_v (hp.below hXB) hb);have HP:=J (aq (hp.below hXB) hg);have HX:=J (aq hXB hbp);have HB:=J hb;have HXE:=J (aq hX hpb);have x0:X.cell? ⟨pb,0,aj⟩=ae (.string nm):=(aB hbp 0).trans rfl;have x1:X.cell? ⟨pb,1,aj⟩=ae (.int .i64 wd):=(aB hbp 1).trans rfl;have x2:X.cell? ⟨pb,2,aj⟩=ae (.int .i64 ln):=(aB hbp 2).trans rfl;have x3:X.cell? ⟨pb,3,aj⟩=ae (.slice A3 ds.length c3):=(aB hbp 3).trans rfl;have x4:X.cell? ⟨pb,4,aj⟩=ae (.slice A4 bd.length c4):=(aB hbp 4).trans rfl;clear hp hg hX hpb hXB hbp hb;go_enter Tryz.func32,Tryz.ntmps32
 go_upto_region 1 with (fail)
 rw[←HXE.out.1,←HXE.out.2];go_wp2_with fail;refine HFC.out.mono ?_;rintro _ w1 ⟨rfl,hb1⟩;have H1:=J (aq hb1 (HX.out.1.trans (hb1.mono HX.out.1.size)));clear hb1 x0 x1 x2 x3 x4
 cases b with
 |false=>
  go_wp2_with fail;go_ret2;exact⟨rfl,H1.out.2⟩
 |true=>
  have x0:w1.cell? ⟨pb,0,aj⟩=ae (.string nm):=(aB (aE HX.out.2 H1.out.1) 0).trans rfl;have x1:w1.cell? ⟨pb,1,aj⟩=ae (.int .i64 wd):=(aB (aE HX.out.2 H1.out.1) 1).trans rfl;have x2:w1.cell? ⟨pb,2,aj⟩=ae (.int .i64 ln):=(aB (aE HX.out.2 H1.out.1) 2).trans rfl;have x3:w1.cell? ⟨pb,3,aj⟩=ae (.slice A3 ds.length c3):=(aB (aE HX.out.2 H1.out.1) 3).trans rfl;have x4:w1.cell? ⟨pb,4,aj⟩=ae (.slice A4 bd.length c4):=(aB (aE HX.out.2 H1.out.1) 4).trans rfl;go_wp2_with fail;refine(List_calls nm wd ln ds bd A3 c3 A4 c4 w1 HP.out.2.sizes.1 (HP.out.1.below H1.out.1).hb HP.out.1.hlb HP.out.2.sizes.2).mono ?_;rintro _ w2 ⟨v1,rfl,hL,hb2⟩;obtain⟨Al,cl,hv⟩:=Kd.dG hL;subst hv;have hln:((things ds bd).map d9).length=(things ds bd).length:=List.length_map ..;rw[hln];have H2:=J (H1.out.2.trans (hb2.mono H1.out.2.size));clear hL hb2 hln;go_wp2_with fail;go_ret2;exact⟨rfl,H2.out⟩
end
section
set_option maxRecDepth 100000
def fE:Th->List ByteArray
 | .decl _=>[]
 | .stmt _ _ lo=>lo
 | .expr _ lo=>lo
def knownT (ds:List S70):Th->Nat
 | .decl i=>i
 |_=>ds.length
def nmsT (ds:List S70)(t:Th):List ByteArray:=(ds.take (knownT ds t)).map (·.f1)++(fE t).reverse
mutual
theorem jY:∀(e:S116) (lo:List ByteArray),∀t∈bJ e lo,fE t=lo
 | ⟨a,b,s,l⟩,lo,t,ht=>by
   rw[bJ]at ht
   rcases cg.1 ht with rfl | ht
   ·rfl
   ·exact lS l lo t ht
theorem lS:∀(l:List S116) (lo:List ByteArray),∀t∈bY l lo,fE t=lo
 | [],_,t,ht=>by rw[bY]at ht;cases ht
 |x::r,lo,t,ht=>by
  rw[bY]at ht
  rcases bo.1 ht with ht | ht
  ·exact jY x lo t ht
  ·exact lS r lo t ht
end
mutual
theorem loops_stTh:∀(x:S119) (d:Nat) (lo:List ByteArray),∀t∈jN x d lo,(fE t).length<=lo.length+Ot.iT x
 | ⟨k,nm,e,f,l,h,th,el⟩,d,lo,t,ht=>by
   rw[jN]at ht;rw[Ot.iT]
   rcases cg.1 ht with rfl | ht
   ·exact Nat.le_add_right _ _
   ·rcases bo.1 ht with ht | ht
    ·rcases bo.1 ht with ht | ht
     ·split at ht
      ·rw[jY e lo t ht];omega
      ·cases ht
     ·split at ht
      ·rw[jY f lo t ht];omega
      ·cases ht
    ·rcases bo.1 ht with ht | ht
     ·have h1:=gF th _ _ t ht;unfold inLoop at h1
      split at h1
      ·rw[ar,az]at h1;omega
      ·omega
     ·have h1:=gF el _ _ t ht
      first | omega | (unfold inLoop at h1;split at h1;· rw[ar,az]at h1;omega
                       ·omega)
theorem gF:∀(l:List S119) (d:Nat) (lo:List ByteArray),∀t∈aD l d lo,(fE t).length<=lo.length+Ot.bH l
 | [],_,_,t,ht=>by rw[aD]at ht;cases ht
 |x::r,d,lo,t,ht=>by
  rw[aD]at ht;rw[Ot.bH]
  rcases bo.1 ht with ht | ht
  ·have:=loops_stTh x d lo t ht;omega
  ·have:=gF r d lo t ht;omega
end
theorem eN {ds:List S70}{bd:List S119}(hb:Ot.bH bd<=1048576):∀t∈things ds bd,(fE t).length<=1048576:=fun t ht=>by
 unfold things at ht
 rcases bo.1 ht with ht | ht
 ·obtain⟨i,_,rfl⟩:=List.mem_map.1 ht;exact br _
 ·have:=gF bd 1 [] t ht
  simp at this
  omega
theorem gW {ds:List S70}{bd:List S119}{pre rest:List Th}{i:Nat}(h:things ds bd=pre++ .decl i::rest)(hs:∀j,Th.decl j ∉ aD bd 1 []):i=pre.length/\i<ds.length:=by
 have h1:(things ds bd)[pre.length]? =ae (.decl i):=by rw[h];simp
 unfold things at h1;rw[List.getElem?_append]at h1
 split at h1
 ·rename_i hl
  simp at hl
  rw[List.getElem?_map,List.getElem?_range hl]at h1;injection h1 with h1;injection h1 with h1;exact⟨h1.symm,by omega⟩
 ·exact absurd (List.mem_of_getElem? h1) (hs i)
mutual
theorem lP:∀(e:S116) (lo:List ByteArray) (j:Nat),Th.decl j ∉ bJ e lo
 | ⟨a,b,s,l⟩,lo,j,ht=>by
   rw[bJ]at ht
   rcases cg.1 ht with h | ht
   ·cases h
   ·exact nodecl_exs l lo j ht
theorem nodecl_exs:∀(l:List S116) (lo:List ByteArray) (j:Nat),Th.decl j ∉ bY l lo
 | [],_,j,ht=>by rw[bY]at ht;cases ht
 |x::r,lo,j,ht=>by
  rw[bY]at ht
  rcases bo.1 ht with ht | ht
  ·exact lP x lo j ht
  ·exact nodecl_exs r lo j ht
end
mutual
theorem nodecl_st:∀(x:S119) (d:Nat) (lo:List ByteArray) (j:Nat),Th.decl j ∉ jN x d lo
 | ⟨k,nm,e,f,l,h,th,el⟩,d,lo,j,ht=>by
   rw[jN]at ht
   rcases cg.1 ht with h | ht
   ·cases h
   ·rcases bo.1 ht with ht | ht
    ·rcases bo.1 ht with ht | ht
     ·split at ht
      ·exact lP e lo j ht
      ·cases ht
     ·split at ht
      ·exact lP f lo j ht
      ·cases ht
    ·rcases bo.1 ht with ht | ht
     ·exact eD th _ _ j ht
     ·exact eD el _ _ j ht
theorem eD:∀(l:List S119) (d:Nat) (lo:List ByteArray) (j:Nat),Th.decl j ∉ aD l d lo
 | [],_,_,j,ht=>by rw[aD]at ht;cases ht
 |x::r,d,lo,j,ht=>by
  rw[aD]at ht
  rcases bo.1 ht with ht | ht
  ·exact nodecl_st x d lo j ht
  ·exact eD r d lo j ht
end
def isK (place:Int)(pre:List Th):Bool:=decide (0<=place)&&decide (place<(pre.length:Int))
def nmsK (ds:List S70)(place:Int)(pre:List Th):List ByteArray:=if isK place pre=ac then nmsT ds (eQ pre place.toNat)else []
theorem isK_nil (place:Int):isK place []=O:=by unfold isK;simp <;> omega
theorem nmsK_nil (ds:List S70)(place:Int):nmsK ds place []=[]:=by unfold nmsK;rw[isK_nil];rfl
theorem isK_other {place:Int}{pre:List Th}{t:Th}(h:¬(pre.length:Int)=place):isK place (pre++[t])=isK place pre:=by
 unfold isK;rw[ar,az]
 congr 1
 exact decide_eq_decide.2 (by omega)
theorem nmsK_other {ds:List S70}{place:Int}{pre:List Th}{t:Th}(h:¬(pre.length:Int)=place):nmsK ds place (pre++[t])=nmsK ds place pre:=by
 unfold nmsK;rw[isK_other h]
 by_cases hk:isK place pre=ac
 ·rw[if_pos hk,if_pos hk];unfold isK at hk
  simp at hk
  unfold eQ
  congr 1
  rw[aw,aw,fu (by omega)]
 ·rw[if_neg hk,if_neg hk]
theorem kO {place:Int}{pre:List Th}{t:Th}(h:(pre.length:Int)=place):isK place (pre++[t])=ac:=by
 unfold isK;rw[ar,az]
 simp
 omega
theorem lX {ds:List S70}{place:Int}{pre:List Th}{t:Th}(h:(pre.length:Int)=place):nmsK ds place (pre++[t])=nmsT ds t:=by
 unfold nmsK;rw[if_pos (kO h)]
 congr 1
 unfold eQ;rw[←h,ax,aw]
 simp
theorem nmsK_before {ds:List S70}{place:Int}{pre:List Th}(h:(pre.length:Int)=place):nmsK ds place pre=[]:=by
 unfold nmsK;rw[if_neg];unfold isK
 simp
 omega
structure NmI (B:Nat)(cs:Array Value)(bpl bis bp bl:Nat)(ds:List S70)(place:Int)(pre:List Th)(W:World):Prop where
 pl:W.heap[bpl]? =ae (.cells #[.int .i64 place] 3 (0,0))
 is:W.heap[bis]? =ae (.cells #[.bool (isK place pre)] 4 (0,0))
 p:W.heap[bp]? =ae (.cells cs 25 (0,0))
 l:∃lv,W.heap[bl]? =ae (.cells #[lv] 52 (0,0))/\RS W B lv (nmsK ds place pre)
theorem RS.gi {A C:World}{B:Nat}{lv:Value}{l:List ByteArray}(h:RS A B lv l)(k:Gi A C):RS C B lv l:=
 Kd.jA (Kd.R_step (Kd.iV h) (fun i hi _=>by
  obtain⟨_,_,_,q,hq,cells,hc⟩:=hi
  have hq9:q=9:=by
   simp[Kd.string,Kd.scalar]at hq;exact hq
  subst hq9
  rw[k.blk i cells 9 hc (by decide),hc])) (fun _ _=>trivial)
theorem NmI.stay {B:Nat}{cs:Array Value}{bpl bis bp bl:Nat}{ds:List S70}{place:Int}{pre:List Th}{A C:World}(h:NmI B cs bpl bis bp bl ds place pre A)(k:Gi A C):NmI B cs bpl bis bp bl ds place pre C:=
 ⟨k.blk _ _ _ h.pl (by decide),k.blk _ _ _ h.is (by decide),k.blk _ _ _ h.p (by decide),by
   obtain⟨lv,h1,h2⟩:=h.l
   exact⟨lv,k.blk _ _ _ h1 (by decide),h2.gi k⟩⟩
end
end Go.Proofs.YtfigjpehecibeaaGreat.L
