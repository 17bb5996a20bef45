/- Texts joined by a program of mine: Rb Xa Eb Mi Mj Pm Pr Pa Pb Pc Pe Ra Mk Mn Bd Mo Mp. -/
import Derived.Test.YtfigjpehecibeaaGreatProg
import Derived.Laws.CopyOwn
import Derived.Deep.RegionLaw
import Derived.Test.YtfigjpehecibeaaGreatZh0
import Derived.Test.YtfigjpehecibeaaGreatZh5
import Derived.Test.YtfigjpehecibeaaGreatZh7
set_option maxRecDepth 100000
open And renaming intro -> aj
open Bool renaming true -> af, false -> ac, and_eq_true -> cb, true_and -> ku
open Go.Act renaming put -> ay
open Go.Ending renaming returned -> gj
open Go.Instr renaming lookup -> iw
open Go.IntKind renaming signed -> js, bits -> jf
open Go.Proofs.Tryz renaming prog -> au, underlying9 -> jo, underlying74 -> ky
open Go.Proofs.YtfigjpehecibeaaGreatW.PrintWords.Aside0 renaming mk -> aa
open Go.Proofs.YtfigjpehecibeaaGreatW.PrintWords.Drawn0 renaming refl -> du, step -> dw
open Go.RowKit.Below renaming refl -> ar, heap_setCell -> dn
open Go.Value renaming int -> bh, bool -> iu, ownBlock -> ee
open Go.WideMaps renaming keyOf_string_mk -> kw
open Go.World renaming setCell -> ji, block_lt_of_cell? -> av
open Int renaming toNat_natCast -> ax, lt_or_le -> dh, eq_ofNat_of_zero_le -> ew, emod_lt_of_pos -> kp, natCast_emod -> jp, natCast_mul -> iy, natCast_nonneg -> bo, natCast_add -> kz
open List renaming getElem?_eq_none -> dg, getD_eq_getElem?_getD -> aw, getElem?_eq_getElem -> az, length_cons -> jn, append_assoc -> dr, take_zero -> jx, append_nil -> ed, length_append -> ba, length_take -> dm, take_length -> eu, mem_cons_self -> ig, mem_cons -> iv, all_eq_true -> fw, map_append -> ef, map_cons -> cg, map_nil -> db, getElem?_set -> jr, map_toArray -> cd, length_drop -> fj, getElem?_take -> ke, replicate -> bg, length_replicate -> dx, drop_eq_nil_of_le -> jw, getElem?_map -> jb, getElem?_append_left -> jq, setIfInBounds_toArray -> ae, set_cons_zero -> ah, set_cons_succ -> ai, range -> bu, range_succ -> jz, getElem_mem -> gn, length_singleton -> bq, mem_range -> jg
open Nat renaming mul_one -> ib, add_zero -> gm, not_lt_zero -> da, lt_or_ge -> gu, min_eq_right -> iz, min_eq_left -> di, zero_le -> bk, two_pow_pos -> df, mod_lt -> ij, lt_of_le_of_lt -> gh, div_le_self -> jh, le_mul_of_pos_right -> fu, le_refl -> aq, le_trans -> bi, ne_of_lt -> jy, pow_le_pow_right -> ju, mod_eq_of_lt -> fp, eq_zero_or_pos -> cq
open Option renaming some -> ag, none -> ak
open Option.some renaming inj -> cf
open SizeOf renaming sizeOf -> cz
set_option linter.unusedVariables false
set_option linter.unusedSimpArgs false
set_option maxHeartbeats 8000000
namespace Go.Proofs.YtfigjpehecibeaaGreat.L
open Go.RowKit Bm C Go.Maps Go.Proofs.YtfigjpehecibeaaGreatW.PrintWords Go.Proofs.YtfigjpehecibeaaGreatW.PrintLast Go.Proofs.YtfigjpehecibeaaGreatW.PrintMore Go.Proofs.YtfigjpehecibeaaGreat.Gr
section
set_option maxRecDepth 100000
theorem eqA101 (d:Nat)(w:World)(x0 y0 x1 y1 x2 y2:Int):
 (Op.equalIn (d+2) 101 (.agg #[.int .i64 x0,.int .u64 x1,.int .u64 x2]) (.agg #[.int .i64 y0,.int .u64 y1,.int .u64 y2])).run au w=.ok (x0==y0&&(x1==y1&&x2==y2)) w:=by
 refine eqA_of Tryz.underlying101 (by kernel_rfl) ?_;refine eqf_cons (by rfl) (by go_simp;rfl) (by go_simp;rfl) (by go_simp) ?_;refine eqf_cons (by rfl) (by go_simp;rfl) (by go_simp;rfl) (by go_simp) ?_;exact eqf_last (by rfl) (by go_simp;rfl) (by go_simp;rfl) (by go_simp)
def bX (W:World)(A:Option Addr)(l:List Int):Prop:=∀k,k<l.length->∃ad,A=ag ad/\W.cell? (ad.add k)=ag (.int .u64 (l.getD k 0))
theorem bX.below {W W':World}{A:Option Addr}{l:List Int}(h:bX W A l)(hb:Below W.heap.size W W'):bX W' A l:=fun k hk=>by
 obtain⟨ad,e,q⟩:=h k hk;exact⟨ad,e,aE hb q⟩
theorem sU {W:World}{A:Option Addr}{l:List Int}(h:(Kd.int .u64).C W A l.length l):bX W A l:=fun k hk=>by
 obtain⟨ad,cc,e,_,hK,hc⟩:=Kd.oZ h (0:Int) (k:Int) (by omega) (by omega);refine⟨ad,e,?_⟩;have h:=hc 0 _ (by rw[hK];rfl);rw[show(Kd.int .u64).sz=1 from rfl,ib,gm,ax]at h;exact h
theorem wordsAt_row {W:World}{b:Nat}{l:List Int}(h:jI W b l):bX W (ag ⟨b,0,ak⟩) l:=fun k hk=>by
 obtain⟨cs,hb,hc⟩:=h;refine⟨_,rfl,?_⟩;rw[show(⟨b,0,ak⟩:Addr).add k=⟨b,k,ak⟩ by cases k <;> simp[Addr.add],aA hb];exact hc k hk
def RowsAt (W:World)(A:Option Addr)(S:List (List Int)):Prop:=∀i,i<S.length->∃ad b c,A=ag ad/\W.cell? (ad.add i)=ag (.slice (ag ⟨b,0,ak⟩) (S.getD i []).length c)/\bX W (ag ⟨b,0,ak⟩) (S.getD i [])
end
section
set_option maxRecDepth 100000
def Alike (T U:List S101)(k:Nat):Prop:=∀i,i<k->T[i]? =U[i]?
def Part (T U:List S101)(k:Nat):Prop:=Alike T U k/\T[k]? ≠U[k]?
open Classical in
noncomputable def difS (T U:List S101):Int × Bool:=if h:∃k,Part T U k then((Classical.choose h:Nat),af)else(0,ac)
theorem tE {T U:List S101}{k:Nat}(h:Part T U k):difS T U=((k:Int),af):=by
 unfold difS;rw[dif_pos ⟨k,h⟩];have hc:=Classical.choose_spec (⟨k,h⟩:∃k,Part T U k);generalize Classical.choose (⟨k,h⟩:∃k,Part T U k)=j at hc
 rcases Nat.lt_trichotomy j k with hj | hj | hj
 ·exact absurd (h.1 j hj) hc.2
 ·rw[hj]
 ·exact absurd (hc.1 k hj) h.2
theorem difS_none {T U:List S101}(h:∀k,Alike T U k):difS T U=(0,ac):=by
 unfold difS;rw[dif_neg];rintro⟨k,hk⟩;exact hk.2 (h (k+1) k (Nat.lt_succ_self k))
theorem Alike.zero (T U:List S101):Alike T U 0:=fun i h=>absurd h (da i)
theorem Alike.step {T U:List S101}{k:Nat}(h:Alike T U k)(e:T[k]? =U[k]?):Alike T U (k+1):=fun i hi=>by
 rcases Nat.lt_or_eq_of_le (Nat.le_of_lt_succ hi)with h' | rfl
 ·exact h i h'
 ·exact e
theorem Alike.all {T U:List S101}{k:Nat}(h:Alike T U k)(hT:T.length<=k)(hU:U.length<=k)(j:Nat):Alike T U j:=fun i hi=>by
 rcases gu i k with h' | h'
 ·exact h i h'
 ·rw[dg (by omega),dg (by omega)]
theorem l6 {l:List S101}{k:Nat}(h:k<l.length):l[k]? =ag (fJ l (k:Int)):=by
 unfold fJ;rw[ax,aw,az h];rfl
theorem ev_eq (a b:S101):(a.f0==b.f0&&(a.f1==b.f1&&a.f2==b.f2))=af ↔ a=b:=by
 cases a;cases b
 simp[and_assoc]
theorem minNN (ats:Array TypeId)(ty:TypeId)(m n:Nat):Builtin.min_ ats ty #[.int .i64 (m:Int),.int .i64 (n:Int)]=pure (.int .i64 ((min m n:Nat):Int)):=by
 rw[j4,gV]
 by_cases h:(n:Int)<(m:Int)
 ·rw[if_pos h,iz (by omega)];rfl
 ·rw[if_neg h,di (by omega)];rfl
section
attribute [local go_sem high] eqA101 minNN
theorem pG (T U:List S101)(A B:Option Addr)(c d:Nat)(W:World)(ha:lE.C W A T.length T)(hb:lE.C W B U.length U)(hm:T.length<=1073741824)(hn:U.length<=1073741824)(r:Int × Bool)(hr:r=difS T U):
 Calls au 57 #[.slice A T.length c,.slice B U.length d] W fun e W'=>e=.returned (.tuple #[.int .i64 r.1,.bool r.2])/\Below W.heap.size W W':=by
 have H:=aa (aj ha hb);have HR:=aa hr;clear ha hb hr;go_enter Tryz.func57,Tryz.ntmps57;go_wp2_with fail;obtain⟨N,hN⟩:∃N,N=min T.length U.length:=⟨_,rfl⟩;rw[←hN];have HN:=aa (show N<=T.length/\N<=U.length/\(T.length<=N\/U.length<=N) from by omega)
 have hN31:N<=1073741824:=by omega
 clear hN;go_wp2_with fail
 go_loopw [14] (fun i W'=>∃k:Nat,i=.int .i64 k/\k<=N/\Aside0 (Alike T U k)/\Aside0 (Below W.heap.size W W')) (fun i _=>N - (intOf i).toNat)
 case atStart=>exact⟨0,rfl,bk _,⟨Alike.zero _ _⟩,⟨ar _ _⟩⟩
 case round=>
  obtain⟨k,rfl,hk,HA,HB⟩:=hrel
  by_cases hlt:k<N
  ·have h1:k<T.length:=by have:=HN.out.1;omega
   have h2:k<U.length:=by have:=HN.out.2.1;omega
   obtain⟨ad1,e1,q0,q1,q2⟩:=lK H.out.1 (k:Int) (by omega) (by omega);cases e1;obtain⟨ad2,e2,p0,p1,p2⟩:=lK H.out.2 (k:Int) (by omega) (by omega);cases e2;rw[ax]at q0 q1 q2 p0 p1 p2;replace q0:=aE HB.out q0;replace q1:=aE HB.out q1;replace q2:=aE HB.out q2;replace p0:=aE HB.out p0;replace p1:=aE HB.out p1;replace p2:=aE HB.out p2;have HE:=aa (aj (l6 h1) (l6 h2));generalize fJ T (k:Int)=a at q0 q1 q2 HE;generalize fJ U (k:Int)=b at p0 p1 p2 HE
   have hi1:(k:Int)<(T.length:Int):=by omega
   have hi2:(k:Int)<(U.length:Int):=by omega
   rcases aL (a.f0==b.f0&&(a.f1==b.f1&&a.f2==b.f2))with he | he
   ·go_wp2_with fail;go_region;go_wp2_with fail;refine⟨⟨k+1,by go_num,by omega,⟨HA.out.step ?_⟩,⟨HB.out.drew⟩⟩,by simp[intOf];omega⟩;rw[HE.out.1,HE.out.2,(ev_eq a b).1 he]
   ·have HD:=aa (tE (T:=T) (U:=U) (k:=k) ⟨HA.out,fun h=>by
     rw[HE.out.1,HE.out.2]at h;rw[(ev_eq a b).2 (cf h)]at he
     exact absurd he (by decide)⟩)
    go_wp2_with fail;go_region;go_wp2_with fail;go_ret2;exact⟨by rw[HR.out.trans HD.out];rfl,HB.out.drew⟩
  ·have hkN:k=N:=by omega
   subst hkN
   by_cases hl:T.length=U.length
   ·have HD:=aa (difS_none (T:=T) (U:=U) (fun j=>HA.out.all (by have:=HN.out.2.2;omega) (by have:=HN.out.2.2;omega) j))
    have hl':((T.length:Int)==(U.length:Int))=af:=by simp[hl]
    go_wp2_with fail;go_ret2;exact⟨by rw[HR.out.trans HD.out];rfl,HB.out⟩
   ·have HD:=aa (tE (T:=T) (U:=U) (k:=k) ⟨HA.out,fun h=>by
     rcases HN.out.2.2 with h' | h'
     ·rw[dg h',az (by have:=HN.out.1;have:=HN.out.2.1;omega)]at h;exact absurd h (by simp)
     ·rw[dg h',az (by have:=HN.out.1;have:=HN.out.2.1;omega)]at h
      exact absurd h (by simp)⟩)
    have hl':((T.length:Int)==(U.length:Int))=ac:=by simp;omega
    go_wp2_with fail;go_ret2;exact⟨by rw[HR.out.trans HD.out];rfl,HB.out⟩
theorem rN (T U:List S101)(A B:Option Addr)(c d:Nat)(W:World)(ha:lE.C W A T.length T)(hb:lE.C W B U.length U)(hm:T.length<=1073741824)(hn:U.length<=1073741824)(r:Int × Bool)(hr:r=difS T U):
 Calls au 74 #[.slice A T.length c,.slice B U.length d] W fun e W'=>e=.returned (.tuple #[.int .i64 r.1,.bool r.2])/\Below W.heap.size W W':=by
 have H:=aa (aj ha hb);have HR:=aa hr;clear ha hb hr;go_enter Tryz.func74,Tryz.ntmps74;go_wp2_with fail
 go_loopw [6] (fun i W'=>∃k:Nat,i=.int .i64 k/\k<=T.length+U.length/\Aside0 (Alike T U k)/\Aside0 (Below W.heap.size W W')) (fun i _=>T.length+U.length - (intOf i).toNat)
 case atStart=>exact⟨0,rfl,bk _,⟨Alike.zero _ _⟩,⟨ar _ _⟩⟩
 case round=>
  obtain⟨k,rfl,hk,HA,HB⟩:=hrel
  by_cases h1:k<T.length
  ·by_cases h2:k<U.length
   ·obtain⟨ad1,e1,q0,q1,q2⟩:=lK H.out.1 (k:Int) (by omega) (by omega);cases e1;obtain⟨ad2,e2,p0,p1,p2⟩:=lK H.out.2 (k:Int) (by omega) (by omega);cases e2;rw[ax]at q0 q1 q2 p0 p1 p2;replace q0:=aE HB.out q0;replace q1:=aE HB.out q1;replace q2:=aE HB.out q2;replace p0:=aE HB.out p0;replace p1:=aE HB.out p1;replace p2:=aE HB.out p2;have HE:=aa (aj (l6 h1) (l6 h2));generalize fJ T (k:Int)=a at q0 q1 q2 HE;generalize fJ U (k:Int)=b at p0 p1 p2 HE;have hi1:decide ((k:Int)<(T.length:Int))=af:=decide_eq_true (by omega);have gi1:decide ((T.length:Int)<=(k:Int))=ac:=decide_eq_false (by omega);have hi2:decide ((k:Int)<(U.length:Int))=af:=decide_eq_true (by omega);have gi2:decide ((U.length:Int)<=(k:Int))=ac:=decide_eq_false (by omega)
    rcases aL (a.f0==b.f0&&(a.f1==b.f1&&a.f2==b.f2))with he | he
    ·go_wp2_with fail
     repeat(go_quiet (fail);try go_wp2_with fail)
     refine⟨⟨k+1,by go_num,by omega,⟨HA.out.step ?_⟩,⟨by repeat(first | (with_reducible exact HB.out) | apply aO | apply aU | exact HB.out)⟩⟩,by simp[intOf];omega⟩;rw[HE.out.1,HE.out.2,(ev_eq a b).1 he]
    ·have HD:=aa (tE (T:=T) (U:=U) (k:=k) ⟨HA.out,fun h=>by
      rw[HE.out.1,HE.out.2]at h;rw[(ev_eq a b).2 (cf h)]at he
      exact absurd he (by decide)⟩)
     go_wp2_with fail
     repeat(go_quiet (fail);try go_wp2_with fail)
     go_ret2;exact⟨by rw[HR.out.trans HD.out];rfl,by repeat(first | (with_reducible exact HB.out) | apply aO | apply aU | exact HB.out)⟩
   ·have hi1:decide ((k:Int)<(T.length:Int))=af:=decide_eq_true (by omega);have gi1:decide ((T.length:Int)<=(k:Int))=ac:=decide_eq_false (by omega);have hi2:decide ((k:Int)<(U.length:Int))=ac:=decide_eq_false (by omega);have gi2:decide ((U.length:Int)<=(k:Int))=af:=decide_eq_true (by omega)
    have HD:=aa (tE (T:=T) (U:=U) (k:=k) ⟨HA.out,fun h=>by
     rw[dg (l:=U) (by omega),az h1]at h
     exact absurd h (by simp)⟩)
    go_wp2_with fail
    repeat(go_quiet (fail);try go_wp2_with fail)
    go_ret2;exact⟨by rw[HR.out.trans HD.out];rfl,by repeat(first | (with_reducible exact HB.out) | apply aO | apply aU | exact HB.out)⟩
  ·have hi1:decide ((k:Int)<(T.length:Int))=ac:=decide_eq_false (by omega);have gi1:decide (T.length<=k)=af:=decide_eq_true (by omega)
   by_cases h2:k<U.length
   ·have hi2:decide ((k:Int)<(U.length:Int))=af:=decide_eq_true (by omega);have gi2:decide ((U.length:Int)<=(k:Int))=ac:=decide_eq_false (by omega)
    have HD:=aa (tE (T:=T) (U:=U) (k:=k) ⟨HA.out,fun h=>by
     rw[dg (l:=T) (by omega),az h2]at h
     exact absurd h (by simp)⟩)
    go_wp2_with fail;refine aG ?_;intro gg;refine bT (by kernel_rfl) (by kernel_rfl) ?_
    repeat(go_big_quiet_step (fail))
    refine wpQuiet_nil ?_;rintro _ ⟨gg,rfl⟩;go_wp2_with fail;go_ret2;exact⟨by rw[HR.out.trans HD.out];rfl,HB.out.trans (gg.below.mono HB.out.size)⟩
   ·have hi2:decide ((k:Int)<(U.length:Int))=ac:=decide_eq_false (by omega);have gi2:decide ((U.length:Int)<=(k:Int))=af:=decide_eq_true (by omega);have HD:=aa (difS_none (T:=T) (U:=U) (fun j=>HA.out.all (by omega) (by omega) j));go_wp2_with fail;go_ret2;exact⟨by rw[HR.out.trans HD.out];rfl,by repeat(first | (with_reducible exact HB.out) | apply aO | apply aU | exact HB.out)⟩
end
end
end Go.Proofs.YtfigjpehecibeaaGreat.L
namespace Go.Proofs.YtfigjpehecibeaaGreat.L
open Go.RowKit Bm C
theorem movn_lt {op:Int}{m x n:Nat}(hx:x<2 ^ m):movn op m x n<2 ^ m:=by
 have hp:=df m;unfold movn
 split
 ·exact ij _ hp
 split
 ·exact gh (jh _ _) hx
 split
 ·split
  ·rw[Nat.div_lt_iff_lt_mul (df n),Nat.mul_sub,ib];have:2 ^ m<=2 ^ m*2 ^ n:=fu _ (df n);omega
  ·exact gh (jh _ _) hx
 split
 ·exact ij _ hp
 ·exact ij _ hp
theorem opn_lt {op:Int}{m x y:Nat}(hx:x<2 ^ m)(hy:y<2 ^ m):opn op m x y<2 ^ m:=by
 have hp:=df m;unfold opn
 split
 ·exact Nat.and_lt_two_pow x hy
 split
 ·exact Nat.or_lt_two_pow hx hy
 split
 ·exact Nat.xor_lt_two_pow hx hy
 split
 ·exact ij _ hp
 split
 ·exact ij _ hp
 split
 ·exact ij _ hp
 split
 ·split
  ·omega
  ·exact gh (jh _ _) hx
 ·split
  ·exact hx
  ·exact gh (Nat.mod_le _ _) hx
abbrev U64 (x:Int):Prop:=0<=x/\x<18446744073709551616
theorem U64.nat {x:Int}(h:U64 x):∃n:Nat,x=(n:Int)/\n<2 ^ 64:=⟨x.toNat,by omega,by rw[p64];omega⟩
theorem rB {n:Nat}(h:n<2 ^ 64):U64 (n:Int):=by rw[p64]at h;exact⟨by omega,by omega⟩
theorem unW_u64 (k wd:Int){x:Int}(h:U64 x):U64 (unW k wd x):=by
 unfold unW
 split
 ·exact rB (trn_le (by rw[p64];omega))
 ·exact rB (trn_le (by rw[p64];omega))
theorem binW_u64 (k:Int){m:Nat}(hm:dP m)(x y:Int):U64 (binW k m x y):=by
 have h2:=hm.le;have l:∀z:Nat,z<2 ^ m->U64 (z:Int):=fun z hz=>rB (lt64 h2.2 hz);have hp:=df m;unfold binW binn
 split
 ·exact⟨by decide,by decide⟩
 split
 ·exact⟨by decide,by decide⟩
 rw[ax]
 split
 ·exact l _ (movn_lt (ij _ hp))
 ·exact l _ (opn_lt (ij _ hp) (ij _ hp))
theorem cmpW_u64 (k wd x y:Int):U64 (cmpW k wd x y):=by
 unfold cmpW
 split <;> exact⟨by decide,by decide⟩
theorem finE_u64 {wd ln:Int}{ds:List S70}(hs:SOK wd ln ds){R:List (List Int)}(hR:ROK ds R)(k:Int)(nm:ByteArray){x y z:Int}(hx:U64 x)(hy:U64 y)(hz:U64 z):U64 (nC wd ln ds R k nm x y z).1:=by
 obtain⟨m,rfl,hm⟩:=hs.wd;unfold nC
 split
 ·exact hR.word _ _
 split
 ·exact unW_u64 _ _ hx
 split
 ·show U64 (if x≠0 then y else z)
  split
  ·exact hy
  ·exact hz
 split
 ·exact binW_u64 _ hm _ _
 ·exact cmpW_u64 _ _ _ _
theorem lU {wd ln:Int}{ds:List S70}(hs:SOK wd ln ds){R:List (List Int)}(hR:ROK ds R){L:List (ByteArray × Int)}(hL:LOK L):∀(n:Nat) (e:S116),cz e<=n->EOK ds (L.map (·.1)) e->U64 (evE wd ln ds R L e).1:=by
 intro n
 induction n with
 |zero=>intro e h;obtain⟨a,b,s,l⟩:=e;simp at h
 |succ n ih=>
  intro e h hE
  have hk:∀i,U64 ((eG wd ln ds R L e.f3).1.getD i 0):=by
   intro i
   have:∀l:List S116,(∀y∈l,U64 (evE wd ln ds R L y).1)->∀i,U64 ((eG wd ln ds R L l).1.getD i 0):=by
    intro l
    induction l with
    |nil=>intro _ i;simp[eG];exact⟨by decide,by decide⟩
    |cons y r ihr=>
     intro hy i;rw[eG]
     cases i with
     |zero=>exact hy y (by simp)
     |succ i=>exact ihr (fun z hz=>hy z (by simp[hz])) i
   exact this e.f3 (fun y hy=>ih y (eV rfl hy h) (hE.kid hy)) i
  rw[evE_eq]
  split
  ·rename_i h1;exact hE.kind.2.2.2.2.1 h1
  split
  ·cases hl:lkL L e.f2 with
   |none=>exact hR.word _ _
   |some v=>exact lkL_ok hL hl
  ·exact finE_u64 hs hR _ _ (hk 0) (hk 1) (hk 2)
end Go.Proofs.YtfigjpehecibeaaGreat.L
namespace Go.Proofs.YtfigjpehecibeaaGreat.L
open Go.RowKit Bm C Go.Maps Go.Proofs.YtfigjpehecibeaaGreatW.PrintWords Go.Proofs.YtfigjpehecibeaaGreatW.PrintLast Go.Proofs.YtfigjpehecibeaaGreatW.PrintMore Go.Proofs.YtfigjpehecibeaaGreat.Gr
theorem Kt.set_new {ts:List Nat}{lb:Option Nat}{W W':World}(h:Kt ts lb W W'){g:Nat}(hg:W.heap.size<=g)(j:Nat)(u:Value):Kt ts lb W (W'.setCell ⟨g,j,ak⟩ u):=by
 refine⟨by simpa[ji]using h.size,fun g' cs t fr hb ht=> ?_,fun g' es x hl he=> ?_⟩
 ·have:=aX hb;rw[dn _ _ _ _ (fun e=>by have e:g'=g:=e;omega)];exact h.blk g' cs t fr hb ht
 ·have:=aX he;rw[dn _ _ _ _ (fun e=>by have e:g'=g:=e;omega)];exact h.maps g' es x hl he
theorem MAt.other {c:Cfg}{R:List (List Int)}{L:List (ByteArray × Int)}{T:List S101}{W:World}(h:MAt c R L T W){g t:Nat}{cs:Array Value}(hb:W.heap[g]? =ag (.cells cs t (0,0)))(ht:t≠93/\t≠36/\t≠74/\t≠84/\t≠101)(hg:c.w0.heap.size<=g)(j:Nat)(u:Value):MAt c R L T (W.setCell ⟨g,j,ak⟩ u):=by
 have hk:Kt [t] ak W (W.setCell ⟨g,j,ak⟩ u):=(Kt.refl _ _ _).set hb (by simp) j u;obtain⟨vt,t1,t2⟩:=h.he;obtain⟨n1,n2,n3,n4,n5⟩:=ht;refine h.seen hk (by simp[Ne.symm n1]) (by simp[Ne.symm n2]) (by simp[Ne.symm n3]) (h.low.setCell (p:=⟨g,j,ak⟩) hg _) ⟨vt,hk.blk _ _ _ _ t1 (by simp[Ne.symm n4]),hk.row t2 (fun q hq=> ?_)⟩
 have:q=101:=by simpa[lE,Kd.iso,Kd.pair,Kd.int,Kd.scalar]using hq
 rw[this];simp[Ne.symm n5]
abbrev three (l:List Int):Array Value:= #[.int .u64 (l.getD 0 0),.int .u64 (l.getD 1 0),.int .u64 (l.getD 2 0)]
theorem three_set (l:List Int)(v:Int){j:Nat}(hj:l.length=j)(h3:j<3):(three l).setIfInBounds j (.int .u64 v)=three (l++[v]):=by
 match l,hj with
 | [],rfl=>rfl
 | [a],rfl=>rfl
 | [a,b],rfl=>rfl
 |a::b::d::r,rfl=>simp only[jn]at h3;omega
theorem three_get (l:List Int){j:Nat}(h3:j<3):∃v,(three l)[j]? =ag (.int .u64 v):=by
 match j,h3 with
 |0,_=>exact⟨_,rfl⟩
 |1,_=>exact⟨_,rfl⟩
 |2,_=>exact⟨_,rfl⟩
theorem evEs_u64 {wd ln:Int}{ds:List S70}(hs:SOK wd ln ds){R:List (List Int)}(hR:ROK ds R){L:List (ByteArray × Int)}(hL:LOK L):∀(l:List S116),(∀y∈l,EOK ds (L.map (·.1)) y)->∀i,U64 ((eG wd ln ds R L l).1.getD i 0)
 | [],_,i=>by simp[eG];exact⟨by decide,by decide⟩
 |y::r,hy,i=>by
  rw[eG]
  cases i with
  |zero=>exact lU hs hR hL _ y (aq _) (hy y (by simp))
  |succ i=>exact evEs_u64 hs hR hL r (fun z hz=>hy z (by simp[hz])) i
theorem un15 (wd:Int)(h1:1<=wd)(h2:wd<=64)(x:Nat)(hx:x<2 ^ 64)(W:World):Calls au 158 #[.int .i64 15,.int .i64 wd,.int .u64 (x:Int)] W fun e W'=>e=.returned (.tuple #[.int .u64 (unW 4 wd x),.int .i64 0])/\Below W.heap.size W W':=by
 have:=un_calls 4 wd (.inl rfl) h1 h2 x hx W
 rwa [show wrap64 (wrap64 (4 - 4)+15)=15 from by rw[w64,w64];omega]at this
theorem un16 (wd:Int)(h1:1<=wd)(h2:wd<=64)(x:Nat)(hx:x<2 ^ 64)(W:World):Calls au 158 #[.int .i64 16,.int .i64 wd,.int .u64 (x:Int)] W fun e W'=>e=.returned (.tuple #[.int .u64 (unW 5 wd x),.int .i64 0])/\Below W.heap.size W W':=by
 have:=un_calls 5 wd (.inr rfl) h1 h2 x hx W
 rwa [show wrap64 (wrap64 (5 - 4)+15)=16 from by rw[w64,w64];omega]at this
theorem bin_v (k:Int){wd:Int}(hw:∃m:Nat,wd=(m:Int)/\dP m)(ho:17<=opK k/\opK k<=29){x y:Int}(hx:U64 x)(hy:U64 y)(W:World):
 Calls au 160 #[.int .i64 (opK k),.int .i64 wd,.int .u64 x,.int .u64 y] W fun e W'=>e=.returned (.tuple #[.int .u64 (binW k wd x y),.int .i64 0])/\Below W.heap.size W W':=by
 obtain⟨m,rfl,hm⟩:=hw;obtain⟨a,rfl,ha⟩:=hx.nat;obtain⟨b,rfl,hb⟩:=hy.nat;unfold binW;rw[ax,ax]
 rcases dh (opK k) 25 with h | h
 ·exact binP_calls (opK k) m a b hm ho.1 h ha hb W
 ·exact binS_calls (opK k) m a b hm h ho.2 ha hb W
theorem opK_in {k:Int}(h:(6<=k/\k<=17)\/k=24):17<=opK k/\opK k<=29:=by
 have h:k=6\/k=7\/k=8\/k=9\/k=10\/k=11\/k=12\/k=13\/k=14\/k=15\/k=16\/k=17\/k=24:=by omega
 rcases h with rfl | rfl | rfl | rfl | rfl | rfl | rfl | rfl | rfl | rfl | rfl | rfl | rfl <;> decide
theorem opK_no {k:Int}(h:(18<=k/\k<=23)\/k=25):opK k=0:=by
 have h:k=18\/k=19\/k=20\/k=21\/k=22\/k=23\/k=25:=by omega
 rcases h with rfl | rfl | rfl | rfl | rfl | rfl | rfl <;> rfl
theorem two_v {k v:Int}(hv:v=opK k)(W:World)(h0:6<=k)(h1:k<=25):Calls au 159 #[.int .i64 k] W fun e W'=>e=.returned (.int .i64 v)/\Below W.heap.size W W':=hv ▸ two_calls k W h0 h1
theorem cmp_v (c:Cfg){R:List (List Int)}{L:List (ByteArray × Int)}{T:List S101}(W:World)(hM:MAt c R L T W){k:Int}(hk:(18<=k/\k<=23)\/k=25){x y:Int}(hx:U64 x)(hy:U64 y)(hw:∃m:Nat,c.wd=(m:Int)/\dP m):
 Calls au 161 #[.pointer (ag ⟨c.mb,0,ak⟩),.int .i64 k,.int .u64 x,.int .u64 y] W fun e W'=>e=.returned (.int .u64 (cmpW k c.wd x y))/\Below W.heap.size W W':=by
 rcases hk with hk | rfl
 ·exact compared_calls c W hM k x y (by omega)
 ·obtain⟨m,hm,hm2⟩:=hw;obtain⟨a,rfl,ha⟩:=hx.nat;obtain⟨b,rfl,hb⟩:=hy.nat;have:=hm2.le;exact compared25 c W hM a b ha hb (by omega) (by omega)
theorem fin26 (wd ln:Int)(ds:List S70)(R:List (List Int))(nm:ByteArray)(x y z:Int):nC wd ln ds R 26 nm x y z=(if x≠0 then y else z,[]):=by
 unfold nC;rw[if_neg (by decide),if_neg (by decide),if_pos rfl]
theorem fin45 (wd ln:Int)(ds:List S70)(R:List (List Int)){k:Int}(hk:k=4\/k=5)(nm:ByteArray)(x y z:Int):nC wd ln ds R k nm x y z=(unW k wd x,[]):=by
 unfold nC;rw[if_neg (by omega),if_pos hk]
theorem finBin (wd ln:Int)(ds:List S70)(R:List (List Int)){k:Int}(h:(6<=k/\k<=17)\/k=24)(nm:ByteArray)(x y z:Int):nC wd ln ds R k nm x y z=(binW k wd x y,if k=7\/k=8 then [⟨4,x,y⟩]else []):=by
 have:=opK_in h;unfold nC;rw[if_neg (by omega),if_neg (by omega),if_neg (by omega),if_pos (by omega)]
theorem finCmp (wd ln:Int)(ds:List S70)(R:List (List Int)){k:Int}(h:(18<=k/\k<=23)\/k=25)(nm:ByteArray)(x y z:Int):nC wd ln ds R k nm x y z=(cmpW k wd x y,[]):=by
 have:=opK_no h;unfold nC;rw[if_neg (by omega),if_neg (by omega),if_neg (by omega),if_neg (by omega)]
theorem expr_rest (c:Cfg)(hs:SOK c.wd c.ln c.ds)(e:S116)(hk:3<=e.f0)(ih:∀y∈e.f3,ExprM c y):ExprM c e:=by
 intro W R L T A cap hM hR hL hE hT hC hcap;have hkd:=hE.kind;have hsz:=hkd.2.2.2.2.2
 have hr:evE c.wd c.ln c.ds R L e=((nC c.wd c.ln c.ds R e.f0 e.f2 ((eG c.wd c.ln c.ds R L e.f3).1.getD 0 0) ((eG c.wd c.ln c.ds R L e.f3).1.getD 1 0) ((eG c.wd c.ln c.ds R L e.f3).1.getD 2 0)).1,(eG c.wd c.ln c.ds R L e.f3).2++(nC c.wd c.ln c.ds R e.f0 e.f2 ((eG c.wd c.ln c.ds R L e.f3).1.getD 0 0) ((eG c.wd c.ln c.ds R L e.f3).1.getD 1 0) ((eG c.wd c.ln c.ds R L e.f3).1.getD 2 0)).2):=by rw[evE_eq,if_neg (by omega),if_neg (by omega)]
 rw[hr];obtain⟨x,hx⟩:∃x,x=(eG c.wd c.ln c.ds R L e.f3).1.getD 0 0:=⟨_,rfl⟩;obtain⟨y,hy⟩:∃x,x=(eG c.wd c.ln c.ds R L e.f3).1.getD 1 0:=⟨_,rfl⟩;obtain⟨z,hz⟩:∃x,x=(eG c.wd c.ln c.ds R L e.f3).1.getD 2 0:=⟨_,rfl⟩;obtain⟨T1,hT1⟩:∃T1,T1=T++(eG c.wd c.ln c.ds R L e.f3).2:=⟨_,rfl⟩;rw[←hx,←hy,←hz,←dr,←hT1];obtain⟨k,hkk⟩:∃k,k=e.f0:=⟨_,rfl⟩;obtain⟨num,hnum⟩:∃k,k=e.f1:=⟨_,rfl⟩;obtain⟨nm,hnm⟩:∃k,k=e.f2:=⟨_,rfl⟩;obtain⟨l,hl⟩:∃k,k=e.f3:=⟨_,rfl⟩;rw[←hl]at ih hC hcap hx hy hz hT1;have HV:=aa (aj hx (aj hy (aj hz hT1)));rw[←hkk,←hnum,←hnm,←hl];obtain⟨n,hn⟩:∃n,n=l.length:=⟨_,rfl⟩;rw[←hn]at hC hcap ⊢;have k1:(k==1)=ac:=beq_eq_false_iff_ne.2 (by omega);have k2:(k==2)=ac:=beq_eq_false_iff_ne.2 (by omega);obtain⟨X,hX⟩:∃X,X=W.alloc (.cells #[.int .i64 k,.int .u64 num,.string nm,.slice A n cap] 116):=⟨_,rfl⟩
 have hXB:Below W.heap.size W X:=by rw[hX];exact(ar _ _).alloc (aq _) _
 have hXs:X.heap.size=W.heap.size+1:=by rw[hX];simp
 have hbx:X.heap[W.heap.size]? =ag (.cells #[.int .i64 k,.int .u64 num,.string nm,.slice A n cap] 116 (0,0)):=by rw[hX];exact aW _ _
 obtain⟨Y,hY⟩:∃Y,Y=X.alloc (.cells #[.int .u64 0,.int .u64 0,.int .u64 0] 218):=⟨_,rfl⟩
 have hYB:Below X.heap.size X Y:=by rw[hY];exact(ar _ _).alloc (aq _) _
 have hbY:Y.heap[W.heap.size+1]? =ag (.cells #[.int .u64 0,.int .u64 0,.int .u64 0] 218 (0,0)):=by rw[hY,←hXs];exact aW _ _
 have hIn:=aa (aj hkk (aj hnum (aj hnm (aj hl hn))));have HS:=aa (aj hs (aj hR (aj hL (aj hE (aj hT (aj hcap (aj hC hkd)))))));have IH:=aa ih;have HK3:=aa (show 3<=k from hkk ▸ hk);have HLW:=aa hM.low.size;have HX:=aa (aj hXB (aj hbx hXs))
 have HM0:=aa (show MAt c R L (T++(eG c.wd c.ln c.ds R L (l.take 0)).2) Y from by
  rw[jx,eG,ed];exact(hM.below hXB).below hYB)
 have HY:=aa (aj hYB hbY);have z3:Y.cell? ⟨W.heap.size,3,ak⟩=ag (.slice A n cap):=(aA (aB hbx hYB) 3).trans rfl;clear hx hy hz hT1 hs hR hL hE hT hC hcap hkd hkk hnum hnm hl hn ih hM hr hk hXB hbx hYB hbY hXs;go_enter Tryz.func115,Tryz.ntmps115
 go_upto_region 10 with (fail)
 rw[←hX,←hY];clear hX hY;go_wp2_with fail
 go_loopw [53] (fun i W'=>∃(j:Nat) (W2:World),i=.int .i64 j/\W2=W'/\j<=n/\Aside0 (MAt c R L (T++(eG c.wd c.ln c.ds R L (l.take j)).2) W2/\Kt [84,101] ak X W2/\W2.heap[W.heap.size+1]? =ag (.cells (three (eG c.wd c.ln c.ds R L (l.take j)).1) 218 (0,0)))) (fun i _=>n - (intOf i).toNat)
 case atStart=>exact⟨0,_,rfl,rfl,bk _,⟨HM0.out,Kt.of_below HY.out.1 _ _,by rw[jx,eG];exact HY.out.2⟩⟩
 case round=>
  obtain⟨j,W2,rfl,rfl,hj,HK⟩:=hrel
  by_cases hlt:j<n
  ·have hlt2:(j:Int)<(n:Int):=by omega
   obtain⟨ad,A3,c3,e1,q0,q1,q2,q3,l3,g3⟩:=iD HS.out.2.2.2.2.2.2.1 (j:Int) (by omega) (by omega);cases e1;rw[ax]at q0 q1 q2 q3;have p0:=aE HK.out.1.low q0;have p1:=aE HK.out.1.low q1;have p2:=aE HK.out.1.low q2;have p3:=aE HK.out.1.low q3
   have hj0:j<l.length:=by rw[←hIn.out.2.2.2.2];exact hlt
   have MEM:=aa (gS hj0);have TK:=aa (dS hj0);have G3:=aa (aj g3 l3);obtain⟨y',hy⟩:∃y,y=bR l (j:Int):=⟨_,rfl⟩;rw[←hy]at p0 p1 p2 p3 MEM TK G3;have lw:=av W2 _ p0;clear q0 q1 q2 q3 hy l3 g3;go_wp2_with fail;have TK2:=congrArg (eG c.wd c.ln c.ds R L) TK.out;rw[evEs_app]at TK2;have TW:=congrArg bM TK.out;rw[eI]at TW
   refine(IH.out y' MEM.out (W2.alloc (.cells #[.int .i64 y'.f0,.int .u64 y'.f1,.string y'.f2,.slice A3 y'.f3.length c3] 116)) R L (T++(eG c.wd c.ln c.ds R L (l.take j)).2) A3 c3 (HK.out.1.below ((ar _ _).alloc (aq _) _)) HS.out.2.1 HS.out.2.2.1 (HS.out.2.2.2.1.kid (hIn.out.2.2.2.1 ▸ MEM.out)) (by
    have h1:=HS.out.2.2.2.2.1;have h2:=kI c.wd c.ln c.ds R L (l.take j);have h3:=fP l (j+1);rw[eE,←hIn.out.2.2.2.1]at h1;rw[ba]
    omega) G3.out.1 G3.out.2).mono ?_
   rintro _ W4 ⟨rfl,hm4,hk4⟩;have hb4:=hk4.blk _ _ _ _ (eR HK.out.2.2 _) (by simp)
   have j3:j<3:=by have:=HS.out.2.2.2.2.2.2.2.2.2.2.1;rw[←hIn.out.2.2.2.1,←hIn.out.2.2.2.2]at this;omega
   have jl:(eG c.wd c.ln c.ds R L (l.take j)).1.length=j:=by rw[evEs_len,dm];omega
   obtain⟨u0,hu0⟩:=three_get (eG c.wd c.ln c.ds R L (l.take j)).1 j3;have c4:W4.cell? ⟨W.heap.size+1,j,ak⟩=ag (.int .u64 u0):=(aA hb4 j).trans hu0;have f4:=aH hb4 j
   have HN:=aa (show MAt c R L (T++(eG c.wd c.ln c.ds R L (l.take (j+1))).2) (W4.setCell ⟨W.heap.size+1,j,ak⟩ (.int .u64 (evE c.wd c.ln c.ds R L y').1))/\Kt [84,101] ak X (W4.setCell ⟨W.heap.size+1,j,ak⟩ (.int .u64 (evE c.wd c.ln c.ds R L y').1))/\(W4.setCell ⟨W.heap.size+1,j,ak⟩ (.int .u64 (evE c.wd c.ln c.ds R L y').1)).heap[W.heap.size+1]? =ag (.cells (three (eG c.wd c.ln c.ds R L (l.take (j+1))).1) 218 (0,0)) from by
    rw[TK2];refine⟨?_,?_,?_⟩
    ·rw[←dr];exact hm4.other hb4 (by decide) (by have:=HLW.out;omega) _ _
    ·exact((HK.out.2.1.trans (Kt.of_below ((ar _ _).alloc (aq _) _) _ _)).trans hk4).set_new (by have:=HX.out.2.2;omega) _ _
    ·rw[←three_set _ _ jl j3]
     exact bU hb4 j _)
   obtain⟨v,hv⟩:∃v,v=(evE c.wd c.ln c.ds R L y').1:=⟨_,rfl⟩;rw[←hv]at HN ⊢
   have j0:(0:Int)<=(j:Int):=by omega
   have j3:(j:Int)<3:=by omega
   clear hb4 hu0 jl TK2 TW hm4 hk4 hv p0 p1 p2 p3 lw hj0;go_wp2_with fail;go_roundw
   case measure=>simp[intOf];omega
   case rel=>exact⟨j+1,_,show _ =bh .i64 ((j+1:Nat):Int) from by go_num,rfl,by omega,HN⟩
  ·have hjn:j=l.length:=by have:=hIn.out.2.2.2.2;omega
   have hK:=HK.out;rw[hjn,eu]at hK;obtain⟨hm1,hkx,hbx⟩:=hK;have hbe:=hkx.blk _ _ _ _ HX.out.2.1 (by simp)
   have hlt2:¬(j:Int)<(n:Int):=by omega
   have hu:=evEs_u64 HS.out.1 HS.out.2.1 HS.out.2.2.1 l (fun y hy=>HS.out.2.2.2.1.kid (hIn.out.2.2.2.1 ▸ hy));have hux:=hu 0;have huy:=hu 1;have huz:=hu 2;have hkd:=HS.out.2.2.2.2.2.2.2;rw[←hIn.out.1]at hkd
   have hTl:T1.length<1073741824:=by
    rw[HV.out.2.2.2,ba];have h1:=HS.out.2.2.2.2.1;have h2:=kI c.wd c.ln c.ds R L l;rw[eE,←hIn.out.2.2.2.1]at h1;omega
   unfold three at hbx;rw[←HV.out.2.2.2]at hm1;rw[←HV.out.1,←HV.out.2.1,←HV.out.2.2.1]at hbx;rw[←HV.out.1]at hux;rw[←HV.out.2.1]at huy;rw[←HV.out.2.2.1]at huz
   have hkk:k=3\/(k=4\/k=5)\/k=26\/((6<=k/\k<=17)\/k=24)\/((18<=k/\k<=23)\/k=25):=by have h1:=HK3.out;have h2:=hkd.2.1;omega
   have OUT:=aa (show ∀g:G W2,Kt [84,101] ak W g.W from fun g=>((Kt.of_below HX.out.1 _ _).trans hkx).trans (Kt.of_below g.below _ _));have HMG:=aa (show ∀g:G W2,MAt c R L T1 g.W from fun g=>hm1.below g.below);obtain⟨vr,hmb,ts,hrt⟩:=hm1.hm;have b0:∀g:G W2,g.W.cell? ⟨W.heap.size,0,ak⟩=ag (.int .i64 k):=fun g=>(aA (aB hbe g.below) 0).trans rfl;have x0:∀g:G W2,g.W.cell? ⟨W.heap.size+1,0,ak⟩=ag (.int .u64 x):=fun g=>(aA (aB hbx g.below) 0).trans rfl;have x1:∀g:G W2,g.W.cell? ⟨W.heap.size+1,1,ak⟩=ag (.int .u64 y):=fun g=>(aA (aB hbx g.below) 1).trans rfl;have x2:∀g:G W2,g.W.cell? ⟨W.heap.size+1,2,ak⟩=ag (.int .u64 z):=fun g=>(aA (aB hbx g.below) 2).trans rfl;have m1:∀g:G W2,g.W.cell? ⟨c.mb,1,ak⟩=ag (.int .i64 c.wd):=fun g=>(aA (aB hmb g.below) 1).trans rfl;have HZ:=aa (aj hux (aj huy (aj hTl (aj hm1 (aj hbe (aj hbx (aj hmb hrt)))))));have HWD:=aa HS.out.1.wd;clear hux huy huz hTl hm1 hbe hbx hmb hrt hkx hu
   rcases hkk with hkk | hkk | hkk | hkk | hkk
   ·have HF:=aa (show nC c.wd c.ln c.ds R 3 nm x y z=(dM R (dNo c.ds nm) (x % ((rowOf R (dNo c.ds nm)).length:Int)).toNat,[⟨2,dNo c.ds nm,x % ((rowOf R (dNo c.ds nm)).length:Int) / c.ln⟩]) from by unfold nC;rw[if_pos rfl])
    have hf:(cG c.ds nm).isSome=af:=by
     rw[hIn.out.2.2.1];exact HS.out.2.2.2.1.load (hIn.out.1 ▸ hkk)
    subst hkk;have hd:=find_lt hf;have hlk:∀T' w1,MAt c R L T' w1->(iw 88 (.map (ag c.ab)) (.string nm) ac).run au w1=.ok (.int .i64 (dNo c.ds nm:Int)) w1:=fun T' w1 h=>h.look (by rw[hIn.out.2.2.1];exact hsz) hf;obtain⟨d,hdd⟩:∃d:Nat,d=dNo c.ds nm:=⟨_,rfl⟩;rw[←hdd]at hd hlk HF;have hr1:=HS.out.1.row d hd;have hr2:=HS.out.2.1.row d hd;obtain⟨n2,hn2⟩:∃n,n=(rowOf R d).length:=⟨_,rfl⟩;rw[←hn2]at hr2 HF;obtain⟨j2,hj2⟩:=ew (Int.emod_nonneg x (show(n2:Int)≠0 by omega));obtain⟨bb,hbb⟩:∃b,b=(ts.getD d zSl).1:=⟨_,rfl⟩
    have hdR:d<R.length:=by rw[HS.out.2.1.len];exact hd
    have hj2n:j2<n2:=by have:=kp x (show(0:Int)<(n2:Int) by omega);omega
    have HBW:=aa (show ∀w1,Kt [84,101] ak W2 w1->w1.cell? ⟨bb,j2,ak⟩=ag (.int .u64 (dM R d j2)) from fun w1 hk=>by
     obtain⟨A1,cap1,c1,_,_,_,_,hcell⟩:=(HZ.out.2.2.2.2.2.2.2.kt hk (by simp) (by simp)).at' hdR
     rw[hbb];exact(hcell j2 (by rw[←hn2];exact hj2n)).1)
    have HBB:=aa hbb;have HP:=aa (aj hd (aj hn2 (aj (show 1<=n2/\n2<=65536 by omega) hj2)));rw[hj2]at HF;have HSK:=aa (show ∀T' w1,MAt c R L T' w1->Kt [84,101] ak W2 w1->w1.cell? ⟨c.mb,5,ak⟩=ag (.map (ag c.ab))/\w1.cell? ⟨W.heap.size,2,ak⟩=ag (.string nm)/\w1.cell? ⟨W.heap.size+1,0,ak⟩=ag (.int .u64 x)/\(iw 88 (.map (ag c.ab)) (.string nm) ac).run au w1=.ok (.int .i64 (d:Int)) w1/\w1.cell? ⟨bb,j2,ak⟩=ag (.int .u64 (dM R d j2)) from fun T' w1 h hk=>⟨(hk.cell HZ.out.2.2.2.2.2.2.1 (by simp) 5).trans rfl,(hk.cell HZ.out.2.2.2.2.1 (by simp) 2).trans rfl,(hk.cell HZ.out.2.2.2.2.2.1 (by simp) 0).trans rfl,hlk T' w1 h,HBW.out w1 hk⟩);have HMD:=aa (show MAt c R L T1 W2.drew/\Kt [84,101] ak W2 W2.drew from⟨HZ.out.2.2.2.1.below (ar _ _).drew,Kt.of_below (ar _ _).drew _ _⟩);obtain⟨s5,s2,s0,sl,sb⟩:=HSK.out _ _ HMD.out.1 HMD.out.2;have b00:W2.cell? ⟨W.heap.size,0,ak⟩=ag (.int .i64 3):=(aA HZ.out.2.2.2.2.1 0).trans rfl;clear hd hr1 hr2 hn2 hj2 hdd hf hlk hbb hdR hj2n;go_wp2_with fail
    go_region_held3 (fun w'=>w'.cell? ⟨c.mb,5,ak⟩=ag (.map (ag c.ab))/\w'.cell? ⟨W.heap.size,2,ak⟩=ag (.string nm)/\w'.cell? ⟨W.heap.size+1,0,ak⟩=ag (.int .u64 x)/\(iw 88 (.map (ag c.ab)) (.string nm) ac).run au w'=.ok (.int .i64 (d:Int)) w'/\w'.cell? ⟨bb,j2,ak⟩=ag (.int .u64 (dM R d j2)))
     (first | exact HSK.out _ _ HMD.out.1 HMD.out.2 | exact HSK.out _ _ hm1 hk1 | go_keep)
     (first | (go_at_call 116;refine(sB c W2.drew HMD.out.1 (HMD.out.2.blk _ _ _ _ HZ.out.2.2.2.2.2.2.1 (by simp)) (HZ.out.2.2.2.2.2.2.2.kt HMD.out.2 (by simp) (by simp)) 2 x d n2 j2 bb HBB.out (by rw[HS.out.2.1.len];exact HP.out.1) HP.out.2.1.symm HP.out.2.2.1.1 HP.out.2.2.1.2 HZ.out.1.1 HP.out.2.2.2 (by have:=HS.out.2.1.len;have:=HS.out.1.few;omega) HS.out.1.ln.1 (by have:=HS.out.1.ln.2;omega) HZ.out.2.2.1).mono ?_;rintro _ w1 ⟨rfl,hm1,hk1,hc1,_,_⟩;have hk1:=hk1.undrew))
    have HE:=aa (aj hm1 hk1);clear hm1 hk1 hc1 s5 s2 s0 sl sb;go_wp2_with fail;go_ret;simp only[HF.out,ax];exact⟨rfl,HE.out.1,(OUT.out ⟨W2,ar _ _⟩).trans HE.out.2⟩
   ·have HF:=aa (fin45 c.wd c.ln c.ds R hkk nm x y z);obtain⟨a,ha,ha2⟩:=HZ.out.1.nat;obtain⟨m,hm,hm2⟩:=HWD.out;have HA:=aa (aj ha2 (show 1<=c.wd/\c.wd<=64 from by have:=hm2.le;omega));subst ha;clear ha2 hm hm2
    rcases hkk with rfl | rfl
    ·refine aG ?_;intro gg;go_wp2_with fail;refine bT (by kernel_rfl) (by kernel_rfl) ?_
     repeat(go_big_quiet_step (first | (go_at_call 158;exact aD (un15 c.wd HA.out.2.1 HA.out.2.2 a HA.out.1 _))))
     refine wpQuiet_nil ?_;rintro _ ⟨gg,rfl⟩;go_wp2_with fail;go_ret;simp only[HF.out,ed];exact⟨rfl,HMG.out gg,OUT.out gg⟩
    ·refine aG ?_;intro gg;go_wp2_with fail;refine bT (by kernel_rfl) (by kernel_rfl) ?_
     repeat(go_big_quiet_step (first | (go_at_call 158;exact aD (un16 c.wd HA.out.2.1 HA.out.2.2 a HA.out.1 _))))
     refine wpQuiet_nil ?_;rintro _ ⟨gg,rfl⟩;go_wp2_with fail;go_ret;simp only[HF.out,ed];exact⟨rfl,HMG.out gg,OUT.out gg⟩
   ·subst hkk;refine aG ?_;intro gg
    by_cases hx:x=0
    ·subst hx;go_wp2_with fail;go_ret;simp only[fin26,ed];exact⟨rfl,HMG.out gg,OUT.out gg⟩
    ·have hx2:(x==0)=ac:=beq_eq_false_iff_ne.2 hx;go_wp2_with fail;go_ret;simp only[fin26,ed];exact⟨by rw[if_pos hx];rfl,HMG.out gg,OUT.out gg⟩
   ·have HF:=aa (finBin c.wd c.ln c.ds R hkk nm x y z);have HO:=aa (aj (opK_in hkk) (aj hkk (show 6<=k/\k<=25 by omega)));have ho:=(opK_in hkk).1;have k3:(k==3)=ac:=beq_eq_false_iff_ne.2 (by omega);have k4:(k==4)=ac:=beq_eq_false_iff_ne.2 (by omega);have k5:(k==5)=ac:=beq_eq_false_iff_ne.2 (by omega);have k26:(k==26)=ac:=beq_eq_false_iff_ne.2 (by omega);obtain⟨op,hop⟩:∃op,op=opK k:=⟨_,rfl⟩;have hop0:(op==0)=ac:=beq_eq_false_iff_ne.2 (by omega);have HOP:=aa hop
    by_cases h78:k=7\/k=8
    ·have H78:=aa h78;have HSK:=aa (show ∀w1,Kt [84,101] ak W2 w1->w1.cell? ⟨c.mb,8,ak⟩=ag (.iface 80 (.pointer (ag ⟨c.eb,0,ak⟩)))/\w1.cell? ⟨W.heap.size+1,0,ak⟩=ag (.int .u64 x)/\w1.cell? ⟨W.heap.size+1,1,ak⟩=ag (.int .u64 y) from fun w1 hk=>⟨(hk.cell HZ.out.2.2.2.2.2.2.1 (by simp) 8).trans rfl,(hk.cell HZ.out.2.2.2.2.2.1 (by simp) 0).trans rfl,(hk.cell HZ.out.2.2.2.2.2.1 (by simp) 1).trans rfl⟩);obtain⟨s8,s0,s1⟩:=HSK.out W2 (Kt.refl _ _ _);have hmt:=l7 c.eb;clear hkk ho hop
     rcases h78 with hk7 | hk7
     all_goals(
      subst hk7;have b00:W2.cell? ⟨W.heap.size,0,ak⟩=ag (.int .i64 _):=(aA HZ.out.2.2.2.2.1 0).trans rfl;go_wp2_with fail
      go_region_held3 (fun w'=>w'.cell? ⟨c.mb,8,ak⟩=ag (.iface 80 (.pointer (ag ⟨c.eb,0,ak⟩)))/\w'.cell? ⟨W.heap.size+1,0,ak⟩=ag (.int .u64 x)/\w'.cell? ⟨W.heap.size+1,1,ak⟩=ag (.int .u64 y))
       (first | go_keep | exact HSK.out _ hk1)
       (first | (go_at_call 310;refine(lH c W2.drew 4 x y (HZ.out.2.2.2.1.he.below (ar _ _).drew) HZ.out.2.2.2.1.low.drew HZ.out.2.2.2.1.base.2.1 HZ.out.2.2.1).mono ?_;rintro _ w1 ⟨rfl,he1,hk1,hb1⟩;have hk1:=hk1.undrew))
      have HE:=aa (aj (HZ.out.2.2.2.1.seen hk1 (by simp) (by simp) (by simp) hb1 he1) (aj ((OUT.out (mkG (ar W2.heap.size W2))).trans hk1) (aj (hk1.blk _ _ _ _ HZ.out.2.2.2.2.1 (by simp)) (aj (hk1.blk _ _ _ _ HZ.out.2.2.2.2.2.1 (by simp)) (hk1.blk _ _ _ _ HZ.out.2.2.2.2.2.2.1 (by simp))))));clear hk1 he1 hb1 s8 s0 s1 hmt b00 b0 x0 x1 x2 m1;have b00:w1.cell? ⟨W.heap.size,0,ak⟩=ag (.int .i64 _):=(aA HE.out.2.2.1 0).trans rfl;have x0:∀g:G w1,g.W.cell? ⟨W.heap.size+1,0,ak⟩=ag (.int .u64 x):=fun g=>(aA (aB HE.out.2.2.2.1 g.below) 0).trans rfl;have x1:∀g:G w1,g.W.cell? ⟨W.heap.size+1,1,ak⟩=ag (.int .u64 y):=fun g=>(aA (aB HE.out.2.2.2.1 g.below) 1).trans rfl;have m1:∀g:G w1,g.W.cell? ⟨c.mb,1,ak⟩=ag (.int .i64 c.wd):=fun g=>(aA (aB HE.out.2.2.2.2 g.below) 1).trans rfl;go_wp2_with fail;refine(two_v HOP.out w1 HO.out.2.2.1 HO.out.2.2.2).mono ?_;rintro _ w9 ⟨rfl,hb⟩;obtain⟨gg,rfl⟩:∃g:G w1,w9=g.W:=⟨mkG hb,rfl⟩;clear hb b00;go_wp2_with fail;refine bT (by kernel_rfl) (by kernel_rfl) ?_
      repeat(go_big_quiet_step (first | (go_at_call 160;rw[HOP.out];exact aD (bin_v _ HWD.out HO.out.1 HZ.out.1 HZ.out.2.1 _))))
      refine wpQuiet_nil ?_;rintro _ ⟨gg,rfl⟩;go_wp2_with fail;go_ret;simp only[HF.out,if_pos H78.out]
      exact⟨rfl,HE.out.1.below gg.below,HE.out.2.1.trans (Kt.of_below gg.below _ _)⟩)
    ·have HN:=aa h78;have k7:(k==7)=ac:=beq_eq_false_iff_ne.2 (by omega);have k8:(k==8)=ac:=beq_eq_false_iff_ne.2 (by omega);clear hkk ho h78 hop;refine aG ?_;intro gg;go_wp2_with fail;refine(aD (g:=gg) (two_v HOP.out gg.W HO.out.2.2.1 HO.out.2.2.2)).mono ?_;rintro _ _ ⟨rfl,gg,rfl⟩;go_wp2_with fail;refine bT (by kernel_rfl) (by kernel_rfl) ?_
     repeat(go_big_quiet_step (first | (go_at_call 160;rw[HOP.out];exact aD (bin_v k HWD.out HO.out.1 HZ.out.1 HZ.out.2.1 _))))
     refine wpQuiet_nil ?_;rintro _ ⟨gg,rfl⟩;go_wp2_with fail;go_ret;simp only[HF.out,if_neg HN.out,ed];exact⟨rfl,HMG.out gg,OUT.out gg⟩
   ·have HF:=aa (finCmp c.wd c.ln c.ds R hkk nm x y z);have HO:=aa (aj (opK_no hkk) (aj hkk (show 6<=k/\k<=25 by omega)));have k3:(k==3)=ac:=beq_eq_false_iff_ne.2 (by omega);have k4:(k==4)=ac:=beq_eq_false_iff_ne.2 (by omega);have k5:(k==5)=ac:=beq_eq_false_iff_ne.2 (by omega);have k26:(k==26)=ac:=beq_eq_false_iff_ne.2 (by omega);have k7:(k==7)=ac:=beq_eq_false_iff_ne.2 (by omega);have k8:(k==8)=ac:=beq_eq_false_iff_ne.2 (by omega);clear hkk;refine aG ?_;intro gg;go_wp2_with fail;refine(aD (g:=gg) (two_v HO.out.1.symm gg.W HO.out.2.2.1 HO.out.2.2.2)).mono ?_;rintro _ _ ⟨rfl,gg,rfl⟩;go_wp2_with fail;refine(aD (g:=gg) (cmp_v c gg.W (HMG.out gg) HO.out.2.1 HZ.out.1 HZ.out.2.1 HWD.out)).mono ?_;rintro _ _ ⟨rfl,gg,rfl⟩;go_wp2_with fail;go_ret;simp only[HF.out,ed];exact⟨rfl,HMG.out gg,OUT.out gg⟩
theorem lZ (c:Cfg)(hs:SOK c.wd c.ln c.ds):∀(n:Nat) (e:S116),cz e<=n->1<=e.f0->ExprM c e:=by
 intro n
 induction n with
 |zero=>intro e h;obtain⟨a,b,s,l⟩:=e;simp at h
 |succ n ih=>
  intro e h h1
  by_cases k1:e.f0=1
  ·exact expr_num c e k1
  by_cases k2:e.f0=2
  ·exact expr_name c hs e k2
  ·refine expr_rest c hs e (by omega) fun y hy=> ?_;intro W R L T A cap hM hR hL hE hT hC hcap;exact ih y (eV rfl hy h) hE.kind.1 W R L T A cap hM hR hL hE hT hC hcap
def ForOK:Th->Prop
 | .stmt s _ _=>s.f0=4->s.f4<=s.f5
 |_=>True
structure TOK (ds:List S70)(L:List (ByteArray × Int))(x:S119):Prop where
 form:stB x=af
 good:Ot.jV x
 th:∃d,L.length<d/\∀t∈stTh x d (L.map (·.1)),qX t=ac/\lG ds t=ac/\bad12 ds t=ac/\pZ ds t=ac/\ForOK t
theorem TOK.own {ds:List S70}{L:List (ByteArray × Int)}{x:S119}(h:TOK ds L x):1<=x.f0/\x.f0<=5/\x.f1.size<=maxLen/\L.length<64/\U64 x.f4/\U64 x.f5:=by
 have h1:=h.form;rw[pO,cb,cb]at h1;have h2:=h1.1.1;unfold aY at h2;simp only[cb,decide_eq_true_eq]at h2;obtain⟨d,hd,ht⟩:=h.th;have hs:=(ht (.stmt x d (L.map (·.1))) (by rw[d6];exact ig)).1;have hg:=h.good;obtain⟨a,s,e,f,lo,hi,th,el⟩:=x;rw[Ot.jV]at hg;obtain⟨n1,e1,l1⟩:=wf_u64 hg.2.2.2.2.1;obtain⟨n2,e2,l2⟩:=wf_u64 hg.2.2.2.2.2.1;refine⟨h2.1.1.1.1.1.1.1,h2.1.1.1.1.1.1.2,bi hg.2.1 (by unfold maxLen;omega),?_,?_,?_⟩
 ·unfold qX at hs;simp only[decide_eq_false_iff_not]at hs;omega
 ·show U64 lo
  rw[e1];exact rB l1
 ·show U64 hi
  rw[e2];exact rB l2
theorem TOK.use {ds:List S70}{L:List (ByteArray × Int)}{x:S119}(h:TOK ds L x)(hk:x.f0=1\/x.f0=2\/x.f0=5):(cG ds x.f1).isSome=af:=by
 obtain⟨d,hd,ht⟩:=h.th;obtain⟨_,h1,h2,_⟩:=ht (.stmt x d (L.map (·.1))) (by rw[d6];exact ig)
 have hu:jS (.stmt x d (L.map (·.1)))=ag x.f1:=by unfold jS;exact if_pos hk
 unfold lG at h1;unfold bad12 at h2;rw[hu]at h1 h2;simp only[gN]at h1
 cases hl:iL (L.map (·.1)) x.f1 with
 |true=>
  have e3:sS ds (.stmt x d (L.map (·.1))) x.f1=pU (.stmt x d (L.map (·.1))):=if_pos hl;replace h2:(!sS ds (.stmt x d (L.map (·.1))) x.f1)=ac:=h2;rw[e3]at h2;cases h2
 |false=>
  rw[hl]at h1
  cases hf:cG ds x.f1 with
  |none=>rw[hf]at h1;simp at h1
  |some i=>rfl
theorem TOK.at' {ds:List S70}{L:List (ByteArray × Int)}{x:S119}(h:TOK ds L x)(hk:x.f0=2):EOK ds (L.map (·.1)) x.f2:=by
 have h1:=h.form;rw[pO,cb,cb]at h1;have h2:=h1.1.1;unfold aY at h2;simp only[cb]at h2;obtain⟨d,hd,ht⟩:=h.th;refine⟨?_,?_,fun t hm=> ?_⟩
 ·have:=h2.1.1.1.1.2
  rwa [if_pos hk]at this
 ·have hg:=h.good;obtain⟨a,s,e,f,lo,hi,th,el⟩:=x;rw[Ot.jV]at hg;exact hg.2.2.1
 ·have:=ht t (by rw[d6,if_pos hk];simp[hm]);exact⟨this.2.1,this.2.2.1⟩
theorem TOK.e' {ds:List S70}{L:List (ByteArray × Int)}{x:S119}(h:TOK ds L x)(hk:x.f0=1\/x.f0=2\/x.f0=3):EOK ds (L.map (·.1)) x.f3:=by
 have h1:=h.form;rw[pO,cb,cb]at h1;have h2:=h1.1.1;unfold aY at h2;simp only[cb]at h2;obtain⟨d,hd,ht⟩:=h.th;refine⟨?_,?_,fun t hm=> ?_⟩
 ·have:=h2.1.1.1.2
  rwa [if_pos (by omega)]at this
 ·have hg:=h.good;obtain⟨a,s,e,f,lo,hi,th,el⟩:=x;rw[Ot.jV]at hg;exact hg.2.2.2.1
 ·have:=ht t (by rw[d6,if_pos hk];simp[hm]);exact⟨this.2.1,this.2.2.1⟩
theorem nM {l:List S119}{y:S119}(hy:y∈l)(d:Nat)(lo:List ByteArray){t:Th}(ht:t∈stTh y d lo):t∈aN l d lo:=by
 induction l with
 |nil=>cases hy
 |cons x r ih=>
  rw[aN]
  rcases iv.1 hy with rfl | hy
  ·exact List.mem_append_left _ ht
  ·exact List.mem_append_right _ (ih hy)
theorem bdB_mem {l:List S119}(h:bdB l=af){y:S119}(hy:y∈l):stB y=af:=by
 rw[lT]at h;exact fw.1 h y hy
theorem TOK.inner {ds:List S70}{L:List (ByteArray × Int)}{x:S119}(h:TOK ds L x){y:S119}(hy:y∈x.f6\/y∈x.f7)(hk:x.f0≠4):TOK ds L y:=by
 have h1:=h.form;rw[pO,cb,cb]at h1;obtain⟨d,hd,ht⟩:=h.th;refine⟨?_,?_,d+1,by omega,fun t hm=>ht t ?_⟩
 ·rcases hy with hy | hy
  ·exact bdB_mem h1.1.2 hy
  ·exact bdB_mem h1.2 hy
 ·have hg:=h.good;obtain⟨a,s,e,f,lo,hi,th,el⟩:=x;rw[Ot.jV]at hg
  rcases hy with hy | hy
  ·exact(Ot.cV th).1 hg.2.2.2.2.2.2.2.2.1 y hy
  ·exact(Ot.cV el).1 hg.2.2.2.2.2.2.2.2.2 y hy
 ·rw[d6];have e:inLoop x.f0 x.f1 (L.map (·.1))=L.map (·.1):=if_neg hk;rw[e]
  rcases hy with hy | hy
  ·have:=nM hy (d+1) _ hm;simp[this]
  ·have:=nM hy (d+1) _ hm;simp[this]
theorem TOK.loop {ds:List S70}{L:List (ByteArray × Int)}{x:S119}(h:TOK ds L x)(hk:x.f0=4)(v:Int){y:S119}(hy:y∈x.f6):TOK ds (L++[(x.f1,v)]) y:=by
 have h1:=h.form;rw[pO,cb,cb]at h1;obtain⟨d,hd,ht⟩:=h.th;refine⟨bdB_mem h1.1.2 hy,?_,d+1,by simp;omega,fun t hm=>ht t ?_⟩
 ·have hg:=h.good;obtain⟨a,s,e,f,lo,hi,th,el⟩:=x;rw[Ot.jV]at hg;exact(Ot.cV th).1 hg.2.2.2.2.2.2.2.2.1 y hy
 ·rw[d6];have e:inLoop x.f0 x.f1 (L.map (·.1))=L.map (·.1)++[x.f1]:=if_pos hk;rw[e];rw[ef]at hm;have:=nM hy (d+1) _ hm;simp only[cg,db]at this;simp[this]
theorem TOK.new {ds:List S70}{L:List (ByteArray × Int)}{x:S119}(h:TOK ds L x)(hk:x.f0=4):iL (L.map (·.1)) x.f1=ac:=by
 obtain⟨d,hd,ht⟩:=h.th;obtain⟨_,_,_,h2,_⟩:=ht (.stmt x d (L.map (·.1))) (by rw[d6];exact ig);unfold pZ at h2;simp[hk]at h2;exact h2.2
theorem TOK.bounds {ds:List S70}{L:List (ByteArray × Int)}{x:S119}(h:TOK ds L x)(hk:x.f0=4):x.f4<=x.f5:=by
 obtain⟨d,hd,ht⟩:=h.th;exact(ht (.stmt x d (L.map (·.1))) (by rw[d6];exact ig)).2.2.2.2 hk
theorem ROK.put {ds:List S70}{R:List (List Int)}(h:ROK ds R)(d k:Nat){v:Int}(hv:U64 v):ROK ds (putW R d k v):=by
 have hrow:∀i,(rowOf (putW R d k v) i).length=(rowOf R i).length/\∀j,U64 ((rowOf (putW R d k v) i).getD j 0):=by
  intro i;have hw:=fun j=>h.word i j;unfold dM at hw;unfold rowOf putW at*;rw[aw,jr]
  by_cases hi:d=i
  ·subst hi;rw[if_pos rfl]
   by_cases hd:d<R.length
   ·rw[if_pos hd];refine⟨by simp[rowOf],fun j=> ?_⟩
    show U64 (((rowOf R d).set k v).getD j 0)
    rw[aw,jr]
    split
    ·split
     ·exact hv
     ·exact⟨by decide,by decide⟩
    ·have:=hw j;rw[aw]at this;exact this
   ·rw[if_neg hd]
    have e:R.getD d []=[]:=by rw[aw,dg (by omega)];rfl
    rw[e];exact⟨rfl,fun j=>⟨by simp,by simp⟩⟩
  ·rw[if_neg hi];exact⟨by rw[aw],fun j=>by have:=hw j;rw[aw (l:=R)]at this;exact this⟩
 exact⟨by simp[putW,h.len],fun i hi=>by rw[(hrow i).1];exact h.row i hi,fun i k=>(hrow i).2 k⟩
end Go.Proofs.YtfigjpehecibeaaGreat.L
namespace Go.Proofs.YtfigjpehecibeaaGreat.L
open Go.RowKit Go.Proofs.YtfigjpehecibeaaGreatW.PrintWords Go.Proofs.YtfigjpehecibeaaGreatW.PrintLast Go.Proofs.YtfigjpehecibeaaGreatW.PrintMore
section
attribute [local go_sem] jJ gV lV j4 gY iB jU jQ
def bits_Mul64.f (a0:Int)(a1:Int):Option (Int × Int):=ag (IntKind.u64.wrap ((IntKind.u64.wrap ((IntKind.u64.wrap ((a0 / 4294967296)*(a1 / 4294967296)))+((IntKind.u64.wrap ((IntKind.u64.wrap ((a0 / 4294967296)*(Go.bits .and .u64 a1 4294967295)))+((IntKind.u64.wrap ((Go.bits .and .u64 a0 4294967295)*(Go.bits .and .u64 a1 4294967295))) / 4294967296))) / 4294967296)))+((IntKind.u64.wrap ((Go.bits .and .u64 (IntKind.u64.wrap ((IntKind.u64.wrap ((a0 / 4294967296)*(Go.bits .and .u64 a1 4294967295)))+((IntKind.u64.wrap ((Go.bits .and .u64 a0 4294967295)*(Go.bits .and .u64 a1 4294967295))) / 4294967296))) 4294967295)+(IntKind.u64.wrap ((Go.bits .and .u64 a0 4294967295)*(a1 / 4294967296))))) / 4294967296)),IntKind.u64.wrap (a0*a1))
theorem bits_Mul64.calls (a0:Int)(a1:Int)(r1:Int)(r2:Int)(w:World)(h:bits_Mul64.f a0 a1=ag (r1,r2)):
 Calls au 154 #[.int .u64 a0,.int .u64 a1] w fun e w'=>e=.returned (.tuple #[.int .u64 r1,.int .u64 r2])/\Drawn0 w w':=by
 have H:(ag (IntKind.u64.wrap ((IntKind.u64.wrap ((IntKind.u64.wrap ((a0 / 4294967296)*(a1 / 4294967296)))+((IntKind.u64.wrap ((IntKind.u64.wrap ((a0 / 4294967296)*(Go.bits .and .u64 a1 4294967295)))+((IntKind.u64.wrap ((Go.bits .and .u64 a0 4294967295)*(Go.bits .and .u64 a1 4294967295))) / 4294967296))) / 4294967296)))+((IntKind.u64.wrap ((Go.bits .and .u64 (IntKind.u64.wrap ((IntKind.u64.wrap ((a0 / 4294967296)*(Go.bits .and .u64 a1 4294967295)))+((IntKind.u64.wrap ((Go.bits .and .u64 a0 4294967295)*(Go.bits .and .u64 a1 4294967295))) / 4294967296))) 4294967295)+(IntKind.u64.wrap ((Go.bits .and .u64 a0 4294967295)*(a1 / 4294967296))))) / 4294967296)),IntKind.u64.wrap (a0*a1)))=ag (r1,r2):=h;clear h;simp only[Option.some.injEq,Prod.mk.injEq]at H;obtain⟨rfl,rfl⟩:=H;go_enter Tryz.func154,Tryz.ntmps154
 go_wp2
 go_ret2;exact⟨by first | rfl | (simp;done) | (simp[*];done),by repeat(first | exact du _ | apply dw)⟩
def bits_Mul.f (a0:Int)(a1:Int):Option (Int × Int):=(bits_Mul64.f a0 a1).bind fun bt131=>(ag (bt131.1,bt131.2))
theorem bits_Mul.calls (a0:Int)(a1:Int)(r1:Int)(r2:Int)(w:World)(h:bits_Mul.f a0 a1=ag (r1,r2)):
 Calls au 113 #[.int .u64 a0,.int .u64 a1] w fun e w'=>e=.returned (.tuple #[.int .u64 r1,.int .u64 r2])/\Drawn0 w w':=by
 have H:((bits_Mul64.f a0 a1).bind fun bt131=>(ag (bt131.1,bt131.2)))=ag (r1,r2):=h;clear h;replace H:=Option.bind_eq_some_iff.mp H;obtain⟨⟨t131,t132⟩,A30,H⟩:=H;replace H:(ag (t131,t132))=ag (r1,r2):=H;have A3:=aa A30;clear A30;simp only[Option.some.injEq,Prod.mk.injEq]at H;obtain⟨rfl,rfl⟩:=H;go_enter Tryz.func113,Tryz.ntmps113
 go_wp2_with (first | ((with_reducible refine eK (f:=154) rfl ?_);refine nY (ag 25) rfl rfl Tryz.func154 (by kernel_rfl) rfl #[.int .u64 a0,.int .u64 a1] rfl (by(try simp only[cd,cg,db]);first | done | rfl | (simp only[fj,dm];rfl)) ?_;(with_reducible refine(bits_Mul64.calls a0 a1 t131 t132 _ A3.out).mono ?_);rintro e w' ⟨rfl,⟨nd,rfl⟩⟩;refine⟨_,rfl,?_⟩))
 go_ret2;exact⟨by first | rfl | (simp;done) | (simp[*];done),by repeat(first | exact du _ | apply dw)⟩
end
theorem mul_one (n:Nat)(h:n<=256):bits_Mul.f 1 (n:Int)=ag (0,(n:Int)):=by
 have key:∀i:Fin 257,bits_Mul.f 1 ((i.val:Nat):Int)=ag (0,((i.val:Nat):Int)):=by decide+kernel
 exact key ⟨n,by omega⟩
theorem splice_take {α:Type}{L cs:List α}{k n:Nat}(h:k+cs.length<=n)(hn:n<=L.length):(splice L k cs).take n=splice (L.take n) k cs:=by
 apply List.ext_getElem?;intro i;unfold splice;simp only[ke,List.getElem?_append,dm,List.getElem?_drop]
 repeat' split
 all_goals first | rfl | omega | (congr 1;omega) | (exfalso;omega) | (rw[dg (by omega)])
theorem rep_copy (b:Bool){n k:Nat}(h1:1<=k)(h2:k<n):splice (bg k (iu b)++bg (n - k) (iu ac)) k (bg (min k (n - k)) (iu b))=bg (k+min k (n - k)) (iu b)++bg (n - (k+min k (n - k))) (iu ac):=by
 unfold splice;rw[List.take_append_of_le_length (by simp),List.take_of_length_le (by simp),dx,List.drop_append,jw (by simp),List.nil_append,←dr,List.replicate_append_replicate]
 congr 1
 rw[List.drop_replicate,dx]
 congr 1
 omega
theorem pE (b:Bool)(n:Nat)(h1:1<=n)(h2:n<=256)(A:Option Addr)(c:Nat)(w:World)(hr:Kd.C Kd.bool w A 1 [b])(hc:1<=c):
 Calls au 62 #[.slice A 1 c,.int .i64 (n:Int)] w fun e w'=>∃v,e=.returned v/\Kd.R Kd.bool 4 w' w.heap.size (fun _=>True) v (bg n b)/\Below w.heap.size w w':=by
 have HR:=aa (aj hr hc);clear hr hc
 have n0:¬(n:Int)<0:=by omega
 have e1:IntKind.u64.wrap (n:Int)=(n:Int):=by unfold IntKind.wrap;simp[js,jf];omega
 have HM:=aa (mul_one n h2);have HN:=aa (aj h1 h2);go_enter Tryz.func62,Tryz.ntmps62
 go_upto_region 7 with (first
  | (go_at_call 113;refine(bits_Mul.calls 1 (n:Int) 0 (n:Int) _ HM.out).mono ?_;rintro e w1 ⟨rfl,hd⟩;have HD:=aa hd;clear hd)
  | (refine Kd.R_make Kd.bool (w0:=w) w.heap.size 4 rfl rfl 30 (.tmp 29) (.tmp 29) rfl (n:Int) rfl rfl Tryz.underlying30 (.bool ac) 1 rfl rfl (by decide) (by decide) ac (ok:=fun _=>True) (okp:=fun _=>True) rfl (fun _ h=>h) trivial (by omega) (by omega) HD.out.below HD.out.below.size ?_;intro v1 w2 hr2 hb2 hg2 hat2;have R2:=aa (aj hr2 hb2);clear hr2 hb2 hg2 hat2))
 have R3:=R2.out;rw[ax]at R3;obtain⟨Av,cv,ev⟩:=Kd.bN R3.1;rw[dx]at ev;subst ev
 go_wp2_with ((with_reducible refine eY (b:=.copy) (xs:= #[.tmp 31,.tmp 32]) rfl ?_);refine Kd.R_copy (enc:=iu) (h1:=fun _=>rfl) ac (w0:=w) w.heap.size (by rfl) (.tmp 31) (.tmp 32) 30 30 4 (by rfl) Tryz.underlying30 (by rfl) (.slice Av n cv) (bg n ac) [b] A 1 c (fun _=>True) (by rfl) (by rfl) R3.1 (Kd.aF HR.out.1 R3.2) R3.2 R3.2.size ?_;intro w4 hr4 hb4 hg4)
 rw[dx]at hr4
 have q1:min 1 n=1:=by omega
 rw[q1]at hr4;have R4:=aa (aj hr4 hb4);clear hr4 hb4 hg4 R3
 go_loopw [8] (fun i W=>∃k:Nat,i=.int .i64 k/\1<=k/\k<=n/\Aside0 (Kd.R Kd.bool 4 W w.heap.size (fun _=>True) (.slice Av n cv) (bg k b++bg (n - k) ac)/\Below w.heap.size w W)) (fun i _=>n - (intOf i).toNat)
 case atStart=>exact⟨1,rfl,aq _,HN.out.1,⟨by have h:=R4.out.1;simp at h ⊢;exact h,R4.out.2⟩⟩
 case round=>
  obtain⟨k,rfl,hk1,hk2,HK⟩:=hrel
  by_cases hlt:k<n
  ·obtain⟨g,cur,e1,hbg,hcur,hnc,hcm,hcs,htk⟩:∃(g:Nat) (cur:Array Value),Av=ag ⟨g,0,ak⟩/\w.heap.size<=g/\wr.heap[g]? =ag (.cells cur 4 (0,0))/\n<=cv/\cv<=maxLen/\cur.size=cv*1/\cur.toList.take n=encs iu (bg k b++bg (n - k) ac):=by
    have ho:=Kd.mC (enc:=iu) (h1:=fun _=>rfl) HK.out.1
    have hlen:(bg k b++bg (n - k) ac).length=n:=by simp;omega
    rw[hlen]at ho
    rcases ho.2 with ⟨h,_⟩ | ⟨g,cap,cur,h,h3,h4,h5,h6,h7,h8⟩
    ·injection h with _ h _;omega
    ·injection h with ha hb hc;subst ha hc;exact⟨g,cur,rfl,h3,h4,h5,h6,h7,by rw[ib]at h8;exact h8⟩
   subst e1
   have hl1:(k:Int)<(n:Int):=by omega
   have hl2:(0:Int)<=(k:Int):=by omega
   have hl3:(k:Int)<=(n:Int):=by omega
   have hl4:(k:Int)<=(cv:Int):=by omega
   have HC:=aa (aj hcur (aj hnc (aj hcm (aj hcs htk))));clear hcur hcm hcs htk
   have hne:¬cv=k:=by omega
   have F1:=aa (show wr.drew.heap[g]? =ag (.cells cur.toList.toArray 4 (0,0)) from by rw[Array.toArray_toList];exact HC.out.1)
   have F2:=aa (show ∀(j:Nat) (v:Value),(bg (min k (n - k)) (iu b))[j]? =ag v->wr.drew.cell? ((⟨g,0,ak⟩:Addr).add j)=ag v from by
    intro j v hj
    have hjl:j<min k (n - k):=by
     rcases gu j (min k (n - k))with h | h
     ·exact h
     ·rw[dg (by simpa using h)]at hj;cases hj
    rw[List.getElem?_replicate,if_pos hjl]at hj
    have hcell:wr.drew.cell? ⟨g,0+j,ak⟩=cur[j]? :=by
     rw[cell_of_row wr.drew g _ cur 4 (0,0) HC.out.1,Nat.zero_add]
    have hj2:(cur.toList.take n)[j]? =ag (iu b):=by
     rw[HC.out.2.2.2.2];unfold encs;rw[jb,jq (by simp;omega),List.getElem?_replicate,if_pos (by omega)];rfl
    rw[ke,if_pos (by omega)]at hj2;rw[Addr.add_lit,hcell,←hj,←Array.getElem?_toList]
    exact hj2)
   have F3:=aa (show(bg (min k (n - k)) (iu b)).length=Nat.min k (n - k) from by simp);have F4:=aa (show k+(bg (min k (n - k)) (iu b)).length<=cur.toList.length from by simp[HC.out.2.2.2.1];omega);have F5:=aa (show ∀v∈bg (min k (n - k)) (iu b),v.oneCell'=af from fun v hv=>by rw[(List.mem_replicate.1 hv).2];rfl);have F6:=aa (show Below w.heap.size w wr.drew from HK.out.2.drew);go_wp2_with fail
   go_region_law (refine step_copy_splice (by rfl) (.tmp 41) (.tmp 44) 30 30 (by rfl) 4 Tryz.underlying30 (by rfl) (ag ⟨g,k,ak⟩) (ag ⟨g,0,ak⟩) (n - k) (cv - k) k cv (by simp[Act.eval,ay,hne]) (by simp[Act.eval,ay]) g k cur.toList 4 F1.out (bg (min k (n - k)) (iu b)) F3.out (fun _=>⟨rfl,_,rfl,F2.out⟩) F4.out F5.out w.heap.size w F6.out hbg ?_;intro w5 h5 hb5)
   simp only[ay,ae,ah,ai,List.getElem_toArray,List.getElem_cons_succ,List.getElem_cons_zero];go_wp2_with fail
   have hw:IntKind.i64.wrap ((k:Int)+((min k (n - k):Nat):Int))=((k+min k (n - k):Nat):Int):=by rw[IntKind.wrap_i64];have:=HN.out.2;omega
   have hln:(bg (k+min k (n - k)) b++bg (n - (k+min k (n - k))) ac).length=n:=by simp;omega
   refine⟨⟨k+min k (n - k),by rw[hw],by omega,by omega,⟨Kd.nL (enc:=iu) (h1:=fun _=>rfl) ?_ (fun _ _=>trivial),hb5⟩⟩,by rw[hw];simp[intOf];omega⟩;rw[hln];refine⟨by unfold encs;rw[List.length_map,hln,ib],.inr ⟨g,cv,_,rfl,hbg,h5,HC.out.2.1,HC.out.2.2.1,?_,?_⟩⟩
   ·rw[List.size_toArray,length_splice _ _ _ F4.out,Array.length_toList];exact HC.out.2.2.2.1
   ·have hs:(splice cur.toList k (bg (min k (n - k)) (iu b))).take n=splice (cur.toList.take n) k (bg (min k (n - k)) (iu b)):=by
     exact splice_take (by simp;omega) (by rw[Array.length_toList,HC.out.2.2.2.1,ib];exact HC.out.2.1)
    rw[ib,List.toList_toArray,hs,HC.out.2.2.2.2]
    have he:encs iu (bg k b++bg (n - k) ac)=bg k (iu b)++bg (n - k) (iu ac):=by unfold encs;rw[ef,List.map_replicate,List.map_replicate]
    rw[he,rep_copy b hk1 hlt];unfold encs;rw[ef,List.map_replicate,List.map_replicate]
  ·have hkn:k=n:=by omega
   have hl1:¬(k:Int)<(n:Int):=by omega
   have HE:=aa (show Kd.R Kd.bool 4 wr w.heap.size (fun _=>True) (.slice Av n cv) (bg n b) from by have h:=HK.out.1;rw[hkn,Nat.sub_self]at h;simpa using h);go_wp2_with fail;go_ret;exact⟨_,rfl,HE.out,HK.out.2⟩
end Go.Proofs.YtfigjpehecibeaaGreat.L
namespace Go.Proofs.YtfigjpehecibeaaGreat.L
open Go.RowKit Go.Proofs.YtfigjpehecibeaaGreatW.PrintWords Go.Proofs.YtfigjpehecibeaaGreatW.PrintLast Go.Proofs.YtfigjpehecibeaaGreatW.PrintMore Go.Proofs.YtfigjpehecibeaaGreat.Gr
theorem info4:(Tryz.prog.info? 4).map (fun i=>(i.zero,i.size,i.bytes))=ag (ag (.bool ac),1,1):=by kernel_rfl
end Go.Proofs.YtfigjpehecibeaaGreat.L
namespace Go.Proofs.YtfigjpehecibeaaGreat.L
open Go.RowKit Go.Proofs.YtfigjpehecibeaaGreatW.PrintWords Go.Proofs.YtfigjpehecibeaaGreatW.PrintLast Go.Proofs.YtfigjpehecibeaaGreatW.PrintMore
section
attribute [local go_sem] jJ gV lV j4 gY iB jU jQ
def run_input.f (a0_0:Int)(a0_1:ByteArray)(a0_2:Int)(l0_3:List Int):Option (Bool):=if a0_0=1 then(ag af)else(ag (a0_0==2))
theorem run_input.calls (a0_0:Int)(a0_1:ByteArray)(a0_2:Int)(A0_3:Option Addr)(c0_3:Nat)(l0_3:List Int)(r:Bool)(w:World)(hr0_3:Kd.C (Kd.int .u64) w A0_3 l0_3.length l0_3)(hc0_3:l0_3.length<=c0_3)(h:run_input.f a0_0 a0_1 a0_2 l0_3=ag r):
 Calls au 61 #[.agg #[.int .i64 a0_0,.string a0_1,.int .i64 a0_2,.slice A0_3 l0_3.length c0_3]] w fun e w'=>e=.returned (.bool r)/\Below w.heap.size w w':=by
 have H:=aa h;clear h hr0_3 hc0_3;go_enter Tryz.func61,Tryz.ntmps61
 go_wp2
 all_goals(
  go_ret;have h:=H.out;unfold run_input.f at h;refine⟨?_,by first | exact(ar _ _).alloc (aq _) _ | exact ar _ _ | (repeat(first | exact du _ | apply dw))⟩
  simp_all)
def run_words.f (a0_0:Int)(a0_1:ByteArray)(a0_2:Int)(l0_3:List Int):Option (Int):=ag (mx a0_2 1)
theorem run_words.calls (a0_0:Int)(a0_1:ByteArray)(a0_2:Int)(A0_3:Option Addr)(c0_3:Nat)(l0_3:List Int)(r:Int)(w:World)(hr0_3:Kd.C (Kd.int .u64) w A0_3 l0_3.length l0_3)(hc0_3:l0_3.length<=c0_3)(h:run_words.f a0_0 a0_1 a0_2 l0_3=ag r):
 Calls au 63 #[.agg #[.int .i64 a0_0,.string a0_1,.int .i64 a0_2,.slice A0_3 l0_3.length c0_3]] w fun e w'=>e=.returned (.int .i64 r)/\Below w.heap.size w w':=by
 have hu70:=Tryz.underlying70;have HR0_3:=aa hr0_3;have HC0_3:=aa hc0_3;clear hr0_3 hc0_3;have HB:=aa (ar w.heap.size w);have H:(ag (mx a0_2 1))=ag r:=h;clear h;obtain⟨ji2,hji2⟩:∃j_:Int,(mx a0_2 1)=j_:=⟨_,rfl⟩
 replace H:(ag ji2)=ag r:=by first | (rw[hji2]at H;exact H) | (simp only[hji2]at H ⊢;exact H)
 (try(have hji2l:1<=ji2:=by(rw[←hji2];unfold mx;(repeat' split) <;> omega)))
 (try(have hji2m:0<=ji2:=by omega))
 have hji2_:(if a0_2<1 then 1 else a0_2)=ji2:=hji2;obtain rfl:=cf H;go_enter Tryz.func63,Tryz.ntmps63
 go_wp2_with (first | ((with_reducible refine qE (N:=1) rfl ?_);refine rX ?hg (N:=1) ?hd (cs:= #[.int .i64 a0_0,.string a0_1,.int .i64 a0_2,.slice A0_3 l0_3.length c0_3]) (t:=70) ?hr ?_;(case hd=>rfl);(case hg=>rfl);(case hr=>first | (go_simp;done) | (go_simp;rfl));intro gb133 hg w3 hbox hb;have n0_:=aa (gJ (by repeat(first | (with_reducible first | exact HB.out | apply aT | apply aO | apply aU) | exact HB.out)) hb);have n1_:=aa (hbox);have n2_:=aa ((by rw[hg];exact(gI (by repeat(first | (with_reducible first | exact HB.out | apply aT | apply aO | apply aU) | exact HB.out))):w.heap.size<=gb133));have n3_:=aa ((by rw[hg];exact(gI (by repeat(first | (with_reducible first | exact HB.out | apply aT | apply aO | apply aU) | exact HB.out))):w.heap.size<=gb133));clear HB;have HB:=n0_;have BK133:=n1_;have GW133:=n2_;have GE133:=n3_;clear n0_ n1_ n2_ n3_;clear hb hbox hg;have hcz4_0:w3.cell? ⟨gb133,0,ak⟩=ag (.int .i64 a0_0):=(aA BK133.out 0).trans rfl;have hcz4_1:w3.cell? ⟨gb133,1,ak⟩=ag (.string a0_1):=(aA BK133.out 1).trans rfl;have hcz4_2:w3.cell? ⟨gb133,2,ak⟩=ag (.int .i64 a0_2):=(aA BK133.out 2).trans rfl;have hcz4_3:w3.cell? ⟨gb133,3,ak⟩=ag (.slice A0_3 l0_3.length c0_3):=(aA BK133.out 3).trans rfl;have hfz4_0:=aH BK133.out 0;have hfz4_1:=aH BK133.out 1;have hfz4_2:=aH BK133.out 2;have hfz4_3:=aH BK133.out 3))
 go_ret;exact⟨by first | rfl | (simp[bV,bW] <;> rfl) | (simp only[←hji2];first | rfl | (simp[bV,bW] <;> rfl)) | (simp[*,bV,bW] <;> rfl),by repeat(first | (with_reducible first | exact HB.out | apply aT | apply aO | apply aU | refine kD ?_ GE133.out) | exact HB.out)⟩
end
section
attribute [local go_sem] jJ gV lV j4 gY iB jU jQ
def cadenceref17_words.f (a0_0:Int)(a0_1:ByteArray)(a0_2:Int)(l0_3:List Int):Option (Int):=ag (mx a0_2 1)
theorem cadenceref17_words.calls (a0_0:Int)(a0_1:ByteArray)(a0_2:Int)(A0_3:Option Addr)(c0_3:Nat)(l0_3:List Int)(r:Int)(w:World)(hr0_3:Kd.C (Kd.int .u64) w A0_3 l0_3.length l0_3)(hc0_3:l0_3.length<=c0_3)(h:cadenceref17_words.f a0_0 a0_1 a0_2 l0_3=ag r):
 Calls au 64 #[.agg #[.int .i64 a0_0,.string a0_1,.int .i64 a0_2,.slice A0_3 l0_3.length c0_3]] w fun e w'=>e=.returned (.int .i64 r)/\Below w.heap.size w w':=by
 have hu70:=Tryz.underlying70;have HR0_3:=aa hr0_3;have HC0_3:=aa hc0_3;clear hr0_3 hc0_3;have HB:=aa (ar w.heap.size w);have H:(ag (mx a0_2 1))=ag r:=h;clear h;obtain⟨ji2,hji2⟩:∃j_:Int,(mx a0_2 1)=j_:=⟨_,rfl⟩
 replace H:(ag ji2)=ag r:=by first | (rw[hji2]at H;exact H) | (simp only[hji2]at H ⊢;exact H)
 (try(have hji2l:1<=ji2:=by(rw[←hji2];unfold mx;(repeat' split) <;> omega)))
 (try(have hji2m:0<=ji2:=by omega))
 have hji2_:(if a0_2<1 then 1 else a0_2)=ji2:=hji2;obtain rfl:=cf H;go_enter Tryz.func64,Tryz.ntmps64
 go_wp2_with (first | ((with_reducible refine qE (N:=1) rfl ?_);refine rX ?hg (N:=1) ?hd (cs:= #[.int .i64 a0_0,.string a0_1,.int .i64 a0_2,.slice A0_3 l0_3.length c0_3]) (t:=70) ?hr ?_;(case hd=>rfl);(case hg=>rfl);(case hr=>first | (go_simp;done) | (go_simp;rfl));intro gb297 hg w3 hbox hb;have n0_:=aa (gJ (by repeat(first | (with_reducible first | exact HB.out | apply aT | apply aO | apply aU) | exact HB.out)) hb);have n1_:=aa (hbox);have n2_:=aa ((by rw[hg];exact(gI (by repeat(first | (with_reducible first | exact HB.out | apply aT | apply aO | apply aU) | exact HB.out))):w.heap.size<=gb297));have n3_:=aa ((by rw[hg];exact(gI (by repeat(first | (with_reducible first | exact HB.out | apply aT | apply aO | apply aU) | exact HB.out))):w.heap.size<=gb297));clear HB;have HB:=n0_;have BK297:=n1_;have GW297:=n2_;have GE297:=n3_;clear n0_ n1_ n2_ n3_;clear hb hbox hg;have hcz4_0:w3.cell? ⟨gb297,0,ak⟩=ag (.int .i64 a0_0):=(aA BK297.out 0).trans rfl;have hcz4_1:w3.cell? ⟨gb297,1,ak⟩=ag (.string a0_1):=(aA BK297.out 1).trans rfl;have hcz4_2:w3.cell? ⟨gb297,2,ak⟩=ag (.int .i64 a0_2):=(aA BK297.out 2).trans rfl;have hcz4_3:w3.cell? ⟨gb297,3,ak⟩=ag (.slice A0_3 l0_3.length c0_3):=(aA BK297.out 3).trans rfl;have hfz4_0:=aH BK297.out 0;have hfz4_1:=aH BK297.out 1;have hfz4_2:=aH BK297.out 2;have hfz4_3:=aH BK297.out 3))
 go_ret;exact⟨by first | rfl | (simp[bV,bW] <;> rfl) | (simp only[←hji2];first | rfl | (simp[bV,bW] <;> rfl)) | (simp[*,bV,bW] <;> rfl),by repeat(first | (with_reducible first | exact HB.out | apply aT | apply aO | apply aU | refine kD ?_ GE297.out) | exact HB.out)⟩
end
end Go.Proofs.YtfigjpehecibeaaGreat.L
namespace Go.Proofs.YtfigjpehecibeaaGreat.L
open Go.RowKit Go.Proofs.YtfigjpehecibeaaGreatW.PrintWords
theorem iI {d:S70}(h:d.f2=0\/dJ d.f2=af):mx d.f2 1=cT d/\1<=cT d/\cT d<=256:=by
 have h1:=words_le h;refine⟨?_,h1⟩;unfold mx cT
 rcases h with h | h
 ·rw[h];rfl
 ·have:=rL h
  split <;> split <;> omega
def pubD (d:S70):List Bool:=if d.f0=1\/d.f0=2 then bg (cT d).toNat (d.f0==1)else []
def fI (ds:List S70):Nat->List Bool
 |0=>[]
 |i+1=>fI ds i++pubD (aI ds (i:Int))
def RightDs (ds:List S70):Prop:=∀i:Nat,i<ds.length->1<=(aI ds (i:Int)).f0/\((aI ds (i:Int)).f2=0\/dJ (aI ds (i:Int)).f2=af)
theorem pubD_len {d:S70}(h:d.f2=0\/dJ d.f2=af):(pubD d).length<=256:=by
 have:=(iI h).2;unfold pubD
 split
 ·rw[dx];omega
 ·simp
theorem fU {ds:List S70}(hr:RightDs ds):∀i,i<=ds.length->(fI ds i).length<=256*i
 |0,_=>by simp[fI]
 |i+1,h=>by
  have:=fU hr i (by omega);have:=pubD_len (hr i (by omega)).2;rw[fI,ba];omega
noncomputable def dH (nm:ByteArray)(wd ln:Int)(ds:List S70)(bd:List S119):List Bool × Int:=if(bC nm wd ln ds bd).e=0 then(fI ds ds.length,0)else([],(bC nm wd ln ds bd).e)
end Go.Proofs.YtfigjpehecibeaaGreat.L
namespace Go.Proofs.YtfigjpehecibeaaGreat.L
open Go.RowKit Bm C Go.Maps Go.Proofs.YtfigjpehecibeaaGreatW.PrintWords Go.Proofs.YtfigjpehecibeaaGreatW.PrintLast Go.Proofs.YtfigjpehecibeaaGreatW.PrintMore Go.Proofs.YtfigjpehecibeaaGreat.Gr
section
variable {nm:ByteArray}{wd ln:Int}{ds:List S70}{bd:List S119}
theorem cZ (h:(bC nm wd ln ds bd).e=0):SOK wd ln ds:=by
 have hr:=lI h;refine⟨?_,?_,?_,fun i hi=>(iI (cJ h i hi).2).2⟩
 ·have h1:dB wd=af:=iC (hr 1 (by decide));unfold dB at h1;simp only[Bool.or_eq_true,beq_iff_eq]at h1;refine⟨wd.toNat,by omega,?_⟩;unfold dP;omega
 ·exact rL (iC (hr 2 (by decide)))
 ·exact qK (hr 3 (by decide))
theorem tok_right (hg:PGood nm wd ln ds bd)(h:(bC nm wd ln ds bd).e=0):∀x∈bd,TOK ds [] x:=by
 intro x hx;have hr:=lI h;have hform:dR nm wd ln ds bd=af:=iC (hr 0 (by decide));unfold dR at hform;simp only[cb]at hform;refine⟨bdB_mem hform.2.2 hx,hg.good.bd x hx,1,by simp,fun t ht=> ?_⟩;have hm:t∈things ds bd:=List.mem_append_right _ (nM hx 1 [] ht);refine⟨iN (hr 9 (by decide)) t hm,iN (hr 10 (by decide)) t hm,iN (hr 11 (by decide)) t hm,iN (hr 14 (by decide)) t hm,?_⟩;have h14:pW wd t=ac:=iN (hr 13 (by decide)) t hm
 cases t with
 |stmt s d l=>
  intro hk;unfold pW at h14;simp only[hk,beq_self_eq_true,ku,Bool.or_eq_false_iff,decide_eq_false_iff_not]at h14;omega
 |decl i=>trivial
 |expr e l=>trivial
theorem vals_right (h:(bC nm wd ln ds bd).e=0){i:Nat}(hi:i<ds.length)(hk:(aI ds (i:Int)).f0=3):((aI ds (i:Int)).f3.length:Int)=cT (aI ds (i:Int)):=by
 have hr:=lI h;have h6:=kE (aV (hr 6 (by decide))) i hi;unfold bH at h6;simp only[hk,beq_self_eq_true,ku,bne_eq_false_iff_eq]at h6;have hform:dR nm wd ln ds bd=af:=iC (hr 0 (by decide));unfold dR at hform;simp only[cb]at hform;have h2:=fw.1 hform.2.1 _ (eJ hi);unfold dcB at h2;rw[if_pos hk]at h2;simp only[cb,decide_eq_true_eq]at h2;unfold cT;rw[if_neg (by omega)];exact h6
def qO (wd v:Int):Int:=(trn wd v.toNat:Int)
def lF (wd:Int)(d:S70)(inp:List Int)(o k:Nat):Int:=if d.f0=3 then d.f3.getD k 0 else if d.f0=1\/d.f0=2 then qO wd (inp.getD (o+k) 0)else 0
def row0 (wd:Int)(d:S70)(inp:List Int)(o:Nat):List Int:=(bu (cT d).toNat).map (lF wd d inp o)
def gF (wd:Int)(ds:List S70)(inp:List Int)(i:Nat):List (List Int):=(bu i).map fun j:Nat=>row0 wd (aI ds (j:Int)) inp (fI ds j).length
theorem rows0_succ (wd:Int)(ds:List S70)(inp:List Int)(i:Nat):gF wd ds inp (i+1)=gF wd ds inp i++[row0 wd (aI ds (i:Int)) inp (fI ds i).length]:=by
 unfold gF;rw[jz,ef];rfl
theorem lX {l:List Int}(h:∀v∈l,U64 v)(k:Nat):U64 (l.getD k 0):=by
 by_cases hk:k<l.length
 ·rw[aw,az hk];exact h _ (gn hk)
 ·rw[aw,dg (by omega)];exact⟨by decide,by decide⟩
theorem word0_u64 {d:S70}{inp:List Int}(hd:∀v∈d.f3,U64 v)(hi:∀v∈inp,U64 v)(o k:Nat):U64 (lF wd d inp o k):=by
 unfold lF
 split
 ·exact lX hd k
 ·split
  ·obtain⟨x,e,hx⟩:=(lX hi (o+k)).nat;unfold qO;rw[e,ax];exact rB (trn_le hx)
  ·exact⟨by decide,by decide⟩
theorem rows0_at {inp:List Int}{n i:Nat}(hi:i<n):rowOf (gF wd ds inp n) i=row0 wd (aI ds (i:Int)) inp (fI ds i).length:=by
 unfold rowOf gF;rw[aw,jb,List.getElem?_range hi];rfl
theorem row0_len {d:S70}{inp:List Int}{o:Nat}:(row0 wd d inp o).length=(cT d).toNat:=by unfold row0;simp
theorem row0_at {d:S70}{inp:List Int}{o k:Nat}(hk:k<(cT d).toNat):(row0 wd d inp o).getD k 0=lF wd d inp o k:=by
 unfold row0;rw[aw,jb,List.getElem?_range hk];rfl
theorem good_vals (hg:PGood nm wd ln ds bd){d:S70}(hd:d∈ds):∀v∈d.f3,U64 v:=fun v hv=>by
 obtain⟨n,e,l⟩:=wf_u64 ((hg.good.ds d hd).2.2.2.2 v hv);rw[e];exact rB l
theorem rok_right (hg:PGood nm wd ln ds bd)(h:(bC nm wd ln ds bd).e=0){inp:List Int}(hi:∀v∈inp,U64 v):ROK ds (gF wd ds inp ds.length):=by
 refine⟨by simp[gF],fun i hi=> ?_,fun i k=> ?_⟩
 ·rw[rows0_at hi,row0_len];have:=(cZ h).row i hi;omega
 ·unfold dM
  by_cases h1:i<ds.length
  ·rw[rows0_at h1]
   by_cases h2:k<(cT (aI ds (i:Int))).toNat
   ·rw[row0_at h2];exact word0_u64 (good_vals hg (eJ h1)) hi _ _
   ·rw[aw,dg (by rw[row0_len];omega)];exact⟨by decide,by decide⟩
  ·unfold rowOf;rw[aw (l:=gF wd ds inp ds.length),dg (by simp[gF];omega)];exact⟨by simp,by simp⟩
def j7 (ds:List S70)(n:Nat):List Nat:=(bu n).filter fun i:Nat=>decide (¬(aI ds (i:Int)).f0=3)
def told (ds:List S70)(R:List (List Int)):List (List Int):=(j7 ds ds.length).map (rowOf R)
theorem toldIx_succ (ds:List S70)(i:Nat):j7 ds (i+1)=if(aI ds (i:Int)).f0=3 then j7 ds i else j7 ds i++[i]:=by
 unfold j7;rw[jz,List.filter_append]
 by_cases h:(aI ds (i:Int)).f0=3 <;> simp[h]
theorem toldIx_len (ds:List S70)(i:Nat):(j7 ds i).length<=i:=by
 unfold j7;have:=List.length_filter_le (fun i:Nat=>decide (¬(aI ds (i:Int)).f0=3)) (bu i)
 rwa [List.length_range]at this
theorem rT (ds:List S70)(k:Nat):(fI ds (k+1)).length=(fI ds k).length+(if(aI ds (k:Int)).f0=1\/(aI ds (k:Int)).f0=2 then(cT (aI ds (k:Int))).toNat else 0):=by
 rw[fI,ba];unfold pubD
 split <;> simp
theorem pubs_mono (ds:List S70){i j:Nat}(h:i<=j):(fI ds i).length<=(fI ds j).length:=by
 induction h with
 |refl=>exact aq _
 |step _ ih=>rw[rT];omega
theorem RowsT.lt {w:World}{base:Nat}{v:Value}{ts:List (Nat × Nat × Nat)}{R:List (List Int)}(h:RowsT w base v ts R){i:Nat}(hi:i<R.length):(ts.getD i zSl).1<w.heap.size:=by
 obtain⟨-,-,cs,hb,-⟩:=h.row i hi;exact aX hb
theorem RowsT.nil (w:World)(base:Nat):RowsT w base (.slice ak 0 0) [] []:=
 ⟨Kd.iG _ _ _ _ _,rfl,fun i hi=>absurd hi (da _),fun i j hi=>absurd hi (da _)⟩
theorem RowsT.below {w w':World}{base:Nat}{v:Value}{ts:List (Nat × Nat × Nat)}{R:List (List Int)}(h:RowsT w base v ts R)(hb:Below w.heap.size w w'):RowsT w' base v ts R:=h.kt (Kt.of_below hb [] ak) (by simp) (by simp)
theorem RowsT.lower {w:World}{base base':Nat}{v:Value}{ts:List (Nat × Nat × Nat)}{R:List (List Int)}(h:RowsT w base v ts R)(hb:base'<=base):RowsT w base' v ts R:=
 ⟨Kd.fK h.out hb,h.len,fun i hi=>⟨bi hb (h.row i hi).1,(h.row i hi).2⟩,h.ne⟩
theorem RowsT.push {w w1:World}{base b cap:Nat}{v v1:Value}{ts:List (Nat × Nat × Nat)}{R:List (List Int)}{l:List Int}(h:RowsT w base v ts R)(hg:w.grownBy w1 v.ownBlock)(h1:kSl.R 36 w1 base (fun _=>True) v1 (ts++[(b,l.length,cap)]))(hl:jI w b l)(hbase:base<=b)(hne:∀i,i<R.length->(ts.getD i zSl).1<b):RowsT w1 base v1 (ts++[(b,l.length,cap)]) (R++[l]):=by
 have hk:Kt [36] ak w w1:=(Kt.refl _ _ _).grown hg fun k hk=>by
  obtain⟨inner,ho⟩:=Kd.mH h.out;obtain⟨cells,hc⟩:=dO ho k hk;exact⟨cells,36,_,by simp,hc⟩
 have e1:∀i,i<R.length->(ts++[(b,l.length,cap)]).getD i zSl=ts.getD i zSl:=fun i hi=>by
  rw[aw,jq (by rw[h.len];exact hi),aw]
 have e2:(ts++[(b,l.length,cap)]).getD R.length zSl=(b,l.length,cap):=by
  rw[aw,←h.len,List.getElem?_append_right (aq _),Nat.sub_self];rfl
 have e3:∀i,i<R.length->rowOf (R++[l]) i=rowOf R i:=fun i hi=>by
  unfold rowOf;rw[aw,jq hi,aw]
 have e4:rowOf (R++[l]) R.length=l:=by
  unfold rowOf;rw[aw,List.getElem?_append_right (aq _),Nat.sub_self];rfl
 have hcs:∀i,i<(R++[l]).length->i<R.length\/i=R.length:=fun i hi=>by rw[ba,bq]at hi;omega
 refine⟨h1,by simp[h.len],fun i hi=> ?_,fun i j hi hj hij=> ?_⟩
 ·rcases hcs i hi with hi | rfl
  ·rw[e1 i hi,e3 i hi];exact⟨(h.row i hi).1,(h.row i hi).2.1,(h.row i hi).2.2.kt hk (by simp)⟩
  ·rw[e2,e4];exact⟨hbase,rfl,hl.kt hk (by simp)⟩
 ·rcases hcs i hi with hi | rfl <;> rcases hcs j hj with hj | rfl
  ·rw[e1 i hi,e1 j hj];exact h.ne i j hi hj hij
  ·rw[e1 i hi,e2];exact jy (hne i hi)
  ·rw[e1 j hj,e2];exact(jy (hne j hj)).symm
  ·exact absurd rfl hij
theorem RowsT.slot {w:World}{base:Nat}{v:Value}{ts:List (Nat × Nat × Nat)}{R:List (List Int)}(h:RowsT w base v ts R):∃A cap,v=.slice A R.length cap/\∀d,d<R.length->∃ad,A=ag ad/\w.cell? (ad.add d)=ag (.slice (ag ⟨(ts.getD d zSl).1,0,ak⟩) (ts.getD d zSl).2.1 (ts.getD d zSl).2.2):=by
 obtain⟨A0,cap,rfl,hl,hC⟩:=Kd.cO h.out;refine⟨A0,cap,by rw[h.len],fun d hd=> ?_⟩
 have hdl:d<ts.length:=by rw[h.len];exact hd
 obtain⟨A,c0,rfl,_,hK,hc⟩:=Kd.oZ hC zSl (d:Int) (by omega) (by omega);rw[ax]at hK hc;have h0:=hc 0 _ (by rw[hK];rfl);rw[show kSl.sz=1 from rfl,ib,gm]at h0;exact⟨A,rfl,h0⟩
def dA (ds:List S70)(ts:List (Nat × Nat × Nat))(n:Nat):List (Nat × Nat × Nat):=(j7 ds n).map fun i=>ts.getD i zSl
theorem told_rows {w w1:World}{base base1:Nat}{vr v:Value}{ts:List (Nat × Nat × Nat)}{R:List (List Int)}(h:RowsT w base vr ts R)(hlen:R.length=ds.length)(hk:Below w.heap.size w w1)(h1:kSl.R 36 w1 base1 (fun _=>True) v (dA ds ts ds.length)):∃A cap,v=.slice A (told ds R).length cap/\RowsAt w1 A (told ds R):=by
 obtain⟨A0,cap,rfl,hl,hC⟩:=Kd.cO h1;refine⟨A0,cap,by simp[told,dA],fun k hk2=> ?_⟩
 have e0:(told ds R).length=(j7 ds ds.length).length:=by simp[told]
 rw[e0]at hk2;obtain⟨A,c0,rfl,_,hK,hc⟩:=Kd.oZ hC zSl (k:Int) (by omega) (by simp[dA];omega);rw[ax]at hK hc;have h0:=hc 0 _ (by rw[hK];rfl);rw[show kSl.sz=1 from rfl,ib,gm]at h0;have hm:(j7 ds ds.length)[k]∈j7 ds ds.length:=gn hk2;obtain⟨i,hi⟩:∃i,i=(j7 ds ds.length)[k]:=⟨_,rfl⟩
 have hin:i<R.length:=by
  rw[hlen,hi];unfold j7 at hm ⊢;exact jg.1 (List.mem_filter.1 hm).1
 have e1:(dA ds ts ds.length).getD k zSl=ts.getD i zSl:=by
  unfold dA;rw[aw,jb,az hk2,←hi];rfl
 have e2:(told ds R).getD k []=rowOf R i:=by
  unfold told;rw[aw,jb,az hk2,←hi];rfl
 rw[e1]at h0;replace h0:w1.cell? (A.add k)=ag (.slice (ag ⟨(ts.getD i zSl).1,0,ak⟩) (ts.getD i zSl).2.1 (ts.getD i zSl).2.2):=h0;obtain⟨-,g2,g3⟩:=h.row i hin;rw[g2]at h0;exact⟨A,_,_,rfl,by rw[e2];exact h0,by rw[e2];exact(wordsAt_row g3).below hk⟩
end
theorem lkL_add (L:List (ByteArray × Int))(nm:ByteArray)(v:Int)(s:ByteArray):lkL (L++[(nm,v)]) s=match lkL L s with | some x=>ag x | none=>if eqS nm s=af then ag v else ak:=by
 unfold lkL;rw[List.find?_append]
 cases h:L.find? (fun p=>eqS p.1 s)with
 |some p=>rfl
 |none=>
  rw[List.find?_cons]
  cases h2:eqS nm s <;> simp[h2]
theorem eqS_key {a b:ByteArray}(h:eqS a b=af):rP a=rP b:=by
 unfold eqS at h;have:=of_decide_eq_true h;rw[Lib.toList_data,Lib.toList_data]at this;unfold rP;rw[this]
theorem key_ne {a b:ByteArray}(h:eqS a b=ac):rP a≠rP b:=by
 unfold eqS at h;have:=of_decide_eq_false h;rw[Lib.toList_data,Lib.toList_data]at this;intro e;injection e with e;exact this e
theorem eqS_symm (a b:ByteArray):eqS a b=eqS b a:=by
 unfold eqS;rw[decide_eq_decide];exact⟨Eq.symm,Eq.symm⟩
theorem lkL_eq {L:List (ByteArray × Int)}{a b:ByteArray}(h:eqS a b=af):lkL L a=lkL L b:=by
 have h2:=of_decide_eq_true h;unfold lkL eqS;rw[h2]
structure LoX (L:List (ByteArray × Int))(nm:ByteArray)(D:DU):Prop where
 size:Maps.size D<=L.length+(if Maps.has D (rP nm)=af then 1 else 0)
 at':∀s,eqS s nm=ac->Maps.has D (rP s)=(lkL L s).isSome/\∀v,lkL L s=ag v->∀z,D.atKey (rP s) z=.lit (.int .u64 v)
theorem LoOK.toX {L:List (ByteArray × Int)}{nm:ByteArray}{D:DU}(h:LoOK L D):LoX L nm D:=⟨by have:=h.size;omega,fun s _=>h.at' s⟩
theorem LoOK.toX' {L:List (ByteArray × Int)}{nm:ByteArray}{v:Int}{D:DU}(h:LoOK (L++[(nm,v)]) D):LoX L nm D:=by
 have e:∀s,eqS s nm=ac->lkL (L++[(nm,v)]) s=lkL L s:=by
  intro s hs;rw[lkL_add,eqS_symm,hs]
  cases lkL L s <;> rfl
 refine⟨?_,fun s hs=> ?_⟩
 ·have h1:=(h.at' nm).1;have h2:=h.size;rw[ba,bq]at h2;rw[lkL_add]at h1
  have e2:eqS nm nm=af:=by unfold eqS;exact decide_eq_true rfl
  rw[e2]at h1
  have h3:Maps.has D (rP nm)=af:=by rw[h1];cases lkL L nm <;> rfl
  rw[if_pos h3];exact h2
 ·have:=h.at' s;rw[e s hs]at this;exact this
theorem LoX.put {L:List (ByteArray × Int)}{nm:ByteArray}{D:DU}(h:LoX L nm D)(hn:iL (L.map (·.1)) nm=ac)(ht:Tidy D)(v:Int):LoOK (L++[(nm,v)]) (D.put (rP nm) (.lit (.int .u64 v))):=by
 have hk:WideAt.IsKeyLit (rP nm):=by unfold rP;trivial
 have hl:lkL L nm=ak:=by
  have:=qL (L:=L) (nm:=nm);rw[hn]at this
  cases hh:lkL L nm with
  |none=>rfl
  |some x=>rw[hh]at this;cases this
 refine⟨?_,fun s=> ?_⟩
 ·rw[size_put ht,ba,bq];have:=h.size
  split
  ·rename_i hh;rw[if_pos hh]at this;exact this
  ·rename_i hh;rw[if_neg hh]at this;omega
 ·rw[lkL_add]
  cases hs:eqS s nm with
  |true=>
   have e1:rP s=rP nm:=eqS_key hs;rw[lkL_eq hs,hl,eqS_symm,hs,e1];refine⟨has_put_same ht.isMap hk _,fun x hx z=> ?_⟩
   have hx:v=x:=by simpa using hx
   rw[atKey_put_same ht.isMap hk,hx]
  |false=>
   have hne:=key_ne hs;obtain⟨h1,h2⟩:=h.at' s hs;rw[eqS_symm,hs,has_put_other hne,h1];refine⟨by cases lkL L s <;> rfl,fun x hx z=> ?_⟩;rw[atKey_put_other hne]
   cases hq:lkL L s with
   |none=>rw[hq]at hx;simp at hx
   |some y=>
    rw[hq]at hx;injection hx with hx;subst hx;exact h2 y hq z
theorem LoX.del {L:List (ByteArray × Int)}{nm:ByteArray}{D:DU}(h:LoX L nm D)(hn:iL (L.map (·.1)) nm=ac)(ht:Tidy D):LoOK L (D.del (rP nm)):=by
 refine⟨?_,fun s=> ?_⟩
 ·have h1:=h.size;have h2:=size_del ht (k:=rP nm);omega
 ·cases hs:eqS s nm with
  |true=>
   have hl:lkL L s=ak:=by
    have:=qL (L:=L) (nm:=nm);rw[hn]at this;rw[lkL_eq hs]
    cases hh:lkL L nm with
    |none=>rfl
    |some x=>rw[hh]at this;cases this
   rw[hl,eqS_key hs];exact⟨has_del_same,fun v hv=>by cases hv⟩
  |false=>
   have hne:=key_ne hs;obtain⟨h1,h2⟩:=h.at' s hs;rw[has_del_other hne];exact⟨h1,fun v hv z=>by rw[atKey_del_other hne];exact h2 v hv z⟩
theorem own_tight {H:Type}{P:Program}{w:World}{k:TypeId}{R:Value->Option (DataW H × List MemPlace)}{b n:Nat}{D:DataW H}(h:w.ownsMap P k R b n D):w.ownsMap P k R b (Maps.size D) D:=by
 obtain⟨es,clock,hb,F,hs,rfl⟩:=h;exact⟨es,clock,hb,F,by rw[Maps.size_eq,length_read];exact aq _,rfl⟩
theorem Kt.of_map {W W':World}{b:Nat}{es:Array MapEntry}{clock:Nat}(hb:W.heap[b]? =ag (.map es clock))(hg:W.grownBy W' (ag b)):Kt [] (ag b) W W':=by
 refine⟨hg.size,fun g cs t fr h _=> ?_,fun g es' x hne h=> ?_⟩
 ·rw[hg.block g (aX h) (fun e=>by injection e with e;subst e;rw[hb]at h;cases h)];exact h
 ·rw[hg.block g (aX h) hne];exact h
theorem MAt.turn {c:Cfg}{R:List (List Int)}{L L':List (ByteArray × Int)}{T:List S101}{W W':World}(h:MAt c R L T W)(hk:Kt [] (ag c.lb) W W')(hg:W.grownBy W' (ag c.lb))(hl:∃D:DU,W'.ownsMap au 9 (plainElem au 74) c.lb (Maps.size D) D/\LoOK L' D):MAt c R L' T W':=by
 obtain⟨vr,g1,g2⟩:=h.hm;obtain⟨D,a1,a2⟩:=h.ha;obtain⟨vt,t1,t2⟩:=h.he;exact⟨h.low.grown hg h.low.size (fun k e=>by injection e with e;subst e;exact h.base.2.2.2.1),h.base,⟨vr,hk.blk _ _ _ _ g1 (by simp),g2.kt hk (by simp) (by simp)⟩,⟨vt,hk.blk _ _ _ _ t1 (by simp),hk.row t2 (fun q _=>by simp)⟩,⟨D,hk.own a1 (fun e=>h.base.2.2.2.2 (by injection e)),a2⟩,hl⟩
theorem MAt.setLoop {c:Cfg}{R:List (List Int)}{L L':List (ByteArray × Int)}{T:List S101}{W:World}(h:MAt c R L' T W){nm:ByteArray}(hX:L'=L\/∃u,L'=L++[(nm,u)])(hn:iL (L.map (·.1)) nm=ac)(hnm:nm.size<=maxLen)(hL:L.length<64){v:Int}(hv:U64 v):
 ∃W',(Instr.mapUpdate 89 (.map (ag c.lb)) (.string nm) (.int .u64 v)).run au W=.ok () W'/\MAt c R (L++[(nm,v)]) T W'/\Kt [] (ag c.lb) W W':=by
 obtain⟨D,h1,h2⟩:=h.hl
 have hx:LoX L nm D:=by
  rcases hX with rfl | ⟨u,rfl⟩
  ·exact h2.toX
  ·exact h2.toX'
 have hsz:Maps.size D<maxLen:=by
  have:=hx.size;unfold maxLen
  split at this <;> omega
 have hwf:(Lit.int .u64 v).wf=af:=by
  have hmin:IntKind.u64.min=0:=rfl;have hmax:IntKind.u64.max=18446744073709551615:=rfl;simp only[Lit.wf,cb,decide_eq_true_eq];have:=hv;omega
 obtain⟨W',hr,ho,hg⟩:=h1.update lJ Tryz.underlying89 hsz (kw jo hnm) (plainElem_int ky hwf);obtain⟨es,clock,hb,_⟩:=id h1;have hk:=Kt.of_map hb hg;exact⟨W',hr,h.turn hk hg ⟨_,own_tight ho,hx.put hn (h1.tidy lJ) v⟩,hk⟩
theorem MAt.endLoop {c:Cfg}{R:List (List Int)}{L L':List (ByteArray × Int)}{T:List S101}{W:World}(h:MAt c R L' T W){nm:ByteArray}(hX:L'=L\/∃u,L'=L++[(nm,u)])(hn:iL (L.map (·.1)) nm=ac)(hnm:nm.size<=maxLen)(ty:TypeId):
 ∃W',(Builtin.delete_ #[89,9] ty #[.map (ag c.lb),.string nm]).run au W=.ok (.tuple #[]) W'/\MAt c R L T W'/\Kt [] (ag c.lb) W W':=by
 obtain⟨D,h1,h2⟩:=h.hl
 have hx:LoX L nm D:=by
  rcases hX with rfl | ⟨u,rfl⟩
  ·exact h2.toX
  ·exact h2.toX'
 obtain⟨W',hr,ho,hg⟩:=h1.drop lJ Tryz.underlying89 (kw jo hnm) ty;obtain⟨es,clock,hb,_⟩:=id h1;have hk:=Kt.of_map hb hg.grown;exact⟨W',hr,h.turn hk hg.grown ⟨_,own_tight ho,hx.del hn (h1.tidy lJ)⟩,hk⟩
theorem RowsT.blk36 {w:World}{base n cap:Nat}{A:Addr}{l:List (Nat × Nat × Nat)}{R:List (List Int)}(h:RowsT w base (.slice (ag A) n cap) l R):∃cur,w.heap[A.block]? =ag (.cells cur 36 (0,0)):=by
 obtain⟨inner,ho⟩:=Kd.mH h.out;exact dO ho A.block (by simp[ee])
structure RowSt (c:Cfg)(nm:ByteArray)(R:List (List Int))(W:World)(d bb n:Nat)(A:Addr)(RN cp c0:Nat):Prop where
 no:d=dNo c.ds nm
 lt:d<R.length
 len:n=(rowOf R d).length
 n1:1<=n/\n<=65536
 rn:RN=R.length/\RN<=65536
 m:∃ts,W.heap[c.mb]? =ag (.cells (c.cells (.slice (ag A) RN cp)) 93 (0,0))/\RowsT W c.w0.heap.size (.slice (ag A) RN cp) ts R/\bb=(ts.getD d zSl).1
 look:∀R' L' T' w1,MAt c R' L' T' w1->(iw 88 (.map (ag c.ab)) (.string nm) ac).run au w1=.ok (.int .i64 (d:Int)) w1
 cell:W.cell? (A.add d)=ag (.slice (ag ⟨bb,0,ak⟩) n c0)
theorem row_at {c:Cfg}(hs:SOK c.wd c.ln c.ds){R:List (List Int)}(hR:ROK c.ds R){L:List (ByteArray × Int)}{T:List S101}{W:World}(hM:MAt c R L T W){nm:ByteArray}(hn:nm.size<=maxLen)(hf:(cG c.ds nm).isSome=af):∃d bb n A RN cp c0,RowSt c nm R W d bb n A RN cp c0:=by
 have hd:=find_lt hf
 have hdR:dNo c.ds nm<R.length:=by rw[hR.len];exact hd
 obtain⟨vr,hmb,ts,hrt⟩:=hM.hm;obtain⟨A,cap,c0,rfl,hcd,_,_,_⟩:=hrt.at' hdR;have h1:=hs.row _ hd;have h2:=hR.row _ hd;exact⟨_,_,_,A,_,cap,c0,rfl,hdR,rfl,by omega,⟨rfl,by have:=hR.len;have:=hs.few;omega⟩,⟨ts,hmb,hrt,rfl⟩,fun R' L' T' w1 h=>h.look hn hf,hcd⟩
theorem RowSt.cells {c:Cfg}{nm:ByteArray}{R:List (List Int)}{W:World}{d bb n:Nat}{A:Addr}{RN cp c0:Nat}(h:RowSt c nm R W d bb n A RN cp c0){w1:World}(hk:Kt [84,101,74] ak W w1){R':List (List Int)}{L':List (ByteArray × Int)}{T':List S101}(hM:MAt c R' L' T' w1):
 w1.cell? ⟨c.mb,5,ak⟩=ag (.map (ag c.ab))/\w1.cell? ⟨c.mb,6,ak⟩=ag (.slice (ag A) RN cp)/\w1.cell? ⟨c.mb,8,ak⟩=ag (.iface 80 (.pointer (ag ⟨c.eb,0,ak⟩)))/\(iw 88 (.map (ag c.ab)) (.string nm) ac).run au w1=.ok (.int .i64 (d:Int)) w1/\w1.cell? (A.add d)=ag (.slice (ag ⟨bb,0,ak⟩) n c0):=by
 obtain⟨ts,h1,h2,h3⟩:=h.m;obtain⟨cur,h4⟩:=h2.blk36;refine⟨(hk.cell h1 (by simp) 5).trans rfl,(hk.cell h1 (by simp) 6).trans rfl,(hk.cell h1 (by simp) 8).trans rfl,h.look _ _ _ _ hM,?_⟩
 rw[World.cell?_of_block (w:=W) (by
  have e:(A.add d).block=A.block:=by unfold Addr.add;split <;> rfl
  rw[e,h4];exact hk.blk _ _ _ _ h4 (by simp))]
 exact h.cell
theorem RowSt.word {c:Cfg}{nm:ByteArray}{R:List (List Int)}{W:World}{d bb n:Nat}{A:Addr}{RN cp c0:Nat}(h:RowSt c nm R W d bb n A RN cp c0){w1:World}(hk:Kt [84,101] ak W w1){L':List (ByteArray × Int)}{T':List S101}(hM:MAt c R L' T' w1){j:Nat}(hj:j<n):
 w1.cell? ⟨bb,j,ak⟩=ag (.int .u64 (dM R d j))/\(∃cs,w1.heap[bb]? =ag (.cells cs 74 (0,0)))/\∀v,MAt c (putW R d j v) L' T' (w1.setCell ⟨bb,j,ak⟩ (.int .u64 v)):=by
 obtain⟨ts,h1,h2,rfl⟩:=h.m;obtain⟨A1,cap1,c1,_,_,hb,hbb,hcell⟩:=(h2.kt hk (by simp) (by simp)).at' h.lt;obtain⟨g1,g2⟩:=hcell j (by rw[←h.len];exact hj);exact⟨g1,hbb,fun v=>hM.put hbb hb (hk.blk _ _ _ _ h1 (by simp)) ⟨_,g2 v⟩⟩
end Go.Proofs.YtfigjpehecibeaaGreat.L
namespace Go.Proofs.YtfigjpehecibeaaGreat.L
open Go.RowKit Bm C Go.Proofs.YtfigjpehecibeaaGreatW.PrintWords Go.Proofs.YtfigjpehecibeaaGreatW.PrintLast Go.Proofs.YtfigjpehecibeaaGreatW.PrintMore Go.Proofs.YtfigjpehecibeaaGreat.Gr
section
attribute [local go_sem] G.cell
theorem bit_calls (x m:Nat)(hm:m<=64)(W:World):Calls au 292 #[.int .u64 (x:Int),.int .i64 (m:Int)] W fun e W'=>e=.returned (.int .u64 ((x / 2 ^ m % 2:Nat):Int))/\Below W.heap.size W W':=by
 have e:IntKind.u64.wrap (m:Int)=(m:Int):=kC (by omega) (by omega);go_enter Tryz.func292,Tryz.ntmps292;go_wp2_with fail;go_ret;refine⟨ret_u64 ?_,ar _ _⟩;rw[castdiv,jp];rfl
theorem bit_v (x:Nat){v:Int}{m:Nat}(hv:v=(m:Int))(hm:m<=64)(W:World):Calls au 292 #[.int .u64 (x:Int),.int .i64 v] W fun e W'=>e=.returned (.int .u64 ((x / 2 ^ m % 2:Nat):Int))/\Below W.heap.size W W':=hv ▸ bit_calls x m hm W
theorem refUn_calls (k op wd:Int)(hk:(k=4/\op=15)\/(k=5/\op=16))(h1:1<=wd)(h2:wd<=64)(x:Nat)(hx:x<2 ^ 64)(W:World):
 Calls au 236 #[.int .i64 op,.int .i64 wd,.int .u64 (x:Int)] W fun e W'=>e=.returned (.tuple #[.int .u64 (unW k wd x),.int .i64 0])/\Below W.heap.size W W':=by
 rcases hk with ⟨rfl,rfl⟩ | ⟨rfl,rfl⟩
 ·go_enter Tryz.func236,Tryz.ntmps236;refine bE ?_;intro gg;go_wp2_with fail;refine(aD (g:=gg) (d5 wd h1 h2 gg.W)).mono ?_;rintro _ _ ⟨rfl,gg,rfl⟩;go_wp2_with fail;refine(aD (g:=gg) (eF wd h1 (not_val hx) (by rw[p64];omega) gg.W)).mono ?_;rintro _ _ ⟨rfl,gg,rfl⟩;go_wp2_with fail;go_ret2;refine⟨?_,gg.below⟩;rw[show unW 4 wd (x:Int)=((trn wd (18446744073709551615 - x):Nat):Int) from by unfold unW;rw[if_pos rfl];congr 3;omega];rfl
 ·go_enter Tryz.func236,Tryz.ntmps236;refine bE ?_;intro gg;go_wp2_with fail;refine(aD (g:=gg) (d5 wd h1 h2 gg.W)).mono ?_;rintro _ _ ⟨rfl,gg,rfl⟩;go_wp2_with fail;refine(aD (g:=gg) (eF wd h1 (neg_val hx) (by rw[p64];omega) gg.W)).mono ?_;rintro _ _ ⟨rfl,gg,rfl⟩;go_wp2_with fail;go_ret2;exact⟨rfl,gg.below⟩
theorem rJ (m:Nat)(hm:dP m)(W:World):Calls au 279 #[.int .i64 (m:Int)] W fun e W'=>e=.returned (.bool af)/\Below W.heap.size W W':=by
 have he:∃e:Nat,e<=6/\m=2 ^ e:=by
  unfold dP at hm
  rcases hm with rfl | rfl | rfl | rfl | rfl
  ·exact⟨2,by decide,rfl⟩
  ·exact⟨3,by decide,rfl⟩
  ·exact⟨4,by decide,rfl⟩
  ·exact⟨5,by decide,rfl⟩
  ·exact⟨6,by decide,rfl⟩
 obtain⟨e,he,hme⟩:=he;have HE:=aa (aj he hme);clear he hme
 have hm1:m<=64:=by have:=hm.le;omega
 clear hm;go_enter Tryz.func279,Tryz.ntmps279;go_wp2_with fail
 go_loopw [3] (fun i W'=>∃(j P:Nat),i=.int .i64 (P:Int)/\P=2 ^ j/\j<=e/\W'=W) (fun i _=>65 - (intOf i).toNat)
 case atStart=>exact⟨0,1,rfl,rfl,bk _,rfl⟩
 case round=>
  obtain⟨j,P,rfl,hP,hj,rfl⟩:=hrel;have hP1:1<=P:=hP ▸ df j
  have hPm:P<=m:=by rw[hP,HE.out.2];exact ju (by decide) hj
  have hle:(P:Int)<=64:=by omega
  by_cases hje:j=e
  ·have hPe:P=m:=by rw[hP,HE.out.2,hje]
   subst hPe;clear hP hP1 hPm hje;go_wp2_with fail;go_ret;exact⟨rfl,ar _ _⟩
  ·have h2:2*P<=m:=by
    rw[hP,HE.out.2,←Nat.pow_succ'];exact ju (by decide) (by omega)
   have hne:((m:Int)==(P:Int))=ac:=beq_eq_false_iff_ne.2 (by omega)
   have hw:wrap64 (2*(P:Int))=((2*P:Nat):Int):=by rw[w64];omega
   have HP:=aa (aj hP (aj hw (aj h2 hm1)));clear hP hw h2 hPm;go_wp2_with fail;exact⟨⟨j+1,2*P,by rw[iy];rfl,by rw[HP.out.1,Nat.pow_succ'],by omega,trivial⟩,by simp[intOf];omega⟩
theorem bit_b (x:Nat){v:Int}{m b:Nat}(hb:x / 2 ^ m % 2=b)(hv:v=(m:Int))(hm:m<=64)(W:World):Calls au 292 #[.int .u64 (x:Int),.int .i64 v] W fun e W'=>e=.returned (.int .u64 ((b:Nat):Int))/\Below W.heap.size W W':=hb ▸ bit_v x hv hm W
theorem ret_i64 {a b:Int}(h:a=b):gj (.int .i64 a)=.returned (.int .i64 b):=by rw[h]
theorem sJ (m x:Nat)(hm:dP m)(hx:x<2 ^ 64)(W:World):Calls au 278 #[.int .i64 (m:Int),.int .u64 (x:Int)] W fun e W'=>e=.returned (.int .i64 (sgn (m:Int) x))/\Below W.heap.size W W':=by
 obtain⟨t,ht⟩:∃t,t=trn (m:Int) x:=⟨_,rfl⟩;have lt:t<2 ^ m:=ht ▸ sQ rfl hm.le.1 hm.le.2 hx;obtain⟨q,hq⟩:∃q,m=q+1:=⟨m - 1,by have:=hm.le;omega⟩
 have hs:sgn (m:Int) x=if 2 ^ q<=t then(t:Int) - ((2 ^ m:Nat):Int)else(t:Int):=by
  unfold sgn;rw[if_pos (by have:=hm.le;omega),←ht,show((m:Int) - 1).toNat=q from by omega,ax]
 have hh:=high_bit (m:=q) (t:=t) (by rw[←hq];exact lt);have hp2:=pow_lt64 (m:=q) (by have:=hm.le;omega)
 have hP:2 ^ m=2*2 ^ q:=by rw[hq,Nat.pow_succ];omega
 have H:=aa (aj ht (aj lt (aj hq (aj hm (aj hx (aj hp2 hP))))));rw[hs]
 have hq1:(m:Int) - 1=(q:Int):=by have:=hm.le;omega
 have HQ:=aa hq1;clear ht lt hq hs hx hp2 hP hq1
 by_cases g:2 ^ q<=t
 ·rw[if_pos g]at hh ⊢;have HG:=aa (aj g hh);clear g hh
  rcases dh (m:Int) 64 with hw | hw
  ·have hs1:shl .i64 1 (m:Int)=wrap64 ((2 ^ m:Nat):Int):=by
    unfold shl;rw[show min (((m:Nat):Int).toNat) IntKind.i64.bits=m from by simp[jf];omega,i64w,Int.one_mul,Int.natCast_pow];rfl
   have HS:=aa hs1;have hwm:IntKind.u64.wrap (m:Int)=(m:Int):=kC (by omega) (by omega);clear hm hs1;go_enter Tryz.func278,Tryz.ntmps278;refine bE ?_;intro gg;go_wp2_with fail;refine(aD (g:=gg) (d5 m (by have:=H.out.2.2.2.1.le;omega) (by omega) gg.W)).mono ?_;rintro _ _ ⟨rfl,gg,rfl⟩;go_wp2_with fail;refine(aD (g:=gg) (eF m (by have:=H.out.2.2.2.1.le;omega) rfl H.out.2.2.2.2.1 gg.W)).mono ?_;rintro _ _ ⟨rfl,gg,rfl⟩;rw[←H.out.1];go_wp2_with fail;refine(aD (g:=gg) (bit_b t HG.out.2 HQ.out (by have:=H.out.2.2.1;omega) gg.W)).mono ?_;rintro _ _ ⟨rfl,gg,rfl⟩;go_wp2_with fail;go_ret;refine⟨ret_i64 ?_,gg.below⟩
   have e2:(2:Int) ^ m=((2 ^ m:Nat):Int):=by rw[Int.natCast_pow];rfl
   have h1:=pow_lt64 (m:=m) (by omega);have h2:=H.out.2.1;have h3:=H.out.2.2.2.2.2.2;have h4:=HG.out.1
   show wrap64 (wrap64 (t:Int) - wrap64 (2 ^ m))= _
   rw[e2];rw[h3]at h1 h2 ⊢;generalize 2 ^ q=Q at h1 h2 h4 ⊢;rw[w64,w64,w64];omega
  ·have hm64:m=64:=by have:=hm.le;omega
   have HM:=aa hm64
   have hw2:¬(m:Int)<64:=by omega
   have hm65:(m:Int)<65:=by omega
   clear hm hm64;go_enter Tryz.func278,Tryz.ntmps278;refine bE ?_;intro gg;go_wp2_with fail;refine(aD (g:=gg) (d5 m (by have:=H.out.2.2.2.1.le;omega) (by have:=H.out.2.2.2.1.le;omega) gg.W)).mono ?_;rintro _ _ ⟨rfl,gg,rfl⟩;go_wp2_with fail;refine(aD (g:=gg) (eF m (by have:=H.out.2.2.2.1.le;omega) rfl H.out.2.2.2.2.1 gg.W)).mono ?_;rintro _ _ ⟨rfl,gg,rfl⟩;rw[←H.out.1];go_wp2_with fail;refine(aD (g:=gg) (bit_b t HG.out.2 HQ.out (by have:=H.out.2.2.1;have:=H.out.2.2.2.1.le;omega) gg.W)).mono ?_;rintro _ _ ⟨rfl,gg,rfl⟩;go_wp2_with fail;go_ret;refine⟨ret_i64 ?_,gg.below⟩;have h2:=H.out.2.1;have h4:=HG.out.1
   have h5:q=63:=by have:=H.out.2.2.1;have:=HM.out;omega
   rw[HM.out]at h2;rw[h5,p63]at h4;rw[p64]at h2
   show wrap64 (t:Int)= _
   rw[HM.out,p64,w64];omega
 ·have g':=g;rw[if_neg g]at hh ⊢;have HG:=aa (aj g hh)
  have hm65:(m:Int)<65:=by have:=hm.le;omega
  clear g hh hm g';go_enter Tryz.func278,Tryz.ntmps278;refine bE ?_;intro gg;go_wp2_with fail;refine(aD (g:=gg) (d5 m (by have:=H.out.2.2.2.1.le;omega) (by have:=H.out.2.2.2.1.le;omega) gg.W)).mono ?_;rintro _ _ ⟨rfl,gg,rfl⟩;go_wp2_with fail;refine(aD (g:=gg) (eF m (by have:=H.out.2.2.2.1.le;omega) rfl H.out.2.2.2.2.1 gg.W)).mono ?_;rintro _ _ ⟨rfl,gg,rfl⟩;rw[←H.out.1];go_wp2_with fail;refine(aD (g:=gg) (bit_b t HG.out.2 HQ.out (by have:=H.out.2.2.1;have:=H.out.2.2.2.1.le;omega) gg.W)).mono ?_;rintro _ _ ⟨rfl,gg,rfl⟩;go_wp2_with fail;go_ret;refine⟨ret_i64 ?_,gg.below⟩;have h2:=HG.out.1;have h3:=H.out.2.2.2.2.2.1
  show wrap64 (t:Int)= _
  rw[w64];generalize 2 ^ q=Q at h2 h3;omega
end
end Go.Proofs.YtfigjpehecibeaaGreat.L
namespace Go.Proofs.YtfigjpehecibeaaGreat.C
open Go.RowKit Bm
def src (op:Int)(m n i:Nat):Option Nat:=if op=25 then(if n<=i then ag (i - n)else ak)else if op=26 then(if i+n<m then ag (i+n)else ak)else if op=27 then ag (min (i+n) (m - 1))else if op=28 then ag ((i+(m - n)) % m)else ag ((i+n) % m)
def fQ (x:Nat):Option Nat->Nat
 |some a=>x / 2 ^ a % 2
 |none=>0
theorem nP {N i:Nat}{b:Bool}(h:N.testBit i=b):N / 2 ^ i % 2=b.toNat:=by rw[←Bn.mQ,h]
theorem movn_src {op:Int}{m x n i:Nat}(h1:1<=m)(hx:x<2 ^ m)(hn:n<m)(hi:i<m)(ho:op=25\/op=26\/op=27\/op=28\/op=29):movn op m x n / 2 ^ i % 2=fQ x (src op m n i):=by
 rcases ho with rfl | rfl | rfl | rfl | rfl
 ·show(x*2 ^ n % 2 ^ m) / 2 ^ i % 2=fQ x (if n<=i then ag (i - n)else ak)
  rw[nP (Bn.shlbit m x n i hi)]
  by_cases g:n<=i
  ·rw[if_pos g];simp[g,fQ,Bn.mQ]
  ·rw[if_neg g];simp[g,fQ]
 ·show(x / 2 ^ n) / 2 ^ i % 2=fQ x (if i+n<m then ag (i+n)else ak)
  rw[nP (Bn.shrbit m x n i hx)]
  by_cases g:i+n<m
  ·rw[if_pos g];simp[g,fQ,Bn.mQ]
  ·rw[if_neg g];simp[g,fQ]
 ·show(if 2 ^ (m - 1)<=x then(x+2 ^ m*(2 ^ n - 1)) / 2 ^ n else x / 2 ^ n) / 2 ^ i % 2=x / 2 ^ (min (i+n) (m - 1)) % 2
  have hb:(if 2 ^ (m - 1)<=x then(x+2 ^ m*(2 ^ n - 1)) / 2 ^ n else x / 2 ^ n).testBit i=x.testBit (min (i+n) (m - 1)):=by
   obtain⟨q,rfl⟩:∃q,m=q+1:=⟨m - 1,by omega⟩;have hh:=high_bit hx;rw[←Bn.mQ]at hh;rw[show q+1 - 1=q from rfl]at*
   by_cases g:2 ^ q<=x
   ·rw[if_pos g]at hh ⊢;exact Bn.sarbit (q+1) x n i hx (by revert hh;show(x.testBit q).toNat=1->x.testBit q=af;cases x.testBit q <;> simp) (by omega) hi
   ·rw[if_neg g]at hh ⊢;rw[Bn.shrbit (q+1) x n i hx]
    have hz:x.testBit q=ac:=by revert hh;cases x.testBit q <;> simp
    by_cases g2:i+n<q+1
    ·rw[di (by omega)];simp[g2]
    ·rw[iz (by omega),hz];simp[g2]
  rw[nP hb,Bn.mQ]
 ·show((x*2 ^ n ||| x / 2 ^ (m - n)) % 2 ^ m) / 2 ^ i % 2=x / 2 ^ ((i+(m - n)) % m) % 2
  rw[nP (Bn.rolbit m x n i hx hn hi),Bn.mQ]
 ·show((x*2 ^ ((m - n) % m) ||| x / 2 ^ (m - (m - n) % m)) % 2 ^ m) / 2 ^ i % 2=x / 2 ^ ((i+n) % m) % 2
  have hk:(m - n) % m<m:=ij _ (by omega)
  have er:(i+(m - (m - n) % m)) % m=(i+n) % m:=by
   by_cases h0:n=0
   ·subst h0;simp
   ·rw[fp (show m - n<m by omega),show m - (m - n)=n from by omega]
  rw[nP (Bn.rolbit m x _ i hx hk hi),er,Bn.mQ]
end Go.Proofs.YtfigjpehecibeaaGreat.C
namespace Go.Proofs.YtfigjpehecibeaaGreat.L
open Go.RowKit Bm C Go.Proofs.YtfigjpehecibeaaGreatW.PrintWords Go.Proofs.YtfigjpehecibeaaGreatW.PrintLast Go.Proofs.YtfigjpehecibeaaGreatW.PrintMore Go.Proofs.YtfigjpehecibeaaGreat.Gr
section
attribute [local go_sem] G.cell
theorem two_b {v b:Nat}(hv:2*v+b<2 ^ 64):IntKind.u64.wrap (IntKind.u64.wrap (2*(v:Int))+(b:Int))=((2*v+b:Nat):Int):=by
 rw[p64]at hv;rw[qN,qN];omega
theorem jM {a b:Int}(h:a=b):bh .u64 a=bh .u64 b:=by rw[h]
theorem one_b {v q:Nat}(h:2*v+0=q/\2*v+0<2 ^ 64):IntKind.u64.wrap (2*(v:Int))=(q:Int):=by
 have h2:=h.2;rw[p64]at h2;rw[qN];omega
theorem refMoved_calls (op:Int)(m x n:Nat)(h1:1<=m)(h2:m<=64)(hx:x<2 ^ m)(hn:n<m)(ho:op=25\/op=26\/op=27\/op=28\/op=29)(W:World):
 Calls au 280 #[.int .i64 op,.int .i64 (m:Int),.int .u64 (x:Int),.int .i64 (n:Int)] W fun e W'=>e=.returned (.int .u64 (movn op m x n:Int))/\Below W.heap.size W W':=by
 obtain⟨N,hN⟩:∃N,N=movn op m x n:=⟨_,rfl⟩;have hNl:N<2 ^ m:=hN ▸ movn_lt hx;have hb:∀i,i<m->N / 2 ^ i % 2=fQ x (src op m n i):=fun i hi=>hN ▸ movn_src h1 hx hn hi ho;rw[←hN];have H:=aa (aj hNl (aj hb (aj h1 h2)))
 have m65:(m:Int)<65:=by omega
 have m0:(0:Int)<(m:Int):=by omega
 have nm:(n:Int)<(m:Int):=by omega
 clear hNl hb hN hx h1 h2 hn
 rcases ho with rfl | rfl | rfl | rfl | rfl
 ·go_enter Tryz.func280,Tryz.ntmps280;go_wp2_with fail
  go_loopw [9,10] (fun v i W'=>∃(j V:Nat),V=N / 2 ^ j/\v=.int .u64 (V:Int)/\i=.int .i64 ((j:Int) - 1)/\j<=m/\Aside0 (Below W.heap.size W W')) (fun _ i _=>(intOf i+1).toNat)
  case atStart=>exact⟨m,0,by rw[Nat.div_eq_of_lt H.out.1],rfl,by first | rfl | simp,aq _,⟨ar _ _⟩⟩
  case round=>
   obtain⟨j,V,hV,rfl,rfl,hj,HB⟩:=hrel
   cases j with
   |zero=>
    have hV0:V=N:=by rw[hV];simp
    subst hV0;clear hV;go_wp2_with fail;go_ret;exact⟨rfl,HB.out⟩
   |succ i=>
    have hi:i<m:=by omega
    have HV:=aa (show 2*V+fQ x (src 25 m n i)=N / 2 ^ i/\2*V+fQ x (src 25 m n i)<2 ^ 64 from by
     rw[←H.out.2.1 i hi,hV,Bn.half]
     exact⟨rfl,gh (jh _ _) (lt64 H.out.2.2.2 H.out.1)⟩)
    clear hV
    have g2:(i:Int)<(m:Int):=by omega
    have e1:((i+1:Nat):Int) - 1=(i:Int):=by omega
    rw[e1];clear e1
    by_cases g:n<=i
    ·have g1:(n:Int)<=(i:Int):=by omega
     have hs:src 25 m n i=ag (i - n):=by unfold src;rw[if_pos rfl,if_pos g]
     have HS:=aa hs;have HA:=aa (show i - n<=64 from by have:=H.out;omega);clear hs;go_wp2_with fail;refine(bit_v x (m:=i - n) (by omega) HA.out wr).mono ?_;rintro _ w9 ⟨rfl,hb9⟩;rw[show x / 2 ^ (i - n) % 2=fQ x (src 25 m n i) from by rw[HS.out];rfl];have HE:=aa (HB.out.trans (hb9.mono HB.out.size));clear hb9;generalize fQ x (src 25 m n i)=b at HV ⊢;go_wp2_with fail;exact⟨⟨i,_,rfl,jM (by rw[two_b HV.out.2,HV.out.1]),rfl,by omega,HE⟩,by first | (simp[intOf];done) | (simp[intOf];omega)⟩
    ·have g1:(i:Int)<(n:Int):=by omega
     have hs:src 25 m n i=ak:=by unfold src;rw[if_pos rfl,if_neg g]
     have HS:=aa hs;clear hs;go_wp2_with fail;exact⟨⟨i,_,rfl,jM (by have h:=HV.out;rw[HS.out]at h;exact one_b h),rfl,by omega,HB⟩,by first | (simp[intOf];done) | (simp[intOf];omega)⟩
 ·go_enter Tryz.func280,Tryz.ntmps280;go_wp2_with fail
  go_loopw [9,10] (fun v i W'=>∃(j V:Nat),V=N / 2 ^ j/\v=.int .u64 (V:Int)/\i=.int .i64 ((j:Int) - 1)/\j<=m/\Aside0 (Below W.heap.size W W')) (fun _ i _=>(intOf i+1).toNat)
  case atStart=>exact⟨m,0,by rw[Nat.div_eq_of_lt H.out.1],rfl,by first | rfl | simp,aq _,⟨ar _ _⟩⟩
  case round=>
   obtain⟨j,V,hV,rfl,rfl,hj,HB⟩:=hrel
   cases j with
   |zero=>
    have hV0:V=N:=by rw[hV];simp
    subst hV0;clear hV;go_wp2_with fail;go_ret;exact⟨rfl,HB.out⟩
   |succ i=>
    have hi:i<m:=by omega
    have HV:=aa (show 2*V+fQ x (src 26 m n i)=N / 2 ^ i/\2*V+fQ x (src 26 m n i)<2 ^ 64 from by
     rw[←H.out.2.1 i hi,hV,Bn.half]
     exact⟨rfl,gh (jh _ _) (lt64 H.out.2.2.2 H.out.1)⟩)
    clear hV
    have g2:(i:Int)<(m:Int):=by omega
    have e1:((i+1:Nat):Int) - 1=(i:Int):=by omega
    rw[e1];clear e1
    by_cases g:i+n<m
    ·have g1:(i:Int)+(n:Int)<(m:Int):=by omega
     have hs:src 26 m n i=ag (i+n):=by unfold src;rw[if_neg (by decide),if_pos rfl,if_pos g]
     have HS:=aa hs;have HA:=aa (show i+n<=64 from by have:=H.out;omega);clear hs;go_wp2_with fail;refine(bit_v x (m:=i+n) (by omega) HA.out wr).mono ?_;rintro _ w9 ⟨rfl,hb9⟩;rw[show x / 2 ^ (i+n) % 2=fQ x (src 26 m n i) from by rw[HS.out];rfl];have HE:=aa (HB.out.trans (hb9.mono HB.out.size));clear hb9;generalize fQ x (src 26 m n i)=b at HV ⊢;go_wp2_with fail;exact⟨⟨i,_,rfl,jM (by rw[two_b HV.out.2,HV.out.1]),rfl,by omega,HE⟩,by first | (simp[intOf];done) | (simp[intOf];omega)⟩
    ·have g1:(m:Int)<=(i:Int)+(n:Int):=by omega
     have hs:src 26 m n i=ak:=by unfold src;rw[if_neg (by decide),if_pos rfl,if_neg g]
     have HS:=aa hs;clear hs;go_wp2_with fail;exact⟨⟨i,_,rfl,jM (by have h:=HV.out;rw[HS.out]at h;exact one_b h),rfl,by omega,HB⟩,by first | (simp[intOf];done) | (simp[intOf];omega)⟩
 ·go_enter Tryz.func280,Tryz.ntmps280;go_wp2_with fail
  go_loopw [9,10] (fun v i W'=>∃(j V:Nat),V=N / 2 ^ j/\v=.int .u64 (V:Int)/\i=.int .i64 ((j:Int) - 1)/\j<=m/\Aside0 (Below W.heap.size W W')) (fun _ i _=>(intOf i+1).toNat)
  case atStart=>exact⟨m,0,by rw[Nat.div_eq_of_lt H.out.1],rfl,by first | rfl | simp,aq _,⟨ar _ _⟩⟩
  case round=>
   obtain⟨j,V,hV,rfl,rfl,hj,HB⟩:=hrel
   cases j with
   |zero=>
    have hV0:V=N:=by rw[hV];simp
    subst hV0;clear hV;go_wp2_with fail;go_ret;exact⟨rfl,HB.out⟩
   |succ i=>
    have hi:i<m:=by omega
    have HV:=aa (show 2*V+fQ x (src 27 m n i)=N / 2 ^ i/\2*V+fQ x (src 27 m n i)<2 ^ 64 from by
     rw[←H.out.2.1 i hi,hV,Bn.half]
     exact⟨rfl,gh (jh _ _) (lt64 H.out.2.2.2 H.out.1)⟩)
    clear hV
    have g2:(i:Int)<(m:Int):=by omega
    have e1:((i+1:Nat):Int) - 1=(i:Int):=by omega
    rw[e1];clear e1
    by_cases g:i+n<=m - 1
    ·have g1:(i:Int)+(n:Int)<=(m:Int) - 1:=by omega
     have hs:src 27 m n i=ag (i+n):=by unfold src;rw[if_neg (by decide),if_neg (by decide),if_pos rfl,di g]
     have HS:=aa hs;have HA:=aa (show i+n<=64 from by have:=H.out;omega);clear hs;go_wp2_with fail;refine(bit_v x (m:=i+n) (by omega) HA.out wr).mono ?_;rintro _ w9 ⟨rfl,hb9⟩;rw[show x / 2 ^ (i+n) % 2=fQ x (src 27 m n i) from by rw[HS.out];rfl];have HE:=aa (HB.out.trans (hb9.mono HB.out.size));clear hb9;generalize fQ x (src 27 m n i)=b at HV ⊢;go_wp2_with fail;exact⟨⟨i,_,rfl,jM (by rw[two_b HV.out.2,HV.out.1]),rfl,by omega,HE⟩,by first | (simp[intOf];done) | (simp[intOf];omega)⟩
    ·have g1:(m:Int) - 1<(i:Int)+(n:Int):=by omega
     have hs:src 27 m n i=ag (m - 1):=by unfold src;rw[if_neg (by decide),if_neg (by decide),if_pos rfl,iz (by omega)]
     have HS:=aa hs;have HA:=aa (show m - 1<=64 from by have:=H.out;omega);clear hs;go_wp2_with fail;refine(bit_v x (m:=m - 1) (by omega) HA.out wr).mono ?_;rintro _ w9 ⟨rfl,hb9⟩;rw[show x / 2 ^ (m - 1) % 2=fQ x (src 27 m n i) from by rw[HS.out];rfl];have HE:=aa (HB.out.trans (hb9.mono HB.out.size));clear hb9;generalize fQ x (src 27 m n i)=b at HV ⊢;go_wp2_with fail;exact⟨⟨i,_,rfl,jM (by rw[two_b HV.out.2,HV.out.1]),rfl,by omega,HE⟩,by first | (simp[intOf];done) | (simp[intOf];omega)⟩
 ·go_enter Tryz.func280,Tryz.ntmps280;go_wp2_with fail
  go_loopw [9,10] (fun v i W'=>∃(j V:Nat),V=N / 2 ^ j/\v=.int .u64 (V:Int)/\i=.int .i64 ((j:Int) - 1)/\j<=m/\Aside0 (Below W.heap.size W W')) (fun _ i _=>(intOf i+1).toNat)
  case atStart=>exact⟨m,0,by rw[Nat.div_eq_of_lt H.out.1],rfl,by first | rfl | simp,aq _,⟨ar _ _⟩⟩
  case round=>
   obtain⟨j,V,hV,rfl,rfl,hj,HB⟩:=hrel
   cases j with
   |zero=>
    have hV0:V=N:=by rw[hV];simp
    subst hV0;clear hV;go_wp2_with fail;go_ret;exact⟨rfl,HB.out⟩
   |succ i=>
    have hi:i<m:=by omega
    have HV:=aa (show 2*V+fQ x (src 28 m n i)=N / 2 ^ i/\2*V+fQ x (src 28 m n i)<2 ^ 64 from by
     rw[←H.out.2.1 i hi,hV,Bn.half]
     exact⟨rfl,gh (jh _ _) (lt64 H.out.2.2.2 H.out.1)⟩)
    clear hV
    have g2:(i:Int)<(m:Int):=by omega
    have e1:((i+1:Nat):Int) - 1=(i:Int):=by omega
    rw[e1];clear e1
    have hs:src 28 m n i=ag ((i+(m - n)) % m):=by unfold src;rw[if_neg (by decide),if_neg (by decide),if_neg (by decide),if_pos rfl]
    have HS:=aa hs;have HA:=aa (show(i+(m - n)) % m<=64 from by have:=H.out;have:=ij (i+(m - n)) (show 0<m by omega);omega);clear hs
    have hn0:(0:Int)<=((i:Int) - (n:Int)+(m:Int)):=by omega
    have ha:((i:Int) - (n:Int)+(m:Int)) % (m:Int)=(((i+(m - n)) % m:Nat):Int):=by rw[jp,show((i+(m - n):Nat):Int)=(i:Int) - (n:Int)+(m:Int) from by omega]
    have ha0:(0:Int)<=((i:Int) - (n:Int)+(m:Int)) % (m:Int):=by rw[ha];exact bo _
    have ha1:(0:Int)<=((i:Int) - (n:Int)) % (m:Int):=by rw[←Int.add_emod_right,ha];exact bo _
    have HX:=aa ((Int.add_emod_right ((i:Int) - (n:Int)) (m:Int)).symm.trans ha);clear ha;go_wp2_with fail;refine(bit_v x (m:=(i+(m - n)) % m) (HX.out) HA.out wr).mono ?_;rintro _ w9 ⟨rfl,hb9⟩;rw[show x / 2 ^ ((i+(m - n)) % m) % 2=fQ x (src 28 m n i) from by rw[HS.out];rfl];have HE:=aa (HB.out.trans (hb9.mono HB.out.size));clear hb9;generalize fQ x (src 28 m n i)=b at HV ⊢;go_wp2_with fail;exact⟨⟨i,_,rfl,jM (by rw[two_b HV.out.2,HV.out.1]),rfl,by omega,HE⟩,by first | (simp[intOf];done) | (simp[intOf];omega)⟩
 ·go_enter Tryz.func280,Tryz.ntmps280;go_wp2_with fail
  go_loopw [9,10] (fun v i W'=>∃(j V:Nat),V=N / 2 ^ j/\v=.int .u64 (V:Int)/\i=.int .i64 ((j:Int) - 1)/\j<=m/\Aside0 (Below W.heap.size W W')) (fun _ i _=>(intOf i+1).toNat)
  case atStart=>exact⟨m,0,by rw[Nat.div_eq_of_lt H.out.1],rfl,by first | rfl | simp,aq _,⟨ar _ _⟩⟩
  case round=>
   obtain⟨j,V,hV,rfl,rfl,hj,HB⟩:=hrel
   cases j with
   |zero=>
    have hV0:V=N:=by rw[hV];simp
    subst hV0;clear hV;go_wp2_with fail;go_ret;exact⟨rfl,HB.out⟩
   |succ i=>
    have hi:i<m:=by omega
    have HV:=aa (show 2*V+fQ x (src 29 m n i)=N / 2 ^ i/\2*V+fQ x (src 29 m n i)<2 ^ 64 from by
     rw[←H.out.2.1 i hi,hV,Bn.half]
     exact⟨rfl,gh (jh _ _) (lt64 H.out.2.2.2 H.out.1)⟩)
    clear hV
    have g2:(i:Int)<(m:Int):=by omega
    have e1:((i+1:Nat):Int) - 1=(i:Int):=by omega
    rw[e1];clear e1
    have hs:src 29 m n i=ag ((i+n) % m):=by unfold src;rw[if_neg (by decide),if_neg (by decide),if_neg (by decide),if_neg (by decide)]
    have HS:=aa hs;have HA:=aa (show(i+n) % m<=64 from by have:=H.out;have:=ij (i+n) (show 0<m by omega);omega);clear hs
    have hn0:(0:Int)<=((i:Int)+(n:Int)):=by omega
    have ha:((i:Int)+(n:Int)) % (m:Int)=(((i+n) % m:Nat):Int):=by rw[jp,kz]
    have ha0:(0:Int)<=((i:Int)+(n:Int)) % (m:Int):=by rw[ha];exact bo _
    have HX:=aa ha;clear ha;go_wp2_with fail;refine(bit_v x (m:=(i+n) % m) (HX.out) HA.out wr).mono ?_;rintro _ w9 ⟨rfl,hb9⟩;rw[show x / 2 ^ ((i+n) % m) % 2=fQ x (src 29 m n i) from by rw[HS.out];rfl];have HE:=aa (HB.out.trans (hb9.mono HB.out.size));clear hb9;generalize fQ x (src 29 m n i)=b at HV ⊢;go_wp2_with fail;exact⟨⟨i,_,rfl,jM (by rw[two_b HV.out.2,HV.out.1]),rfl,by omega,HE⟩,by first | (simp[intOf];done) | (simp[intOf];omega)⟩
end
theorem refMoved_v (op:Int)(m x:Nat){v:Int}{n:Nat}(hv:v=(n:Int))(h1:1<=m)(h2:m<=64)(hx:x<2 ^ m)(hn:n<m)(ho:op=25\/op=26\/op=27\/op=28\/op=29)(W:World):
 Calls au 280 #[.int .i64 op,.int .i64 (m:Int),.int .u64 (x:Int),.int .i64 v] W fun e W'=>e=.returned (.int .u64 (movn op m x n:Int))/\Below W.heap.size W W':=hv ▸ refMoved_calls op m x n h1 h2 hx hn ho W
theorem refBin_calls (op:Int)(m x y:Nat)(hm:dP m)(o1:17<=op)(o2:op<=29)(hx:x<2 ^ 64)(hy:y<2 ^ 64)(W:World):
 Calls au 239 #[.int .i64 op,.int .i64 (m:Int),.int .u64 (x:Int),.int .u64 (y:Int)] W fun e W'=>e=.returned (.tuple #[.int .u64 (binn op (m:Int) x y).1,.int .i64 0])/\Below W.heap.size W W':=by
 have hval:(binn op (m:Int) x y).1=if 25<=op then(movn op m (x % 2 ^ m) (y % 2 ^ m % m):Int)else(opn op m (x % 2 ^ m) (y % 2 ^ m):Int):=by
  split
  ·exact bin_shift hm (by omega) o2
  ·exact bin_plain hm o1 (by omega)
 rw[hval];clear hval;have HW:=aa (aj hm hm.le);have HB:=aa (aj hx hy);have HA:=aa (show trn (m:Int) x<2 ^ m/\trn (m:Int) y<2 ^ m/\trn (m:Int) x=x % 2 ^ m/\trn (m:Int) y=y % 2 ^ m from⟨sQ rfl hm.le.1 hm.le.2 hx,sQ rfl hm.le.1 hm.le.2 hy,gC rfl hm.le.1 hm.le.2 hx,gC rfl hm.le.1 hm.le.2 hy⟩);have hwm:IntKind.u64.wrap (m:Int)=(m:Int):=kC (by omega) (by have:=hm.le;omega)
 have hm0:¬(m:Int)=0:=by have:=hm.le;omega
 clear hx hy hm;rw[←HA.out.2.2.1,←HA.out.2.2.2];obtain⟨a,ha⟩:∃a,a=trn (m:Int) x:=⟨_,rfl⟩;obtain⟨b,hb⟩:∃b,b=trn (m:Int) y:=⟨_,rfl⟩;rw[←ha,←hb]at HA ⊢;have HC:=aa (aj ha hb);clear ha hb;have V:=aa (opn_val (op:=op) HW.out.2.1 HW.out.2.2 HA.out.1 HA.out.2.1)
 rcases dh op 25 with o3 | o3
 ·rw[if_neg (by omega)]
  have hop:op=17\/op=18\/op=19\/op=20\/op=21\/op=22\/op=23\/op=24:=by omega
  clear o1 o2 o3 hwm hm0
  rcases hop with rfl | rfl | rfl | rfl | rfl | rfl | rfl | rfl
  all_goals(
   go_enter Tryz.func239,Tryz.ntmps239;refine bE ?_;intro gg;go_wp2_with fail;refine(aD (g:=gg) (d5 m (by have:=HW.out.2;omega) (by have:=HW.out.2;omega) gg.W)).mono ?_;rintro _ _ ⟨rfl,gg,rfl⟩;go_wp2_with fail;refine(aD (g:=gg) (eF m (by have:=HW.out.2;omega) rfl HB.out.1 gg.W)).mono ?_;rintro _ _ ⟨rfl,gg,rfl⟩;rw[←HC.out.1];go_wp2_with fail;refine(aD (g:=gg) (eF m (by have:=HW.out.2;omega) rfl HB.out.2 gg.W)).mono ?_;rintro _ _ ⟨rfl,gg,rfl⟩
   rw[←HC.out.2])
  ·obtain⟨N,n1,n2,n3,n4⟩:=V.out.1;have HN:=aa n4;clear n4 n3;go_wp2_with fail;go_ret2;rw[HN.out];exact⟨rfl,gg.below⟩
  ·obtain⟨N,n1,n2,n3,n4⟩:=V.out.2.1;have HN:=aa n4;clear n4 n3;go_wp2_with fail;go_ret2;rw[HN.out];exact⟨rfl,gg.below⟩
  ·obtain⟨N,n1,n2,n3,n4⟩:=V.out.2.2.1;have HN:=aa n4;clear n4 n3;go_wp2_with fail;go_ret2;rw[HN.out];exact⟨rfl,gg.below⟩
  ·obtain⟨N,n1,n2,n3⟩:=V.out.2.2.2.1;go_wp2_with fail;refine(aD (g:=gg) (eF m (by have:=HW.out.2;omega) rfl n1 gg.W)).mono ?_;rintro _ _ ⟨rfl,gg,rfl⟩;rw[n3];go_wp2_with fail;go_ret2;exact⟨rfl,gg.below⟩
  ·obtain⟨N,n1,n2,n3⟩:=V.out.2.2.2.2.1;go_wp2_with fail;refine(aD (g:=gg) (eF m (by have:=HW.out.2;omega) rfl n1 gg.W)).mono ?_;rintro _ _ ⟨rfl,gg,rfl⟩;rw[n3];go_wp2_with fail;go_ret2;exact⟨rfl,gg.below⟩
  ·obtain⟨N,n1,n2,n3⟩:=V.out.2.2.2.2.2;go_wp2_with fail;refine(aD (g:=gg) (eF m (by have:=HW.out.2;omega) rfl n1 gg.W)).mono ?_;rintro _ _ ⟨rfl,gg,rfl⟩;rw[n3];go_wp2_with fail;go_ret2;exact⟨rfl,gg.below⟩
  ·rcases cq b with hz | hz
   ·have ho:trn (m:Int) (2 ^ 64 - 1)=opn 23 m a b:=by
     rw[gC rfl HW.out.2.1 HW.out.2.2 (by decide),ones_mod HW.out.2.2,hz];rfl
    have HZ:=aa hz
    have hz:(b:Int)=0:=by omega
    go_wp2_with fail;refine(aD (g:=gg) (eF m (by have:=HW.out.2;omega) (x:=2 ^ 64 - 1) (by decide) (by decide) gg.W)).mono ?_;rintro _ _ ⟨rfl,gg,rfl⟩;rw[ho];go_wp2_with fail;go_ret2;refine⟨?_,gg.below⟩;rw[HZ.out];rfl
   ·have hb0:¬b=0:=by omega
    have D:=aa (div_val HW.out.2.1 HW.out.2.2 HA.out.1 hb0);have HO:=aa (show((a / b:Nat):Int)=(opn 23 m a b:Int) from by unfold opn;simp[hb0])
    have hz:¬(b:Int)=0:=by omega
    clear hb0;go_wp2_with fail;go_ret2;refine⟨?_,gg.below⟩;rw[←HO.out,←D.out.1.2.2,Int.natCast_ediv];rfl
  ·rcases cq b with hz | hz
   ·have HZ:=aa hz
    have hz:(b:Int)=0:=by omega
    go_wp2_with fail;go_ret2;refine⟨?_,gg.below⟩;rw[HZ.out];rfl
   ·have hb0:¬b=0:=by omega
    have HO:=aa (show((a % b:Nat):Int)=(opn 24 m a b:Int) from by unfold opn;simp[hb0])
    have hz:¬(b:Int)=0:=by omega
    clear hb0;go_wp2_with fail;go_ret2;refine⟨?_,gg.below⟩;rw[←HO.out,jp];rfl
 ·rw[if_pos o3]
  have hop:op=25\/op=26\/op=27\/op=28\/op=29:=by omega
  clear o1 o2 o3 V
  rcases hop with rfl | rfl | rfl | rfl | rfl
  all_goals(
   go_enter Tryz.func239,Tryz.ntmps239;refine bE ?_;intro gg;go_wp2_with fail;refine(aD (g:=gg) (d5 m (by have:=HW.out.2;omega) (by have:=HW.out.2;omega) gg.W)).mono ?_;rintro _ _ ⟨rfl,gg,rfl⟩;go_wp2_with fail;refine(aD (g:=gg) (rJ m HW.out.1 gg.W)).mono ?_;rintro _ _ ⟨rfl,gg,rfl⟩;go_wp2_with fail;refine(aD (g:=gg) (eF m (by have:=HW.out.2;omega) rfl HB.out.1 gg.W)).mono ?_;rintro _ _ ⟨rfl,gg,rfl⟩;rw[←HC.out.1];go_wp2_with fail;refine(aD (g:=gg) (eF m (by have:=HW.out.2;omega) rfl HB.out.2 gg.W)).mono ?_;rintro _ _ ⟨rfl,gg,rfl⟩;rw[←HC.out.2];go_wp2_with fail
   have hb2:(b:Int) % (m:Int)=((b % m:Nat):Int):=by rw[jp]
   have hlt:b % m<m:=ij _ (by have:=HW.out.2;omega);refine(aD (g:=gg) (refMoved_v _ m a (n:=b % m) (by rw[hb2,w64];have:=HW.out.2;omega) HW.out.2.1 HW.out.2.2 HA.out.1 hlt (by omega) gg.W)).mono ?_;rintro _ _ ⟨rfl,gg,rfl⟩;clear hb2 hlt;go_wp2_with fail;go_ret2
   exact⟨rfl,gg.below⟩)
end Go.Proofs.YtfigjpehecibeaaGreat.L
