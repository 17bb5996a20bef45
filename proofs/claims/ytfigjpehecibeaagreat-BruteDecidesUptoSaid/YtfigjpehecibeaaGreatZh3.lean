/- Texts joined by a program of mine: Wk Wp Wn Wq Wv10 Wv11 Wv12 Wv13 Wv14 Wv15 Wh Wd Wg Wx. -/
import Derived.Test.YtfigjpehecibeaaGreatZh2
set_option maxRecDepth 100000
open And renaming intro -> aj
open Bool renaming false_and -> jk, false_eq_true -> kn, false -> ac, true -> af, and_eq_true -> cb, true_and -> ku
open ByteArray renaming empty -> gi
open Decidable renaming em -> gy
open Go.Act renaming put -> ay
open Go.Ending renaming returned -> gj
open Go.IntKind renaming bits -> jf, signed -> js
open Go.Proofs.Tryz renaming prog -> au, underlying125 -> fz
open Go.Proofs.YtfigjpehecibeaaGreatW.PrintWords.Aside0 renaming mk -> aa
open Go.RowKit.Below renaming refl -> ar
open Go.Value renaming int -> bh
open Go.World renaming block_lt_of_cell? -> av
open Int renaming eq_ofNat_of_zero_le -> ew, toNat_natCast -> ax, natCast_nonneg -> bo, lt_or_le -> dh
open List renaming getElem_of_mem -> gr, getD_eq_getElem?_getD -> aw, getElem?_eq_getElem -> az, getElem_mem -> gn, setIfInBounds_toArray -> ae, set_cons_zero -> ah, set_cons_succ -> ai, map_toArray -> cd, map_cons -> cg, map_nil -> db, all_eq_true -> fw, map_append -> ef, take_length -> eu, mem_cons -> iv, mem_append -> fk, length_append -> ba, length_singleton -> bq, append_assoc -> dr
open Nat renaming le_refl -> aq, le_trans -> bi, lt_of_lt_of_le -> br, not_lt_zero -> da, lt_or_ge -> gu, zero_le -> bk, mul_one -> ib, add_zero -> gm
open Option renaming none -> ak, some -> ag
open Or renaming inl -> bc
open SizeOf renaming sizeOf -> cz
set_option linter.unusedVariables false
set_option linter.unusedSimpArgs false
set_option maxHeartbeats 8000000
namespace Go.Proofs.YtfigjpehecibeaaGreat.L
open Go.RowKit Go.Proofs.YtfigjpehecibeaaGreatW.PrintWords Go.Proofs.YtfigjpehecibeaaGreatW.PrintLast Go.Proofs.YtfigjpehecibeaaGreatW.PrintMore Go.Proofs.YtfigjpehecibeaaGreat.Gr
def lent {α:Type}(W0:World)(d:Kd α):Kd α where
 sz:=d.sz
 E:=[]
 K:=fun _ x cs=>d.K W0 x cs
 M:=fun _ _ _ x cs=>d.K W0 x cs
 K_len:=d.K_len
 K_one:=d.K_one
 K_below:=fun _ h=>h
 K_of_M:=fun h=>h
 M_mono:=fun _ h=>h
 M_bound:=fun h=>h
 M_move:=fun _ h=>h
 M_lower:=fun _ h=>h
structure TV where
 is:Int
 d:Int
 s:S119
 e:S116
 deep:Int
 loops:List ByteArray
def kTh (W0:World):Kd TV:=Kd.iso (Kd.pair (Kd.int .i64) (Kd.pair (Kd.int .i64) (Kd.pair (lent W0 dN) (Kd.pair (lent W0 dC) (Kd.pair (Kd.int .i64) (Kd.slice 9 Kd.string)))))) (fun x:TV=>(x.is,x.d,x.s,x.e,x.deep,x.loops))
def aZ:Th->TV
 | .decl i=>⟨0,i,z119,z116,0,[]⟩
 | .stmt s d lo=>⟨1,0,s,z116,d,lo⟩
 | .expr e lo=>⟨2,0,z119,e,gH e,lo⟩
theorem kTh_open {W0 w:World}{x:TV}{cs:List Value}(h:(kTh W0).K w x cs):∃A5 c5 A9 c9 A12 c12 A13 c13 A19 c19 A21 c21,
 cs=[.int .i64 x.is,.int .i64 x.d,.int .i64 x.s.f0,.string x.s.f1,.int .i64 x.s.f2.f0,.int .u64 x.s.f2.f1,.string x.s.f2.f2,.slice A5 x.s.f2.f3.length c5,.int .i64 x.s.f3.f0,.int .u64 x.s.f3.f1,.string x.s.f3.f2,.slice A9 x.s.f3.f3.length c9,.int .u64 x.s.f4,.int .u64 x.s.f5,.slice A12 x.s.f6.length c12,.slice A13 x.s.f7.length c13,
  .int .i64 x.e.f0,.int .u64 x.e.f1,.string x.e.f2,.slice A19 x.e.f3.length c19,.int .i64 x.deep,.slice A21 x.loops.length c21]/\
 x.s.f2.f3.length<=c5/\dC.C W0 A5 x.s.f2.f3.length x.s.f2.f3/\x.s.f3.f3.length<=c9/\dC.C W0 A9 x.s.f3.f3.length x.s.f3.f3/\x.s.f6.length<=c12/\dN.C W0 A12 x.s.f6.length x.s.f6/\x.s.f7.length<=c13/\dN.C W0 A13 x.s.f7.length x.s.f7/\
 x.e.f3.length<=c19/\dC.C W0 A19 x.e.f3.length x.e.f3/\x.loops.length<=c21/\Kd.string.C w A21 x.loops.length x.loops:=by
 obtain⟨_,_,rfl,rfl,⟨_,_,rfl,rfl,⟨_,_,rfl,s2,⟨_,_,rfl,s3,⟨_,_,rfl,rfl,⟨A21,c21,rfl,l21,g21⟩⟩⟩⟩⟩⟩:=h;obtain⟨A5,c5,A9,c9,A12,c12,A13,c13,hs,l5,g5,l9,g9,l12,g12,l13,g13⟩:=k119_open (show dN.K W0 x.s _ from s2);obtain⟨A19,c19,he,l19,g19⟩:=j8 (show dC.K W0 x.e _ from s3);subst hs he;exact⟨A5,c5,A9,c9,A12,c12,A13,c13,A19,c19,A21,c21,rfl,l5,g5,l9,g9,l12,g12,l13,g13,l19,g19,l21,g21⟩
theorem C_nil {α:Type}(d:Kd α)(W:World):d.C W ak 0 []:=by
 obtain⟨A,c,e,l,g⟩:=Kd.cO (Kd.iG d 75 W 0 (fun _=>True));cases e;exact g
theorem kK (W:World):dC.K W z116 [.int .i64 0,.int .u64 0,.string ⟨#[]⟩,.slice ak 0 0]:=sK W z116 (A3:=ak) (c3:=0) (aq _) (C_nil dC W)
theorem k119_zero (W:World):dN.K W z119 [.int .i64 0,.string ⟨#[]⟩,.int .i64 0,.int .u64 0,.string ⟨#[]⟩,.slice ak 0 0,.int .i64 0,.int .u64 0,.string ⟨#[]⟩,.slice ak 0 0,.int .u64 0,.int .u64 0,.slice ak 0 0,.slice ak 0 0]:=
 mU W z119 (aq _) (C_nil dC W) (aq _) (C_nil dC W) (aq _) (C_nil dN W) (aq _) (C_nil dN W)
theorem qU {W0 w:World}{base:Nat}{ok:Nat->Prop}{x:TV}{cs ce:List Value}{lv:Value}(hs:dN.K W0 x.s cs)(he:dC.K W0 x.e ce)(hl:Kd.string.R 9 w base ok lv x.loops):
 (kTh W0).M w base ok x ([.int .i64 x.is,.int .i64 x.d]++cs++ce++[.int .i64 x.deep,lv]):=
 ⟨[.int .i64 x.is],[.int .i64 x.d]++cs++ce++[.int .i64 x.deep,lv],by simp,rfl,[.int .i64 x.d],cs++ce++[.int .i64 x.deep,lv],by simp,rfl,cs,ce++[.int .i64 x.deep,lv],by simp,hs,ce,[.int .i64 x.deep,lv],by simp,he,[.int .i64 x.deep],[lv],rfl,rfl,lv,rfl,hl⟩
structure Gro (W0 w w1:World)(v v1:Value):Prop where
 below:Below W0.heap.size W0 w1
 grown:w.grownBy w1 v.ownBlock
 at':v1.ownBlock=v.ownBlock\/∃b,v1.ownBlock=ag b/\w.heap.size<=b
theorem Gro.trans {W0 w w1 w2:World}{v v1 v2:Value}(h:Gro W0 w w1 v v1)(k:Gro W0 w1 w2 v1 v2):Gro W0 w w2 v v2:=by
 refine⟨k.below,⟨k.grown.os.trans h.grown.os,k.grown.tape.trans h.grown.tape,k.grown.output.trans h.grown.output,bi h.grown.size k.grown.size,fun i hi hn=> ?_⟩,?_⟩
 ·refine(k.grown.block i (br hi h.grown.size) ?_).trans (h.grown.block i hi hn)
  rcases h.at' with ha | ⟨b,hb,hle⟩
  ·rw[ha];exact hn
  ·rw[hb];intro he;injection he with he;omega
 ·rcases k.at' with ha | ⟨b,hb,hle⟩
  ·rw[ha];exact h.at'
  ·exact .inr ⟨b,hb,bi h.grown.size hle⟩
theorem Gro.of_below {W0 w w1:World}(v:Value)(hb:Below W0.heap.size W0 w)(h:Below w.heap.size w w1):Gro W0 w w1 v v:=
 ⟨hb.trans (h.mono hb.size),⟨h.os,h.tape,h.output,h.size,fun k hk _=>h.block k hk⟩,.inl rfl⟩
def Li (tT:Nat)(W0 w:World)(v:Value)(xs:List Th):Prop:=(kTh W0).R tT w W0.heap.size (fun _=>True) v (xs.map aZ)
def Lo (W0 w:World)(v lv:Value)(lo:List ByteArray):Prop:=Kd.string.R 9 w W0.heap.size (fun k=>ag k≠v.ownBlock) lv lo
theorem Li.below {tT:Nat}{W0 w w1:World}{v:Value}{xs:List Th}(h:Li tT W0 w v xs)(hb:Below w.heap.size w w1):Li tT W0 w1 v xs:=Kd.bF h hb
theorem Lo.step {W0 w w1:World}{v v1 lv:Value}{lo:List ByteArray}(h:Lo W0 w v lv lo)(hg:Gro W0 w w1 v v1):Lo W0 w1 v1 lv lo:=by
 have h1:=Kd.d7 h;have h2:=Kd.lQ h1 hg.grown (fun k hk=>hk.1);refine Kd.dW h2 fun k hk=> ?_
 rcases hg.at' with ha | ⟨b,hb,hle⟩
 ·rw[ha];exact hk.1
 ·rw[hb];intro he;injection he with he;have:=hk.2.2.1;omega
theorem Lo.nil (W0 w:World)(v:Value):Lo W0 w v (.slice ak 0 0) []:=Kd.iG _ _ _ _ _
theorem power_eq (n:Int):cadenceref16_power.f 10 n=ag (dJ n):=by
 unfold cadenceref16_power.f dJ
 by_cases h1:n=1
 ·subst h1;rfl
 by_cases h2:n=2
 ·subst h2;rfl
 by_cases h4:n=4
 ·subst h4;rfl
 by_cases h8:n=8
 ·subst h8;rfl
 by_cases h16:n=16
 ·subst h16;rfl
 by_cases h32:n=32
 ·subst h32;rfl
 by_cases h64:n=64
 ·subst h64;rfl
 by_cases h128:n=128
 ·subst h128;rfl
 by_cases h256:n=256
 ·subst h256;rfl
 have e:∀z:Int,0<=z->z<1000->IntKind.u64.wrap (2*z)=2*z:=by
  intro z h0 h1;simp only[IntKind.wrap,jf,js,jk,kn,if_false];omega
 have st:∀(k:Nat) (z:Int),¬n=z->0<=z->z<=256->cadenceref16_power.l0 (k+1) n z=cadenceref16_power.l0 k n (2*z):=by
  intro k z hn h0 h1;rw[cadenceref16_power.l0,if_pos h1,if_neg hn,e z h0 (by omega)]
 rw[st 9 1 h1 (by decide) (by decide),show(2:Int)*1=2 from rfl,st 8 2 h2 (by decide) (by decide),show(2:Int)*2=4 from rfl,st 7 4 h4 (by decide) (by decide),show(2:Int)*4=8 from rfl,
  st 6 8 h8 (by decide) (by decide),show(2:Int)*8=16 from rfl,st 5 16 h16 (by decide) (by decide),show(2:Int)*16=32 from rfl,st 4 32 h32 (by decide) (by decide),show(2:Int)*32=64 from rfl,
  st 3 64 h64 (by decide) (by decide),show(2:Int)*64=128 from rfl,st 2 128 h128 (by decide) (by decide),show(2:Int)*128=256 from rfl,st 1 256 h256 (by decide) (by decide),show(2:Int)*256=512 from rfl]
 rw[cadenceref16_power.l0,if_neg (by decide)];simp[h1,h2,h4,h8,h16,h32,h64,h128,h256]
theorem fits_eq (w x:Int)(h0:0<=w)(hx:0<=x):cadenceref16_fits.f w x=ag (gP w x):=by
 unfold cadenceref16_fits.f gP
 by_cases h:w ≥ 64
 ·rw[if_pos h,decide_eq_true h];rfl
 ·rw[if_neg h,decide_eq_false h]
  have e:IntKind.u64.wrap w=w:=by
   simp only[IntKind.wrap,jf,js,jk,kn,if_false];omega
  rw[e,if_pos h0]
  congr 1
  rw[Bool.false_or]
  congr 1
  have hw:w<64:=by omega
  obtain⟨n,rfl⟩:=ew h0
  have hn:n<64:=by omega
  rw[show Int.toNat (n:Int)=n from rfl]
  have key:shl .u64 1 (n:Int)=2 ^ n:=by
   clear e h h0 hw
   revert n
   decide
  rw[key]
theorem in_eq:∀(d k i:Nat) (l:List ByteArray) (s:ByteArray),i+d=l.length->d<k->l.length<=9223372036854775807->(∀j,j<i->eqS (rdOf gi l (j:Int)) s=ac)->cadenceref16_in.l0 k l s (i:Int)=ag (iL l s):=by
 intro d
 induction d with
 |zero=>
  intro k i l s hi hk hl hn;obtain⟨k,rfl⟩:∃k',k=k'+1:=⟨k - 1,by omega⟩;rw[cadenceref16_in.l0,if_neg (by omega)]
  congr 1
  symm
  unfold iL;rw[List.any_eq_false];intro y hy;obtain⟨j,hj,rfl⟩:=gr hy;have:=hn j (by omega);unfold rdOf at this;rw[ax,aw,az hj]at this
  simpa using this
 |succ d ih=>
  intro k i l s hi hk hl hn;obtain⟨k,rfl⟩:∃k',k=k'+1:=⟨k - 1,by omega⟩;rw[cadenceref16_in.l0,if_pos (by omega),if_pos (by omega)]
  by_cases h:(rdOf gi l (i:Int)).toList=s.toList
  ·rw[if_pos h]
   congr 1
   symm
   unfold iL;rw[List.any_eq_true]
   have hj:i<l.length:=by omega
   refine⟨l[i],gn _,?_⟩;unfold rdOf at h;rw[ax,aw,az hj]at h;exact decide_eq_true h
  ·rw[if_neg h,show wrap64 ((i:Int)+1)=((i+1:Nat):Int) by unfold wrap64;omega];refine ih k (i+1) l s (by omega) (by omega) hl fun j hj=> ?_
   by_cases hji:j=i
   ·subst hji;exact decide_eq_false h
   ·exact hn j (by omega)
def fR (ds:List S70)(nm:ByteArray):Int:=match cG ds nm with
 |some i=>i
 |none=> -1
theorem Decl_eq:∀(d k i:Nat) (ds:List S70) (s a0:ByteArray) (a1 a2:Int) (bd:List S119),i+d=ds.length->d<k->ds.length<=9223372036854775807->(∀j,j<i->eqS (aI ds (j:Int)).f1 s=ac)->cadenceref16_Decl.l0 k s (i:Int) a0 a1 a2 ds bd=ag (fR ds s):=by
 intro d
 induction d with
 |zero=>
  intro k i ds s a0 a1 a2 bd hi hk hl hn;obtain⟨k,rfl⟩:∃k',k=k'+1:=⟨k - 1,by omega⟩;rw[cadenceref16_Decl.l0,if_neg (by omega)]
  congr 1
  unfold fR cG;rw[bI fun j hj=>hn j (by omega)]
 |succ d ih=>
  intro k i ds s a0 a1 a2 bd hi hk hl hn;obtain⟨k,rfl⟩:∃k',k=k'+1:=⟨k - 1,by omega⟩;rw[cadenceref16_Decl.l0,if_pos (by omega),if_pos (by omega)]
  by_cases h:(aI ds (i:Int)).f1.toList=s.toList
  ·rw[if_pos h]
   congr 1
   unfold fR cG;rw[cD (by omega) (decide_eq_true h) hn]
  ·rw[if_neg h,show wrap64 ((i:Int)+1)=((i+1:Nat):Int) by unfold wrap64;omega];refine ih k (i+1) ds s a0 a1 a2 bd (by omega) (by omega) hl fun j hj=> ?_
   by_cases hji:j=i
   ·subst hji;exact decide_eq_false h
   ·exact hn j (by omega)
section
attribute [local go_sem] G.cell
def jH (x:TV):ByteArray × Bool:=
 if x.is=2/\(x.e.f0=2\/x.e.f0=3)then(x.e.f2,af)else if x.is=1/\(x.s.f0=1\/x.s.f0=2\/x.s.f0=5)then(x.s.f1,af)else(⟨#[]⟩,ac)
theorem gR (x:TV){A5:Option Addr}{c5:Nat}{A9:Option Addr}{c9:Nat}{A12:Option Addr}{c12:Nat}{A13:Option Addr}{c13:Nat}{A19:Option Addr}{c19:Nat}{A21:Option Addr}{c21:Nat}(w:World)(hx:x.is=0\/x.is=1\/x.is=2):
 Calls au 227 #[(.agg #[.int .i64 x.is,.int .i64 x.d,.int .i64 x.s.f0,.string x.s.f1,.int .i64 x.s.f2.f0,.int .u64 x.s.f2.f1,.string x.s.f2.f2,.slice A5 x.s.f2.f3.length c5,.int .i64 x.s.f3.f0,.int .u64 x.s.f3.f1,.string x.s.f3.f2,.slice A9 x.s.f3.f3.length c9,.int .u64 x.s.f4,.int .u64 x.s.f5,.slice A12 x.s.f6.length c12,.slice A13 x.s.f7.length c13,.int .i64 x.e.f0,.int .u64 x.e.f1,.string x.e.f2,.slice A19 x.e.f3.length c19,.int .i64 x.deep,.slice A21 x.loops.length c21])] w fun e w'=>e=.returned (.tuple #[.string (jH x).1,.bool (jH x).2])/\Below w.heap.size w w':=by
 have hb:∀o:Obj,Below w.heap.size w (w.alloc o):=fun o=>(ar _ _).alloc (aq _) o
 rcases hx with h0 | h1 | h2
 ·go_enter Tryz.func227,Tryz.ntmps227;go_wp2_with fail;go_ret2;exact⟨by simp[jH,h0],hb _⟩
 ·have hk:x.s.f0=1\/x.s.f0=2\/x.s.f0=5\/(¬x.s.f0=1/\¬x.s.f0=2/\¬x.s.f0=5):=by omega
  have bf:∀{z a:Int},¬z=a->(z==a)=ac:=fun h=>by simpa using h
  rcases hk with k | k | k | ⟨k1,k2,k5⟩
  rotate_right
  ·have b1:=bf k1;have b2:=bf k2;have b5:=bf k5;go_enter Tryz.func227,Tryz.ntmps227;go_wp2_with fail;go_ret2;exact⟨by simp[jH,h1,k1,k2,k5],hb _⟩
  all_goals
   go_enter Tryz.func227,Tryz.ntmps227;go_wp2_with fail;go_ret2
  ·exact⟨by simp[jH,h1,k],hb _⟩
  ·exact⟨by simp[jH,h1,k],hb _⟩
  ·exact⟨by simp[jH,h1,k],hb _⟩
 ·have hk:x.e.f0=2\/x.e.f0=3\/(¬x.e.f0=2/\¬x.e.f0=3):=by omega
  have bf:∀{z a:Int},¬z=a->(z==a)=ac:=fun h=>by simpa using h
  rcases hk with k | k | ⟨k2,k3⟩
  rotate_right
  ·have b2:=bf k2;have b3:=bf k3;go_enter Tryz.func227,Tryz.ntmps227;go_wp2_with fail;go_ret2;exact⟨by simp[jH,h2,k2,k3],hb _⟩
  all_goals
   go_enter Tryz.func227,Tryz.ntmps227;go_wp2_with fail;go_ret2
  ·exact⟨by simp[jH,h2,k],hb _⟩
  ·exact⟨by simp[jH,h2,k],hb _⟩
end
section
attribute [local go_sem] G.cell
structure ProgAt (w:World)(ds:List S70)(bd:List S119)(A3:Option Addr)(c3:Nat)(A4:Option Addr)(c4:Nat):Prop where
 hd:k70.C w A3 ds.length ds
 hld:ds.length<=c3
 hb:dN.C w A4 bd.length bd
 hlb:bd.length<=c4
theorem ProgAt.below {w w':World}{ds:List S70}{bd:List S119}{A3:Option Addr}{c3:Nat}{A4:Option Addr}{c4:Nat}(h:ProgAt w ds bd A3 c3 A4 c4)(hb:Below w.heap.size w w'):ProgAt w' ds bd A3 c3 A4 c4:=⟨Kd.aF h.hd hb,h.hld,Kd.aF h.hb hb,h.hlb⟩
theorem aE {w W:World}{a:Addr}{v:Value}(h:Below w.heap.size w W)(q:w.cell? a=ag v):W.cell? a=ag v:=(h.cell (av w a q)).trans q
theorem mkG_ex {w w':World}(h:Below w.heap.size w w'):∃g:G w,g.W=w':=⟨⟨w',h⟩,rfl⟩
theorem in_v {l:List ByteArray}{s:ByteArray}{b:Bool}(h:iL l s=b)(A:Option Addr)(c:Nat)(w:World)(hc:Kd.string.C w A l.length l)(hl:l.length<=c):
 Calls au 131 #[.slice A l.length c,.string s] w fun e w'=>e=.returned (.bool b)/\Below w.heap.size w w':=by
 have hlm:=hc.2.1;exact(cadenceref16_in.calls (l.length+1) A c l s b w hc hl (by unfold cadenceref16_in.f;exact(in_eq l.length (l.length+1) 0 l s (by omega) (by omega) (by omega) (fun j hj=>absurd hj (da _))).trans (by rw[h]))).mono fun _ _ ⟨he,hd⟩=>⟨he,hd.below⟩
theorem pN {nm:ByteArray}{wd ln:Int}{ds:List S70}{bd:List S119}{A3:Option Addr}{c3:Nat}{A4:Option Addr}{c4:Nat}{w:World}(hp:ProgAt w ds bd A3 c3 A4 c4){s:ByteArray}{r:Int}(h:fR ds s=r):
 Calls au 225 #[(.agg #[.string nm,.int .i64 wd,.int .i64 ln,.slice A3 ds.length c3,.slice A4 bd.length c4]),.string s] w fun e w'=>e=.returned (.int .i64 r)/\Below w.heap.size w w':=by
 have hlm:=hp.hd.2.1;exact cadenceref16_Decl.calls (ds.length+1) nm wd ln A3 c3 ds A4 c4 bd s r w hp.hd hp.hld hp.hb hp.hlb (by unfold cadenceref16_Decl.f;exact(Decl_eq ds.length (ds.length+1) 0 ds s nm wd ln bd (by omega) (by omega) (by omega) (fun j hj=>absurd hj (da _))).trans (by rw[h]))
theorem fits_v {wd z:Int}{b:Bool}(h:gP wd z=b)(h0:0<=wd)(h1:0<=z)(w:World):Calls au 226 #[.int .i64 wd,.int .u64 z] w fun e w'=>e=.returned (.bool b)/\Below w.heap.size w w':=
 (cadenceref16_fits.calls wd z b w ((fits_eq wd z h0 h1).trans (by rw[h]))).mono fun _ _ ⟨he,hd⟩=>⟨he,hd.below⟩
def kindW (d:S70)(x:TV):Bool:=if x.is=2 then(if x.e.f0=2 then d.f2==0 else d.f2 != 0)else if x.s.f0=2 then d.f2 != 0&&d.f0 != 3 else d.f2==0
theorem bf {z a:Int}(h:¬z=a):(z==a)=ac:=by simpa using h
theorem kind_in (nm:ByteArray)(wd ln:Int)(ds:List S70)(bd:List S119)(A3:Option Addr)(c3:Nat)(A4:Option Addr)(c4:Nat)(x:TV){A5:Option Addr}{c5:Nat}{A9:Option Addr}{c9:Nat}{A12:Option Addr}{c12:Nat}{A13:Option Addr}{c13:Nat}{A19:Option Addr}{c19:Nat}{A21:Option Addr}{c21:Nat}(s:ByteArray)(w:World)
 (hlo:Kd.string.C w A21 x.loops.length x.loops) (hll:x.loops.length<=c21) (hh:iL x.loops s=af):
 Calls au 228 #[(.agg #[.string nm,.int .i64 wd,.int .i64 ln,.slice A3 ds.length c3,.slice A4 bd.length c4]),(.agg #[.int .i64 x.is,.int .i64 x.d,.int .i64 x.s.f0,.string x.s.f1,.int .i64 x.s.f2.f0,.int .u64 x.s.f2.f1,.string x.s.f2.f2,.slice A5 x.s.f2.f3.length c5,.int .i64 x.s.f3.f0,.int .u64 x.s.f3.f1,.string x.s.f3.f2,.slice A9 x.s.f3.f3.length c9,.int .u64 x.s.f4,.int .u64 x.s.f5,.slice A12 x.s.f6.length c12,.slice A13 x.s.f7.length c13,.int .i64 x.e.f0,.int .u64 x.e.f1,.string x.e.f2,.slice A19 x.e.f3.length c19,.int .i64 x.deep,.slice A21 x.loops.length c21]),.string s] w fun e w'=>e=.returned (.bool (x.is==2&&x.e.f0==2))/\Below w.heap.size w w':=by
 have gout:∀{o o':Obj} (g:G ((w.alloc o).alloc o')),Below w.heap.size w g.W:=fun g=>(((ar _ _).alloc (aq _) _).alloc (by simp) _).trans (g.below.mono (by simp;omega));have HLO:=aa hlo;clear hlo;go_enter Tryz.func228,Tryz.ntmps228
 go_upto_region 1 with (fail)
 refine aG ?_;intro gg;go_wp2_with fail;refine(aD (g:=gg) (in_v hh A21 c21 gg.W (Kd.aF HLO.out (gout gg)) hll)).mono ?_;rintro _ _ ⟨rfl,gg,rfl⟩
 rcases aL (x.is==2)with h1 | h1
 ·rcases aL (x.e.f0==2)with h2 | h2
  ·go_wp2_with fail;go_ret;exact⟨by rw[h1,h2];rfl,gout _⟩
  ·go_wp2_with fail;go_ret;exact⟨by rw[h1,h2];rfl,gout _⟩
 ·go_wp2_with fail;go_ret;exact⟨by rw[h1];rfl,gout _⟩
theorem kind_decl (nm:ByteArray)(wd ln:Int)(ds:List S70)(bd:List S119)(A3:Option Addr)(c3:Nat)(A4:Option Addr)(c4:Nat)(x:TV){A5:Option Addr}{c5:Nat}{A9:Option Addr}{c9:Nat}{A12:Option Addr}{c12:Nat}{A13:Option Addr}{c13:Nat}{A19:Option Addr}{c19:Nat}{A21:Option Addr}{c21:Nat}(s:ByteArray)(w:World)(hp:ProgAt w ds bd A3 c3 A4 c4)
 (hlo:Kd.string.C w A21 x.loops.length x.loops) (hll:x.loops.length<=c21) (hh:iL x.loops s=ac) (i:Nat) (hi:i<ds.length) (hfi:fR ds s=(i:Int)):
 Calls au 228 #[(.agg #[.string nm,.int .i64 wd,.int .i64 ln,.slice A3 ds.length c3,.slice A4 bd.length c4]),(.agg #[.int .i64 x.is,.int .i64 x.d,.int .i64 x.s.f0,.string x.s.f1,.int .i64 x.s.f2.f0,.int .u64 x.s.f2.f1,.string x.s.f2.f2,.slice A5 x.s.f2.f3.length c5,.int .i64 x.s.f3.f0,.int .u64 x.s.f3.f1,.string x.s.f3.f2,.slice A9 x.s.f3.f3.length c9,.int .u64 x.s.f4,.int .u64 x.s.f5,.slice A12 x.s.f6.length c12,.slice A13 x.s.f7.length c13,.int .i64 x.e.f0,.int .u64 x.e.f1,.string x.e.f2,.slice A19 x.e.f3.length c19,.int .i64 x.deep,.slice A21 x.loops.length c21]),.string s] w fun e w'=>e=.returned (.bool (kindW (aI ds (i:Int)) x))/\Below w.heap.size w w':=by
 have gout:∀{o o':Obj} (g:G ((w.alloc o).alloc o')),Below w.heap.size w g.W:=fun g=>(((ar _ _).alloc (aq _) _).alloc (by simp) _).trans (g.below.mono (by simp;omega));obtain⟨adr,A9d,c9d,e1,q0,q1,q2,q3,l9,g9⟩:=eD hp.hd (i:Int) (bo _) (by omega);have hlm:=hp.hd.2.1;cases e1;rw[ax]at q0 q1 q2 q3
 have hi1:(i:Int)<(ds.length:Int):=by omega
 have HLO:=aa hlo;have PAt:=aa hp;clear hlo hp l9 g9;go_enter Tryz.func228,Tryz.ntmps228
 go_upto_region 1 with (fail)
 refine aG ?_;intro gg;have goutW:∀(g:G (gw0 gg)),Below w.heap.size w g.W:=fun g=>gout g;go_wp2_with fail;refine(aD (g:=gg) (in_v hh A21 c21 gg.W (Kd.aF HLO.out (gout gg)) hll)).mono ?_;rintro _ _ ⟨rfl,gg,rfl⟩
 go_upto_region 3 with (fail)
 have r0:∀g':G (gw0 gg),g'.W.cell? (adr.add (i*4))=ag (.int .i64 (aI ds (i:Int)).f0):=fun g'=>aE (goutW g') q0;have r1:∀g':G (gw0 gg),g'.W.cell? ⟨(adr.add (i*4)).block,(adr.add (i*4)).off+1,ak⟩=ag (.string (aI ds (i:Int)).f1):=fun g'=>aE (goutW g') q1;have r2:∀g':G (gw0 gg),g'.W.cell? ⟨(adr.add (i*4)).block,(adr.add (i*4)).off+2,ak⟩=ag (.int .i64 (aI ds (i:Int)).f2):=fun g'=>aE (goutW g') q2;have r3:∀g':G (gw0 gg),g'.W.cell? ⟨(adr.add (i*4)).block,(adr.add (i*4)).off+3,ak⟩=ag (.slice A9d (aI ds (i:Int)).f3.length c9d):=fun g'=>aE (goutW g') q3;refine eP (n:=9) (S:=fun w'=>∃g':G _,w'=g'.W) (ds:=[]) #[ac,ac,ac,ac,ac,ac,ac,ac,ac] (by kernel_rfl) rfl rfl ⟨mkG (gg.2.drew),rfl⟩ (fun hHeld=> ?_);obtain⟨gd,hgd⟩:=hHeld;rw[hgd];clear hgd;refine aP (i:=0) (N:=ag 21) (v:= ?_) (a':= ?_) #[af,ac,ac,ac,ac,ac,ac,ac,ac] rfl rfl (by kernel_rfl) (fun _ _ _ h=>h) (bc ⟨by rfl,?_⟩) ?_ ?_;rotate_left
 ·intro w';go_simp;with_reducible rfl
 rotate_left
 ·simp only[ay,ae,ah,ai,aJ,aK];rfl
 refine aP (i:=3) (N:=ag 24) (v:= ?_) (a':= ?_) #[af,ac,ac,af,ac,ac,ac,ac,ac] rfl rfl (by kernel_rfl) (fun _ _ _ h=>h) (bc ⟨by rfl,?_⟩) ?_ ?_;rotate_left
 ·intro w';go_simp;with_reducible rfl
 rotate_left
 ·simp only[ay,ae,ah,ai,aJ,aK];rfl
 refine cY (i:=1) (N:=ag 22) (v:= ?_) (a':= ?_) #[af,af,ac,af,ac,ac,ac,ac,ac] rfl rfl (by kernel_rfl) (fun _ _ _ h=>h) (bc ⟨by rfl,?_⟩) ⟨gd,rfl⟩ ?_ ?_;rotate_left
 ·rintro w' ⟨g',rfl⟩;go_simp;with_reducible rfl
 rotate_left
 ·simp only[ay,ae,ah,ai,aJ,aK];rfl
 refine cY (i:=2) (N:=ag 23) (v:= ?_) (a':= ?_) #[af,af,af,af,ac,ac,ac,ac,ac] rfl rfl (by kernel_rfl) (fun _ _ _ h=>h) (bc ⟨by rfl,?_⟩) ⟨gd,rfl⟩ ?_ ?_;rotate_left
 ·rintro w' ⟨g',rfl⟩;go_simp;with_reducible rfl
 rotate_left
 ·simp only[ay,ae,ah,ai,aJ,aK];rfl
 refine join_ (σ:=Nat) 1 #[af,af,af,af,af,af,af,af,ac] (fun b=>[(25,.int .i64 (i:Int)),(26,.pointer (ag (adr.add (i*4)))),(27,.agg #[.int .i64 (aI ds (i:Int)).f0,.string (aI ds (i:Int)).f1,.int .i64 (aI ds (i:Int)).f2,.slice A9d (aI ds (i:Int)).f3.length c9d]),(7,.pointer (ag ⟨b,0,ak⟩))]) (fun b w'=>∃g:G (gw0 gg),w'=g.W/\g.W.heap[b]? =ag (.cells #[.int .i64 0,.string (⟨#[]⟩:ByteArray),.int .i64 0,.slice ak 0 0] 70 (0,0))/\(gw0 gg).heap.size<=b) ?_ (fun hJ=> ?_);rotate_left
 ·refine two_ (i:=4) (j:=7) (Ni:=ag 25) (Nj:=ag 7) #[af,af,af,af,af,ac,ac,ac,ac] #[af,af,af,af,ac,ac,ac,af,ac] rfl rfl rfl rfl (by kernel_rfl) (by simp) (by simp) ?_ ?_
  ·intro K hK;refine iP Tryz.func225 (by kernel_rfl) rfl #[(.agg #[.string nm,.int .i64 wd,.int .i64 ln,.slice (ag adr) ds.length c3,.slice A4 bd.length c4]),.string s] (by rfl) rfl rfl (by(try simp only[cd,cg,db]);first | done | rfl) ?_;refine(pN (PAt.out.below (goutW gd)) hfi).mono ?_;rintro _ w9 ⟨rfl,hb⟩;refine⟨_,rfl,?_⟩;obtain⟨gd,rfl⟩:∃g':G _,w9=g'.W:=⟨mkG (gd.below.trans (hb.mono gd.below.size)),rfl⟩;clear hb;refine hK.out _ _ ⟨gd,rfl⟩ (fun _=> ?_);clear hK K;refine cW (a':= ?_) ?_ ?_;rotate_left
   ·show ay _ (ag 25) _ = _
    simp only[ay,ae,ah,ai,aJ,aK];rfl
   refine aP (i:=5) (N:=ag 26) (v:= ?_) (a':= ?_) #[af,af,af,af,af,af,ac,ac,ac] rfl rfl (by kernel_rfl) (fun _ _ _ h=>h) (bc ⟨by rfl,?_⟩) ?_ ?_;rotate_left
   ·intro w';go_simp;with_reducible rfl
   rotate_left
   ·simp only[ay,ae,ah,ai,aJ,aK];rfl
   refine cY (i:=6) (N:=ag 27) (v:= ?_) (a':= ?_) #[af,af,af,af,af,af,af,ac,ac] rfl rfl (by kernel_rfl) (fun _ _ _ h=>h) (bc ⟨by rfl,?_⟩) ⟨gd,rfl⟩ ?_ ?_;rotate_left
   ·rintro w' ⟨g',rfl⟩;go_simp;with_reducible rfl
   rotate_left
   ·simp only[ay,ae,ah,ai,aJ,aK];rfl
   refine kH (i:=7) (N:=ag 7) #[af,af,af,af,af,af,af,af,ac] rfl rfl (by kernel_rfl) (by simp) (fun K hK=> ?_);refine box_step ?hg (N:=7) ?hd (cs:= #[.int .i64 0,.string (⟨#[]⟩:ByteArray),.int .i64 0,.slice ak 0 0]) (t:=70) ?hr ?_;(case hd=>rfl);(case hg=>rfl);(case hr=>first | (go_simp;done) | (go_simp;rfl));intro b7 hb7 w7 hbx hbl;have hbx:=aa hbx
   have hle:(gw0 gg).heap.size<=b7:=by rw[hb7];exact gd.below.size
   clear hb7;obtain⟨gd,rfl⟩:∃g':G _,w7=g'.W:=⟨mkG (gd.below.trans (hbl.mono gd.below.size)),rfl⟩;clear hbl;refine hK.out _ _ ⟨gd,rfl⟩ (fun _=> ?_);clear hK K;refine cW (a':= ?_) ?_ ?_;rotate_left
   ·show ay _ (ag 7) _ = _
    simp only[ay,ae,ah,ai,aJ,aK];rfl
   exact cW (by first | (simp only[i9,ay,ae,ah,ai];done) | (simp only[i9,ay,ae,ah,ai];rfl)) (hJ b7 _ ⟨_,rfl,hbx.out,hle⟩)
  ·intro K hK;refine box_step ?hg (N:=7) ?hd (cs:= #[.int .i64 0,.string (⟨#[]⟩:ByteArray),.int .i64 0,.slice ak 0 0]) (t:=70) ?hr ?_;(case hd=>rfl);(case hg=>rfl);(case hr=>first | (go_simp;done) | (go_simp;rfl));intro b7 hb7 w7 hbx hbl;have hbx:=aa hbx
   have hle:(gw0 gg).heap.size<=b7:=by rw[hb7];exact gd.below.size
   clear hb7;obtain⟨gd,rfl⟩:∃g':G _,w7=g'.W:=⟨mkG (gd.below.trans (hbl.mono gd.below.size)),rfl⟩;clear hbl;refine hK.out _ _ ⟨gd,rfl⟩ (fun _=> ?_);clear hK K;refine cW (a':= ?_) ?_ ?_;rotate_left
   ·show ay _ (ag 7) _ = _
    simp only[ay,ae,ah,ai,aJ,aK];rfl
   refine kH (i:=4) (N:=ag 25) #[af,af,af,af,af,ac,ac,af,ac] rfl rfl (by kernel_rfl) (by simp) (fun K hK=> ?_);refine iP Tryz.func225 (by kernel_rfl) rfl #[(.agg #[.string nm,.int .i64 wd,.int .i64 ln,.slice (ag adr) ds.length c3,.slice A4 bd.length c4]),.string s] (by rfl) rfl rfl (by(try simp only[cd,cg,db]);first | done | rfl) ?_;refine(pN (PAt.out.below (goutW gd)) hfi).mono ?_;rintro _ w9 ⟨rfl,hb⟩;refine⟨_,rfl,?_⟩;have HBX:=aa (aB hbx.out hb);obtain⟨gd,rfl⟩:∃g':G _,w9=g'.W:=⟨mkG (gd.below.trans (hb.mono gd.below.size)),rfl⟩;clear hb;refine hK.out _ _ ⟨gd,rfl⟩ (fun _=> ?_);clear hK K;refine cW (a':= ?_) ?_ ?_;rotate_left
   ·show ay _ (ag 25) _ = _
    simp only[ay,ae,ah,ai,aJ,aK];rfl
   refine aP (i:=5) (N:=ag 26) (v:= ?_) (a':= ?_) #[af,af,af,af,af,af,ac,af,ac] rfl rfl (by kernel_rfl) (fun _ _ _ h=>h) (bc ⟨by rfl,?_⟩) ?_ ?_;rotate_left
   ·intro w';go_simp;with_reducible rfl
   rotate_left
   ·simp only[ay,ae,ah,ai,aJ,aK];rfl
   refine cY (i:=6) (N:=ag 27) (v:= ?_) (a':= ?_) #[af,af,af,af,af,af,af,af,ac] rfl rfl (by kernel_rfl) (fun _ _ _ h=>h) (bc ⟨by rfl,?_⟩) ⟨gd,rfl⟩ ?_ ?_;rotate_left
   ·rintro w' ⟨g',rfl⟩;go_simp;with_reducible rfl
   rotate_left
   ·simp only[ay,ae,ah,ai,aJ,aK];rfl
   exact cW (by first | (simp only[i9,ay,ae,ah,ai];done) | (simp only[i9,ay,ae,ah,ai];rfl)) (hJ b7 _ ⟨_,rfl,HBX.out,hle⟩)
 rintro b7 _ ⟨gd,rfl,hbx,hle⟩;refine cW (a':= ?_) ?_ ?_;rotate_left
 ·simp only[i9,ay,ae,ah,ai];rfl
 refine kH (i:=8) (N:=ak) #[af,af,af,af,af,af,af,af,af] rfl rfl (by kernel_rfl) (by simp) (fun K hK=> ?_);have s0:gd.W.cell? ⟨b7,0,ak⟩=ag (.int .i64 0):=(aA hbx 0).trans rfl;have s1:gd.W.cell? ⟨b7,1,ak⟩=ag (.string (⟨#[]⟩:ByteArray)):=(aA hbx 1).trans rfl;have s2:gd.W.cell? ⟨b7,2,ak⟩=ag (.int .i64 0):=(aA hbx 2).trans rfl;have s3:gd.W.cell? ⟨b7,3,ak⟩=ag (.slice ak 0 0):=(aA hbx 3).trans rfl;have f0:=aH hbx 0;have f1:=aH hbx 1;have f2:=aH hbx 2;have f3:=aH hbx 3;have hp:=aa (bQ (bQ (bQ (bQ hbx 0 (.int .i64 (aI ds (i:Int)).f0) rfl) 1 (.string (aI ds (i:Int)).f1) rfl) 2 (.int .i64 (aI ds (i:Int)).f2) rfl) 3 (.slice A9d (aI ds (i:Int)).f3.length c9d) rfl);have hq:=aa ((((gd.below.setCell (p:=⟨b7,0,ak⟩) hle (.int .i64 (aI ds (i:Int)).f0)).setCell (p:=⟨b7,1,ak⟩) hle (.string (aI ds (i:Int)).f1)).setCell (p:=⟨b7,2,ak⟩) hle (.int .i64 (aI ds (i:Int)).f2)).setCell (p:=⟨b7,3,ak⟩) hle (.slice A9d (aI ds (i:Int)).f3.length c9d));refine skip_ (w1:= ?_) (by rfl) rfl ?_ ?_;rotate_left
 ·go_simp;rfl
 refine hK.out _ _ ⟨mkG hq.out,rfl⟩ (fun _=> ?_);clear hK K s0 s1 s2 s3 f0 f1 f2 f3 hbx;refine iF (by kernel_rfl) ?_;have c0:_ =ag (bh .i64 (aI ds (i:Int)).f0):=(aA hp.out 0).trans rfl;have c2:_ =ag (bh .i64 (aI ds (i:Int)).f2):=(aA hp.out 2).trans rfl;obtain⟨g3,hg3⟩:=mkG_ex hq.out;rw[←hg3]at c0 c2 ⊢;clear hg3 hp hq r0 r1 r2 r3 q0 q1 q2 q3 hfi
 have t0:g3.W.cell? ⟨w.heap.size+1,0,ak⟩=ag (.int .i64 x.is):=by go_simp
 by_cases h1:x.is=2
 ·by_cases h2:x.e.f0=2
  ·go_wp2_with fail;go_ret;exact⟨aC (by simp[kindW,h1,h2]),goutW _⟩
  ·have b2:=bf h2;go_wp2_with fail;go_ret;exact⟨aC (by simp[kindW,h1,h2,bne]),goutW _⟩
 ·have b1:=bf h1
  by_cases h2:x.s.f0=2
  ·by_cases h3:(aI ds (i:Int)).f2=0
   ·go_wp2_with fail;go_ret;exact⟨aC (by simp[kindW,h1,h2,h3]),goutW _⟩
   ·have b3:=bf h3;go_wp2_with fail;go_ret;exact⟨aC (by simp[kindW,h1,h2,h3,bne]),goutW _⟩
  ·have b2:=bf h2;go_wp2_with fail;go_ret;exact⟨aC (by simp[kindW,h1,h2]),goutW _⟩
end
section
attribute [local go_sem] G.cell
theorem oW {a b:Int}(h:a=b):gj (.int .i64 a)=.returned (.int .i64 b):=by rw[h]
def mO (x:TV):Bool:=decide (64<x.deep)
theorem viol10_calls (nm:ByteArray)(wd ln:Int)(ds:List S70)(bd:List S119)(A3:Option Addr)(c3:Nat)(A4:Option Addr)(c4:Nat)(x:TV){A5:Option Addr}{c5:Nat}{A9:Option Addr}{c9:Nat}{A12:Option Addr}{c12:Nat}{A13:Option Addr}{c13:Nat}{A19:Option Addr}{c19:Nat}{A21:Option Addr}{c21:Nat}(w:World)(hp:ProgAt w ds bd A3 c3 A4 c4)
 (hlo:Kd.string.C w A21 x.loops.length x.loops) (hll:x.loops.length<=c21) (hx:x.is=0\/x.is=1\/x.is=2) (r:Int) (hr:r=if mO x=af then 152 else 0):
 Calls au 146 #[(.agg #[.string nm,.int .i64 wd,.int .i64 ln,.slice A3 ds.length c3,.slice A4 bd.length c4]),(.agg #[.int .i64 x.is,.int .i64 x.d,.int .i64 x.s.f0,.string x.s.f1,.int .i64 x.s.f2.f0,.int .u64 x.s.f2.f1,.string x.s.f2.f2,.slice A5 x.s.f2.f3.length c5,.int .i64 x.s.f3.f0,.int .u64 x.s.f3.f1,.string x.s.f3.f2,.slice A9 x.s.f3.f3.length c9,.int .u64 x.s.f4,.int .u64 x.s.f5,.slice A12 x.s.f6.length c12,.slice A13 x.s.f7.length c13,.int .i64 x.e.f0,.int .u64 x.e.f1,.string x.e.f2,.slice A19 x.e.f3.length c19,.int .i64 x.deep,.slice A21 x.loops.length c21]),.int .i64 10] w fun e w'=>e=.returned (.int .i64 r)/\Below w.heap.size w w':=by
 have gout:∀{o o':Obj} (g:G ((w.alloc o).alloc o')),Below w.heap.size w g.W:=fun g=>(((ar _ _).alloc (aq _) _).alloc (by simp) _).trans (g.below.mono (by simp;omega));have HLO:=aa hlo;have PAt:=aa hp;have HXX:=aa hx;have HR:=aa hr;clear hlo hp hx hr;go_enter Tryz.func146,Tryz.ntmps146
 go_upto_region 1 with (fail)
 refine aG ?_;intro gg;have goutW:∀(g:G (gw0 gg)),Below w.heap.size w g.W:=fun g=>gout g;have HBK:=aa (show ∀g:G (gw0 gg),g.W.heap[w.heap.size+1]? =ag (.cells #[.int .i64 x.is,.int .i64 x.d,.int .i64 x.s.f0,.string x.s.f1,.int .i64 x.s.f2.f0,.int .u64 x.s.f2.f1,.string x.s.f2.f2,.slice A5 x.s.f2.f3.length c5,.int .i64 x.s.f3.f0,.int .u64 x.s.f3.f1,.string x.s.f3.f2,.slice A9 x.s.f3.f3.length c9,.int .u64 x.s.f4,.int .u64 x.s.f5,.slice A12 x.s.f6.length c12,.slice A13 x.s.f7.length c13,.int .i64 x.e.f0,.int .u64 x.e.f1,.string x.e.f2,.slice A19 x.e.f3.length c19,.int .i64 x.deep,.slice A21 x.loops.length c21] 125 (0,0)) from fun g=>(g.below.block _ (by simp[gw0])).trans (heap_alloc2_new w _ _))
 go_wp2_with (refine wpList_load_row rfl 125 (.tmp 4) rfl (w.heap.size+1) rfl 125 #[.int .i64 x.is,.int .i64 x.d,.int .i64 x.s.f0,.string x.s.f1,.int .i64 x.s.f2.f0,.int .u64 x.s.f2.f1,.string x.s.f2.f2,.slice A5 x.s.f2.f3.length c5,.int .i64 x.s.f3.f0,.int .u64 x.s.f3.f1,.string x.s.f3.f2,.slice A9 x.s.f3.f3.length c9,.int .u64 x.s.f4,.int .u64 x.s.f5,.slice A12 x.s.f6.length c12,.slice A13 x.s.f7.length c13,.int .i64 x.e.f0,.int .u64 x.e.f1,.string x.e.f2,.slice A19 x.e.f3.length c19,.int .i64 x.deep,.slice A21 x.loops.length c21] (0,0) _ (HBK.out gg) fz rfl (by kernel_rfl) ?_)
 refine(aD (g:=gg) (gR x gg.W HXX.out)).mono ?_;rintro _ _ ⟨rfl,gg,rfl⟩
 rcases aL (x.is==1)with i1 | i1
 ·rcases aL (x.s.f0==4)with s4 | s4
  ·rcases dh 64 x.deep with d | d
   ·go_wp2_with fail;go_ret;exact⟨oW (by rw[HR.out];simp[mO,d]),goutW _⟩
   ·have d':¬64<x.deep:=by omega
    go_wp2_with fail;go_ret;exact⟨oW (by rw[HR.out];simp[mO,d']),goutW _⟩
  ·rcases dh 64 x.deep with d | d
   ·go_wp2_with fail;go_ret;exact⟨oW (by rw[HR.out];simp[mO,d]),goutW _⟩
   ·have d':¬64<x.deep:=by omega
    go_wp2_with fail;go_ret;exact⟨oW (by rw[HR.out];simp[mO,d']),goutW _⟩
 ·rcases dh 64 x.deep with d | d
  ·go_wp2_with fail;go_ret;exact⟨oW (by rw[HR.out];simp[mO,d]),goutW _⟩
  ·have d':¬64<x.deep:=by omega
   go_wp2_with fail;go_ret;exact⟨oW (by rw[HR.out];simp[mO,d']),goutW _⟩
end
section
attribute [local go_sem] G.cell
def iX (ds:List S70)(x:TV):Bool:=(jH x).2&& !iL x.loops (jH x).1&&decide (fR ds (jH x).1<0)
theorem eL {a b:Int}(h:a=b):gj (.int .i64 a)=.returned (.int .i64 b):=by rw[h]
theorem viol11_calls (nm:ByteArray)(wd ln:Int)(ds:List S70)(bd:List S119)(A3:Option Addr)(c3:Nat)(A4:Option Addr)(c4:Nat)(x:TV){A5:Option Addr}{c5:Nat}{A9:Option Addr}{c9:Nat}{A12:Option Addr}{c12:Nat}{A13:Option Addr}{c13:Nat}{A19:Option Addr}{c19:Nat}{A21:Option Addr}{c21:Nat}(w:World)(hp:ProgAt w ds bd A3 c3 A4 c4)
 (hlo:Kd.string.C w A21 x.loops.length x.loops) (hll:x.loops.length<=c21) (hx:x.is=0\/x.is=1\/x.is=2) (r:Int) (hr:r=if iX ds x=af then 161 else 0):
 Calls au 146 #[(.agg #[.string nm,.int .i64 wd,.int .i64 ln,.slice A3 ds.length c3,.slice A4 bd.length c4]),(.agg #[.int .i64 x.is,.int .i64 x.d,.int .i64 x.s.f0,.string x.s.f1,.int .i64 x.s.f2.f0,.int .u64 x.s.f2.f1,.string x.s.f2.f2,.slice A5 x.s.f2.f3.length c5,.int .i64 x.s.f3.f0,.int .u64 x.s.f3.f1,.string x.s.f3.f2,.slice A9 x.s.f3.f3.length c9,.int .u64 x.s.f4,.int .u64 x.s.f5,.slice A12 x.s.f6.length c12,.slice A13 x.s.f7.length c13,.int .i64 x.e.f0,.int .u64 x.e.f1,.string x.e.f2,.slice A19 x.e.f3.length c19,.int .i64 x.deep,.slice A21 x.loops.length c21]),.int .i64 11] w fun e w'=>e=.returned (.int .i64 r)/\Below w.heap.size w w':=by
 have gout:∀{o o':Obj} (g:G ((w.alloc o).alloc o')),Below w.heap.size w g.W:=fun g=>(((ar _ _).alloc (aq _) _).alloc (by simp) _).trans (g.below.mono (by simp;omega));have HLO:=aa hlo;have PAt:=aa hp;have HXX:=aa hx;have HR:=aa hr;clear hlo hp hx hr;go_enter Tryz.func146,Tryz.ntmps146
 go_upto_region 1 with (fail)
 refine aG ?_;intro gg;have goutW:∀(g:G (gw0 gg)),Below w.heap.size w g.W:=fun g=>gout g;have HBK:=aa (show ∀g:G (gw0 gg),g.W.heap[w.heap.size+1]? =ag (.cells #[.int .i64 x.is,.int .i64 x.d,.int .i64 x.s.f0,.string x.s.f1,.int .i64 x.s.f2.f0,.int .u64 x.s.f2.f1,.string x.s.f2.f2,.slice A5 x.s.f2.f3.length c5,.int .i64 x.s.f3.f0,.int .u64 x.s.f3.f1,.string x.s.f3.f2,.slice A9 x.s.f3.f3.length c9,.int .u64 x.s.f4,.int .u64 x.s.f5,.slice A12 x.s.f6.length c12,.slice A13 x.s.f7.length c13,.int .i64 x.e.f0,.int .u64 x.e.f1,.string x.e.f2,.slice A19 x.e.f3.length c19,.int .i64 x.deep,.slice A21 x.loops.length c21] 125 (0,0)) from fun g=>(g.below.block _ (by simp[gw0])).trans (heap_alloc2_new w _ _))
 go_wp2_with (refine wpList_load_row rfl 125 (.tmp 4) rfl (w.heap.size+1) rfl 125 #[.int .i64 x.is,.int .i64 x.d,.int .i64 x.s.f0,.string x.s.f1,.int .i64 x.s.f2.f0,.int .u64 x.s.f2.f1,.string x.s.f2.f2,.slice A5 x.s.f2.f3.length c5,.int .i64 x.s.f3.f0,.int .u64 x.s.f3.f1,.string x.s.f3.f2,.slice A9 x.s.f3.f3.length c9,.int .u64 x.s.f4,.int .u64 x.s.f5,.slice A12 x.s.f6.length c12,.slice A13 x.s.f7.length c13,.int .i64 x.e.f0,.int .u64 x.e.f1,.string x.e.f2,.slice A19 x.e.f3.length c19,.int .i64 x.deep,.slice A21 x.loops.length c21] (0,0) _ (HBK.out gg) fz rfl (by kernel_rfl) ?_)
 refine(aD (g:=gg) (gR x gg.W HXX.out)).mono ?_;rintro _ _ ⟨rfl,gg,rfl⟩
 rcases aL (x.is==1)with i1 | i1
 ·rcases aL (x.s.f0==4)with s4 | s4
  ·rcases aL (jH x).2 with u2 | u2
   ·go_wp2_with fail
    rcases aL (iL x.loops (jH x).1)with hh | hh
    ·refine(aD (g:=gg) (in_v hh A21 c21 gg.W (Kd.aF HLO.out (goutW gg)) hll)).mono ?_;rintro _ _ ⟨rfl,gg,rfl⟩;go_wp2_with fail;go_ret;exact⟨eL (by rw[HR.out];simp[iX,u2,hh]),goutW _⟩
    ·refine(aD (g:=gg) (in_v hh A21 c21 gg.W (Kd.aF HLO.out (goutW gg)) hll)).mono ?_;rintro _ _ ⟨rfl,gg,rfl⟩;go_wp2_with fail;refine(aD (g:=gg) (pN (PAt.out.below (goutW gg)) rfl)).mono ?_;rintro _ _ ⟨rfl,gg,rfl⟩
     rcases dh (fR ds (jH x).1) 0 with d | d
     ·go_wp2_with fail;go_ret;exact⟨eL (by rw[HR.out];simp[iX,u2,hh,d]),goutW _⟩
     ·have d':¬fR ds (jH x).1<0:=by omega
      go_wp2_with fail;go_ret;exact⟨eL (by rw[HR.out];simp[iX,u2,hh,d']),goutW _⟩
   ·go_wp2_with fail;go_ret;exact⟨eL (by rw[HR.out];simp[iX,u2]),goutW _⟩
  ·rcases aL (jH x).2 with u2 | u2
   ·go_wp2_with fail
    rcases aL (iL x.loops (jH x).1)with hh | hh
    ·refine(aD (g:=gg) (in_v hh A21 c21 gg.W (Kd.aF HLO.out (goutW gg)) hll)).mono ?_;rintro _ _ ⟨rfl,gg,rfl⟩;go_wp2_with fail;go_ret;exact⟨eL (by rw[HR.out];simp[iX,u2,hh]),goutW _⟩
    ·refine(aD (g:=gg) (in_v hh A21 c21 gg.W (Kd.aF HLO.out (goutW gg)) hll)).mono ?_;rintro _ _ ⟨rfl,gg,rfl⟩;go_wp2_with fail;refine(aD (g:=gg) (pN (PAt.out.below (goutW gg)) rfl)).mono ?_;rintro _ _ ⟨rfl,gg,rfl⟩
     rcases dh (fR ds (jH x).1) 0 with d | d
     ·go_wp2_with fail;go_ret;exact⟨eL (by rw[HR.out];simp[iX,u2,hh,d]),goutW _⟩
     ·have d':¬fR ds (jH x).1<0:=by omega
      go_wp2_with fail;go_ret;exact⟨eL (by rw[HR.out];simp[iX,u2,hh,d']),goutW _⟩
   ·go_wp2_with fail;go_ret;exact⟨eL (by rw[HR.out];simp[iX,u2]),goutW _⟩
 ·rcases aL (jH x).2 with u2 | u2
  ·go_wp2_with fail
   rcases aL (iL x.loops (jH x).1)with hh | hh
   ·refine(aD (g:=gg) (in_v hh A21 c21 gg.W (Kd.aF HLO.out (goutW gg)) hll)).mono ?_;rintro _ _ ⟨rfl,gg,rfl⟩;go_wp2_with fail;go_ret;exact⟨eL (by rw[HR.out];simp[iX,u2,hh]),goutW _⟩
   ·refine(aD (g:=gg) (in_v hh A21 c21 gg.W (Kd.aF HLO.out (goutW gg)) hll)).mono ?_;rintro _ _ ⟨rfl,gg,rfl⟩;go_wp2_with fail;refine(aD (g:=gg) (pN (PAt.out.below (goutW gg)) rfl)).mono ?_;rintro _ _ ⟨rfl,gg,rfl⟩
    rcases dh (fR ds (jH x).1) 0 with d | d
    ·go_wp2_with fail;go_ret;exact⟨eL (by rw[HR.out];simp[iX,u2,hh,d]),goutW _⟩
    ·have d':¬fR ds (jH x).1<0:=by omega
     go_wp2_with fail;go_ret;exact⟨eL (by rw[HR.out];simp[iX,u2,hh,d']),goutW _⟩
  ·go_wp2_with fail;go_ret;exact⟨eL (by rw[HR.out];simp[iX,u2]),goutW _⟩
end
section
attribute [local go_sem] G.cell
def kindV (ds:List S70)(x:TV)(s:ByteArray):Bool:=if iL x.loops s=af then x.is==2&&x.e.f0==2 else kindW (aI ds (fR ds s)) x
def lD (ds:List S70)(x:TV):Bool:=(jH x).2&& !kindV ds x (jH x).1
theorem kind_v (nm:ByteArray)(wd ln:Int)(ds:List S70)(bd:List S119)(A3:Option Addr)(c3:Nat)(A4:Option Addr)(c4:Nat)(x:TV){A5:Option Addr}{c5:Nat}{A9:Option Addr}{c9:Nat}{A12:Option Addr}{c12:Nat}{A13:Option Addr}{c13:Nat}{A19:Option Addr}{c19:Nat}{A21:Option Addr}{c21:Nat}(s:ByteArray)(w:World)(hp:ProgAt w ds bd A3 c3 A4 c4)
 (hlo:Kd.string.C w A21 x.loops.length x.loops) (hll:x.loops.length<=c21) (hk:iL x.loops s=ac->∃i:Nat,i<ds.length/\fR ds s=(i:Int)) {b:Bool} (hb:kindV ds x s=b):
 Calls au 228 #[(.agg #[.string nm,.int .i64 wd,.int .i64 ln,.slice A3 ds.length c3,.slice A4 bd.length c4]),(.agg #[.int .i64 x.is,.int .i64 x.d,.int .i64 x.s.f0,.string x.s.f1,.int .i64 x.s.f2.f0,.int .u64 x.s.f2.f1,.string x.s.f2.f2,.slice A5 x.s.f2.f3.length c5,.int .i64 x.s.f3.f0,.int .u64 x.s.f3.f1,.string x.s.f3.f2,.slice A9 x.s.f3.f3.length c9,.int .u64 x.s.f4,.int .u64 x.s.f5,.slice A12 x.s.f6.length c12,.slice A13 x.s.f7.length c13,.int .i64 x.e.f0,.int .u64 x.e.f1,.string x.e.f2,.slice A19 x.e.f3.length c19,.int .i64 x.deep,.slice A21 x.loops.length c21]),.string s] w fun e w'=>e=.returned (.bool b)/\Below w.heap.size w w':=by
 subst hb;unfold kindV
 rcases aL (iL x.loops s)with h | h
 ·rw[if_pos h];exact kind_in nm wd ln ds bd A3 c3 A4 c4 x s w hlo hll h
 ·rw[if_neg (by simp[h])];obtain⟨i,hi,he⟩:=hk h;rw[he];exact kind_decl nm wd ln ds bd A3 c3 A4 c4 x s w hp hlo hll h i hi he
theorem fT {a b:Int}(h:a=b):gj (.int .i64 a)=.returned (.int .i64 b):=by rw[h]
theorem viol12_calls (nm:ByteArray)(wd ln:Int)(ds:List S70)(bd:List S119)(A3:Option Addr)(c3:Nat)(A4:Option Addr)(c4:Nat)(x:TV){A5:Option Addr}{c5:Nat}{A9:Option Addr}{c9:Nat}{A12:Option Addr}{c12:Nat}{A13:Option Addr}{c13:Nat}{A19:Option Addr}{c19:Nat}{A21:Option Addr}{c21:Nat}(w:World)(hp:ProgAt w ds bd A3 c3 A4 c4)
 (hlo:Kd.string.C w A21 x.loops.length x.loops) (hll:x.loops.length<=c21) (hx:x.is=0\/x.is=1\/x.is=2)
 (hk:(jH x).2=af->iL x.loops (jH x).1=ac->∃i:Nat,i<ds.length/\fR ds (jH x).1=(i:Int)) (r:Int) (hr:r=if lD ds x=af then 162 else 0):
 Calls au 146 #[(.agg #[.string nm,.int .i64 wd,.int .i64 ln,.slice A3 ds.length c3,.slice A4 bd.length c4]),(.agg #[.int .i64 x.is,.int .i64 x.d,.int .i64 x.s.f0,.string x.s.f1,.int .i64 x.s.f2.f0,.int .u64 x.s.f2.f1,.string x.s.f2.f2,.slice A5 x.s.f2.f3.length c5,.int .i64 x.s.f3.f0,.int .u64 x.s.f3.f1,.string x.s.f3.f2,.slice A9 x.s.f3.f3.length c9,.int .u64 x.s.f4,.int .u64 x.s.f5,.slice A12 x.s.f6.length c12,.slice A13 x.s.f7.length c13,.int .i64 x.e.f0,.int .u64 x.e.f1,.string x.e.f2,.slice A19 x.e.f3.length c19,.int .i64 x.deep,.slice A21 x.loops.length c21]),.int .i64 12] w fun e w'=>e=.returned (.int .i64 r)/\Below w.heap.size w w':=by
 have gout:∀{o o':Obj} (g:G ((w.alloc o).alloc o')),Below w.heap.size w g.W:=fun g=>(((ar _ _).alloc (aq _) _).alloc (by simp) _).trans (g.below.mono (by simp;omega));have HLO:=aa hlo;have PAt:=aa hp;have HXX:=aa hx;have HR:=aa hr;clear hlo hp hx hr;go_enter Tryz.func146,Tryz.ntmps146
 go_upto_region 1 with (fail)
 refine aG ?_;intro gg;have goutW:∀(g:G (gw0 gg)),Below w.heap.size w g.W:=fun g=>gout g;have HBK:=aa (show ∀g:G (gw0 gg),g.W.heap[w.heap.size+1]? =ag (.cells #[.int .i64 x.is,.int .i64 x.d,.int .i64 x.s.f0,.string x.s.f1,.int .i64 x.s.f2.f0,.int .u64 x.s.f2.f1,.string x.s.f2.f2,.slice A5 x.s.f2.f3.length c5,.int .i64 x.s.f3.f0,.int .u64 x.s.f3.f1,.string x.s.f3.f2,.slice A9 x.s.f3.f3.length c9,.int .u64 x.s.f4,.int .u64 x.s.f5,.slice A12 x.s.f6.length c12,.slice A13 x.s.f7.length c13,.int .i64 x.e.f0,.int .u64 x.e.f1,.string x.e.f2,.slice A19 x.e.f3.length c19,.int .i64 x.deep,.slice A21 x.loops.length c21] 125 (0,0)) from fun g=>(g.below.block _ (by simp[gw0])).trans (heap_alloc2_new w _ _))
 go_wp2_with (refine wpList_load_row rfl 125 (.tmp 4) rfl (w.heap.size+1) rfl 125 #[.int .i64 x.is,.int .i64 x.d,.int .i64 x.s.f0,.string x.s.f1,.int .i64 x.s.f2.f0,.int .u64 x.s.f2.f1,.string x.s.f2.f2,.slice A5 x.s.f2.f3.length c5,.int .i64 x.s.f3.f0,.int .u64 x.s.f3.f1,.string x.s.f3.f2,.slice A9 x.s.f3.f3.length c9,.int .u64 x.s.f4,.int .u64 x.s.f5,.slice A12 x.s.f6.length c12,.slice A13 x.s.f7.length c13,.int .i64 x.e.f0,.int .u64 x.e.f1,.string x.e.f2,.slice A19 x.e.f3.length c19,.int .i64 x.deep,.slice A21 x.loops.length c21] (0,0) _ (HBK.out gg) fz rfl (by kernel_rfl) ?_)
 refine(aD (g:=gg) (gR x gg.W HXX.out)).mono ?_;rintro _ _ ⟨rfl,gg,rfl⟩;have HK:=aa hk;clear hk
 rcases aL (x.is==1)with i1 | i1
 ·rcases aL (x.s.f0==4)with s4 | s4
  ·rcases aL (jH x).2 with u2 | u2
   ·go_wp2_with (first | (refine wpList_load_row rfl 125 (.tmp 4) rfl (w.heap.size+1) rfl 125 #[.int .i64 x.is,.int .i64 x.d,.int .i64 x.s.f0,.string x.s.f1,.int .i64 x.s.f2.f0,.int .u64 x.s.f2.f1,.string x.s.f2.f2,.slice A5 x.s.f2.f3.length c5,.int .i64 x.s.f3.f0,.int .u64 x.s.f3.f1,.string x.s.f3.f2,.slice A9 x.s.f3.f3.length c9,.int .u64 x.s.f4,.int .u64 x.s.f5,.slice A12 x.s.f6.length c12,.slice A13 x.s.f7.length c13,.int .i64 x.e.f0,.int .u64 x.e.f1,.string x.e.f2,.slice A19 x.e.f3.length c19,.int .i64 x.deep,.slice A21 x.loops.length c21] (0,0) _ (HBK.out gg) fz rfl (by kernel_rfl) ?_) | (refine oT (by rfl) ?_;refine wpList_load_row rfl 125 (.tmp 4) rfl (w.heap.size+1) rfl 125 #[.int .i64 x.is,.int .i64 x.d,.int .i64 x.s.f0,.string x.s.f1,.int .i64 x.s.f2.f0,.int .u64 x.s.f2.f1,.string x.s.f2.f2,.slice A5 x.s.f2.f3.length c5,.int .i64 x.s.f3.f0,.int .u64 x.s.f3.f1,.string x.s.f3.f2,.slice A9 x.s.f3.f3.length c9,.int .u64 x.s.f4,.int .u64 x.s.f5,.slice A12 x.s.f6.length c12,.slice A13 x.s.f7.length c13,.int .i64 x.e.f0,.int .u64 x.e.f1,.string x.e.f2,.slice A19 x.e.f3.length c19,.int .i64 x.deep,.slice A21 x.loops.length c21] (0,0) _ (HBK.out gg) fz rfl (by kernel_rfl) ?_))
    obtain⟨kv,hkv⟩:∃b,kindV ds x (jH x).1=b:=⟨_,rfl⟩;have KC:=kind_v nm wd ln ds bd A3 c3 A4 c4 x (A5:=A5) (c5:=c5) (A9:=A9) (c9:=c9) (A12:=A12) (c12:=c12) (A13:=A13) (c13:=c13) (A19:=A19) (c19:=c19) (jH x).1 gg.W (PAt.out.below (goutW gg)) (Kd.aF HLO.out (goutW gg)) hll (HK.out u2) hkv;refine(aD (g:=gg) KC).mono ?_;clear KC;rintro _ _ ⟨rfl,gg,rfl⟩;have HKV:=aa hkv;clear hkv;cases kv
    ·go_wp2_with fail;go_ret;exact⟨fT (by rw[HR.out];simp[lD,u2,HKV.out]),goutW _⟩
    ·go_wp2_with fail;go_ret;exact⟨fT (by rw[HR.out];simp[lD,u2,HKV.out]),goutW _⟩
   ·go_wp2_with fail;go_ret;exact⟨fT (by rw[HR.out];simp[lD,u2]),goutW _⟩
  ·rcases aL (jH x).2 with u2 | u2
   ·go_wp2_with (first | (refine wpList_load_row rfl 125 (.tmp 4) rfl (w.heap.size+1) rfl 125 #[.int .i64 x.is,.int .i64 x.d,.int .i64 x.s.f0,.string x.s.f1,.int .i64 x.s.f2.f0,.int .u64 x.s.f2.f1,.string x.s.f2.f2,.slice A5 x.s.f2.f3.length c5,.int .i64 x.s.f3.f0,.int .u64 x.s.f3.f1,.string x.s.f3.f2,.slice A9 x.s.f3.f3.length c9,.int .u64 x.s.f4,.int .u64 x.s.f5,.slice A12 x.s.f6.length c12,.slice A13 x.s.f7.length c13,.int .i64 x.e.f0,.int .u64 x.e.f1,.string x.e.f2,.slice A19 x.e.f3.length c19,.int .i64 x.deep,.slice A21 x.loops.length c21] (0,0) _ (HBK.out gg) fz rfl (by kernel_rfl) ?_) | (refine oT (by rfl) ?_;refine wpList_load_row rfl 125 (.tmp 4) rfl (w.heap.size+1) rfl 125 #[.int .i64 x.is,.int .i64 x.d,.int .i64 x.s.f0,.string x.s.f1,.int .i64 x.s.f2.f0,.int .u64 x.s.f2.f1,.string x.s.f2.f2,.slice A5 x.s.f2.f3.length c5,.int .i64 x.s.f3.f0,.int .u64 x.s.f3.f1,.string x.s.f3.f2,.slice A9 x.s.f3.f3.length c9,.int .u64 x.s.f4,.int .u64 x.s.f5,.slice A12 x.s.f6.length c12,.slice A13 x.s.f7.length c13,.int .i64 x.e.f0,.int .u64 x.e.f1,.string x.e.f2,.slice A19 x.e.f3.length c19,.int .i64 x.deep,.slice A21 x.loops.length c21] (0,0) _ (HBK.out gg) fz rfl (by kernel_rfl) ?_))
    obtain⟨kv,hkv⟩:∃b,kindV ds x (jH x).1=b:=⟨_,rfl⟩;have KC:=kind_v nm wd ln ds bd A3 c3 A4 c4 x (A5:=A5) (c5:=c5) (A9:=A9) (c9:=c9) (A12:=A12) (c12:=c12) (A13:=A13) (c13:=c13) (A19:=A19) (c19:=c19) (jH x).1 gg.W (PAt.out.below (goutW gg)) (Kd.aF HLO.out (goutW gg)) hll (HK.out u2) hkv;refine(aD (g:=gg) KC).mono ?_;clear KC;rintro _ _ ⟨rfl,gg,rfl⟩;have HKV:=aa hkv;clear hkv;cases kv
    ·go_wp2_with fail;go_ret;exact⟨fT (by rw[HR.out];simp[lD,u2,HKV.out]),goutW _⟩
    ·go_wp2_with fail;go_ret;exact⟨fT (by rw[HR.out];simp[lD,u2,HKV.out]),goutW _⟩
   ·go_wp2_with fail;go_ret;exact⟨fT (by rw[HR.out];simp[lD,u2]),goutW _⟩
 ·rcases aL (jH x).2 with u2 | u2
  ·go_wp2_with (first | (refine wpList_load_row rfl 125 (.tmp 4) rfl (w.heap.size+1) rfl 125 #[.int .i64 x.is,.int .i64 x.d,.int .i64 x.s.f0,.string x.s.f1,.int .i64 x.s.f2.f0,.int .u64 x.s.f2.f1,.string x.s.f2.f2,.slice A5 x.s.f2.f3.length c5,.int .i64 x.s.f3.f0,.int .u64 x.s.f3.f1,.string x.s.f3.f2,.slice A9 x.s.f3.f3.length c9,.int .u64 x.s.f4,.int .u64 x.s.f5,.slice A12 x.s.f6.length c12,.slice A13 x.s.f7.length c13,.int .i64 x.e.f0,.int .u64 x.e.f1,.string x.e.f2,.slice A19 x.e.f3.length c19,.int .i64 x.deep,.slice A21 x.loops.length c21] (0,0) _ (HBK.out gg) fz rfl (by kernel_rfl) ?_) | (refine oT (by rfl) ?_;refine wpList_load_row rfl 125 (.tmp 4) rfl (w.heap.size+1) rfl 125 #[.int .i64 x.is,.int .i64 x.d,.int .i64 x.s.f0,.string x.s.f1,.int .i64 x.s.f2.f0,.int .u64 x.s.f2.f1,.string x.s.f2.f2,.slice A5 x.s.f2.f3.length c5,.int .i64 x.s.f3.f0,.int .u64 x.s.f3.f1,.string x.s.f3.f2,.slice A9 x.s.f3.f3.length c9,.int .u64 x.s.f4,.int .u64 x.s.f5,.slice A12 x.s.f6.length c12,.slice A13 x.s.f7.length c13,.int .i64 x.e.f0,.int .u64 x.e.f1,.string x.e.f2,.slice A19 x.e.f3.length c19,.int .i64 x.deep,.slice A21 x.loops.length c21] (0,0) _ (HBK.out gg) fz rfl (by kernel_rfl) ?_))
   obtain⟨kv,hkv⟩:∃b,kindV ds x (jH x).1=b:=⟨_,rfl⟩;have KC:=kind_v nm wd ln ds bd A3 c3 A4 c4 x (A5:=A5) (c5:=c5) (A9:=A9) (c9:=c9) (A12:=A12) (c12:=c12) (A13:=A13) (c13:=c13) (A19:=A19) (c19:=c19) (jH x).1 gg.W (PAt.out.below (goutW gg)) (Kd.aF HLO.out (goutW gg)) hll (HK.out u2) hkv;refine(aD (g:=gg) KC).mono ?_;clear KC;rintro _ _ ⟨rfl,gg,rfl⟩;have HKV:=aa hkv;clear hkv;cases kv
   ·go_wp2_with fail;go_ret;exact⟨fT (by rw[HR.out];simp[lD,u2,HKV.out]),goutW _⟩
   ·go_wp2_with fail;go_ret;exact⟨fT (by rw[HR.out];simp[lD,u2,HKV.out]),goutW _⟩
  ·go_wp2_with fail;go_ret;exact⟨fT (by rw[HR.out];simp[lD,u2]),goutW _⟩
end
section
attribute [local go_sem] G.cell
def nS (wd:Int)(x:TV):Bool:=x.is==2&&x.e.f0==1&& !gP wd x.e.f1
theorem j6 {a b:Int}(h:a=b):gj (.int .i64 a)=.returned (.int .i64 b):=by rw[h]
theorem viol13_calls (nm:ByteArray)(wd ln:Int)(ds:List S70)(bd:List S119)(A3:Option Addr)(c3:Nat)(A4:Option Addr)(c4:Nat)(x:TV){A5:Option Addr}{c5:Nat}{A9:Option Addr}{c9:Nat}{A12:Option Addr}{c12:Nat}{A13:Option Addr}{c13:Nat}{A19:Option Addr}{c19:Nat}{A21:Option Addr}{c21:Nat}(w:World)(hp:ProgAt w ds bd A3 c3 A4 c4)
 (hlo:Kd.string.C w A21 x.loops.length x.loops) (hll:x.loops.length<=c21) (hx:x.is=0\/x.is=1\/x.is=2) (hw:0<=wd) (hn:0<=x.e.f1) (r:Int) (hr:r=if nS wd x=af then 165 else 0):
 Calls au 146 #[(.agg #[.string nm,.int .i64 wd,.int .i64 ln,.slice A3 ds.length c3,.slice A4 bd.length c4]),(.agg #[.int .i64 x.is,.int .i64 x.d,.int .i64 x.s.f0,.string x.s.f1,.int .i64 x.s.f2.f0,.int .u64 x.s.f2.f1,.string x.s.f2.f2,.slice A5 x.s.f2.f3.length c5,.int .i64 x.s.f3.f0,.int .u64 x.s.f3.f1,.string x.s.f3.f2,.slice A9 x.s.f3.f3.length c9,.int .u64 x.s.f4,.int .u64 x.s.f5,.slice A12 x.s.f6.length c12,.slice A13 x.s.f7.length c13,.int .i64 x.e.f0,.int .u64 x.e.f1,.string x.e.f2,.slice A19 x.e.f3.length c19,.int .i64 x.deep,.slice A21 x.loops.length c21]),.int .i64 13] w fun e w'=>e=.returned (.int .i64 r)/\Below w.heap.size w w':=by
 have gout:∀{o o':Obj} (g:G ((w.alloc o).alloc o')),Below w.heap.size w g.W:=fun g=>(((ar _ _).alloc (aq _) _).alloc (by simp) _).trans (g.below.mono (by simp;omega));have HLO:=aa hlo;have PAt:=aa hp;have HXX:=aa hx;have HR:=aa hr;clear hlo hp hx hr;go_enter Tryz.func146,Tryz.ntmps146
 go_upto_region 1 with (fail)
 refine aG ?_;intro gg;have goutW:∀(g:G (gw0 gg)),Below w.heap.size w g.W:=fun g=>gout g;have HBK:=aa (show ∀g:G (gw0 gg),g.W.heap[w.heap.size+1]? =ag (.cells #[.int .i64 x.is,.int .i64 x.d,.int .i64 x.s.f0,.string x.s.f1,.int .i64 x.s.f2.f0,.int .u64 x.s.f2.f1,.string x.s.f2.f2,.slice A5 x.s.f2.f3.length c5,.int .i64 x.s.f3.f0,.int .u64 x.s.f3.f1,.string x.s.f3.f2,.slice A9 x.s.f3.f3.length c9,.int .u64 x.s.f4,.int .u64 x.s.f5,.slice A12 x.s.f6.length c12,.slice A13 x.s.f7.length c13,.int .i64 x.e.f0,.int .u64 x.e.f1,.string x.e.f2,.slice A19 x.e.f3.length c19,.int .i64 x.deep,.slice A21 x.loops.length c21] 125 (0,0)) from fun g=>(g.below.block _ (by simp[gw0])).trans (heap_alloc2_new w _ _))
 go_wp2_with (refine wpList_load_row rfl 125 (.tmp 4) rfl (w.heap.size+1) rfl 125 #[.int .i64 x.is,.int .i64 x.d,.int .i64 x.s.f0,.string x.s.f1,.int .i64 x.s.f2.f0,.int .u64 x.s.f2.f1,.string x.s.f2.f2,.slice A5 x.s.f2.f3.length c5,.int .i64 x.s.f3.f0,.int .u64 x.s.f3.f1,.string x.s.f3.f2,.slice A9 x.s.f3.f3.length c9,.int .u64 x.s.f4,.int .u64 x.s.f5,.slice A12 x.s.f6.length c12,.slice A13 x.s.f7.length c13,.int .i64 x.e.f0,.int .u64 x.e.f1,.string x.e.f2,.slice A19 x.e.f3.length c19,.int .i64 x.deep,.slice A21 x.loops.length c21] (0,0) _ (HBK.out gg) fz rfl (by kernel_rfl) ?_)
 refine(aD (g:=gg) (gR x gg.W HXX.out)).mono ?_;rintro _ _ ⟨rfl,gg,rfl⟩
 rcases aL (x.is==2)with i2 | i2
 ·have i1:(x.is==1)=ac:=by have:=beq_iff_eq.1 i2;rw[this];rfl
  rcases aL (x.e.f0==1)with e1 | e1
  ·go_wp2_with fail
   rcases aL (gP wd x.e.f1)with hf | hf
   ·refine(aD (g:=gg) (fits_v hf hw hn gg.W)).mono ?_;rintro _ _ ⟨rfl,gg,rfl⟩;go_wp2_with fail;go_ret;exact⟨j6 (by rw[HR.out];simp[nS,i2,e1,hf]),goutW _⟩
   ·refine(aD (g:=gg) (fits_v hf hw hn gg.W)).mono ?_;rintro _ _ ⟨rfl,gg,rfl⟩;go_wp2_with fail;go_ret;exact⟨j6 (by rw[HR.out];simp[nS,i2,e1,hf]),goutW _⟩
  ·go_wp2_with fail;go_ret;exact⟨j6 (by rw[HR.out];simp[nS,i2,e1]),goutW _⟩
 ·rcases aL (x.is==1)with i1 | i1
  ·rcases aL (x.s.f0==4)with s4 | s4
   ·go_wp2_with fail;go_ret;exact⟨j6 (by rw[HR.out];simp[nS,i2]),goutW _⟩
   ·go_wp2_with fail;go_ret;exact⟨j6 (by rw[HR.out];simp[nS,i2]),goutW _⟩
  ·go_wp2_with fail;go_ret;exact⟨j6 (by rw[HR.out];simp[nS,i2]),goutW _⟩
end
section
attribute [local go_sem] G.cell
def nX (wd:Int)(x:TV):Bool:=x.is==1&&x.s.f0==4&&(decide (x.s.f5<x.s.f4)||(decide (0<x.s.f5)&& !gP wd (x.s.f5 - 1)))
theorem u64_pred {z:Int}(h0:0<z)(h1:z<18446744073709551616):IntKind.u64.wrap (z - 1)=z - 1:=by simp only[IntKind.wrap,jf,js,jk,kn,if_false];omega
theorem kB {a b:Int}(h:a=b):gj (.int .i64 a)=.returned (.int .i64 b):=by rw[h]
theorem viol14_calls (nm:ByteArray)(wd ln:Int)(ds:List S70)(bd:List S119)(A3:Option Addr)(c3:Nat)(A4:Option Addr)(c4:Nat)(x:TV){A5:Option Addr}{c5:Nat}{A9:Option Addr}{c9:Nat}{A12:Option Addr}{c12:Nat}{A13:Option Addr}{c13:Nat}{A19:Option Addr}{c19:Nat}{A21:Option Addr}{c21:Nat}(w:World)(hp:ProgAt w ds bd A3 c3 A4 c4)
 (hlo:Kd.string.C w A21 x.loops.length x.loops) (hll:x.loops.length<=c21) (hx:x.is=0\/x.is=1\/x.is=2) (hw:0<=wd) (hn:0<=x.s.f5/\x.s.f5<18446744073709551616) (r:Int) (hr:r=if nX wd x=af then 166 else 0):
 Calls au 146 #[(.agg #[.string nm,.int .i64 wd,.int .i64 ln,.slice A3 ds.length c3,.slice A4 bd.length c4]),(.agg #[.int .i64 x.is,.int .i64 x.d,.int .i64 x.s.f0,.string x.s.f1,.int .i64 x.s.f2.f0,.int .u64 x.s.f2.f1,.string x.s.f2.f2,.slice A5 x.s.f2.f3.length c5,.int .i64 x.s.f3.f0,.int .u64 x.s.f3.f1,.string x.s.f3.f2,.slice A9 x.s.f3.f3.length c9,.int .u64 x.s.f4,.int .u64 x.s.f5,.slice A12 x.s.f6.length c12,.slice A13 x.s.f7.length c13,.int .i64 x.e.f0,.int .u64 x.e.f1,.string x.e.f2,.slice A19 x.e.f3.length c19,.int .i64 x.deep,.slice A21 x.loops.length c21]),.int .i64 14] w fun e w'=>e=.returned (.int .i64 r)/\Below w.heap.size w w':=by
 have gout:∀{o o':Obj} (g:G ((w.alloc o).alloc o')),Below w.heap.size w g.W:=fun g=>(((ar _ _).alloc (aq _) _).alloc (by simp) _).trans (g.below.mono (by simp;omega));have HLO:=aa hlo;have PAt:=aa hp;have HXX:=aa hx;have HR:=aa hr;clear hlo hp hx hr;go_enter Tryz.func146,Tryz.ntmps146
 go_upto_region 1 with (fail)
 refine aG ?_;intro gg;have goutW:∀(g:G (gw0 gg)),Below w.heap.size w g.W:=fun g=>gout g;have HBK:=aa (show ∀g:G (gw0 gg),g.W.heap[w.heap.size+1]? =ag (.cells #[.int .i64 x.is,.int .i64 x.d,.int .i64 x.s.f0,.string x.s.f1,.int .i64 x.s.f2.f0,.int .u64 x.s.f2.f1,.string x.s.f2.f2,.slice A5 x.s.f2.f3.length c5,.int .i64 x.s.f3.f0,.int .u64 x.s.f3.f1,.string x.s.f3.f2,.slice A9 x.s.f3.f3.length c9,.int .u64 x.s.f4,.int .u64 x.s.f5,.slice A12 x.s.f6.length c12,.slice A13 x.s.f7.length c13,.int .i64 x.e.f0,.int .u64 x.e.f1,.string x.e.f2,.slice A19 x.e.f3.length c19,.int .i64 x.deep,.slice A21 x.loops.length c21] 125 (0,0)) from fun g=>(g.below.block _ (by simp[gw0])).trans (heap_alloc2_new w _ _))
 go_wp2_with (refine wpList_load_row rfl 125 (.tmp 4) rfl (w.heap.size+1) rfl 125 #[.int .i64 x.is,.int .i64 x.d,.int .i64 x.s.f0,.string x.s.f1,.int .i64 x.s.f2.f0,.int .u64 x.s.f2.f1,.string x.s.f2.f2,.slice A5 x.s.f2.f3.length c5,.int .i64 x.s.f3.f0,.int .u64 x.s.f3.f1,.string x.s.f3.f2,.slice A9 x.s.f3.f3.length c9,.int .u64 x.s.f4,.int .u64 x.s.f5,.slice A12 x.s.f6.length c12,.slice A13 x.s.f7.length c13,.int .i64 x.e.f0,.int .u64 x.e.f1,.string x.e.f2,.slice A19 x.e.f3.length c19,.int .i64 x.deep,.slice A21 x.loops.length c21] (0,0) _ (HBK.out gg) fz rfl (by kernel_rfl) ?_)
 refine(aD (g:=gg) (gR x gg.W HXX.out)).mono ?_;rintro _ _ ⟨rfl,gg,rfl⟩;have HN:=aa hn;clear hn
 rcases aL (x.is==1)with i1 | i1
 ·rcases aL (x.s.f0==4)with s4 | s4
  ·rcases dh x.s.f5 x.s.f4 with d | d
   ·go_wp2_with fail;go_ret;exact⟨kB (by rw[HR.out];simp[nX,i1,s4,d]),goutW _⟩
   ·have d':¬x.s.f5<x.s.f4:=by omega
    rcases dh 0 x.s.f5 with p | p
    ·go_wp2_with fail;obtain⟨z,hz⟩:∃z,z=x.s.f5 - 1:=⟨_,rfl⟩;rw[show IntKind.u64.wrap (x.s.f5 - 1)=z by rw[hz];exact u64_pred p HN.out.2];have HZ:=aa hz
     rcases aL (gP wd z)with hf | hf
     ·refine(aD (g:=gg) (fits_v hf hw (by have:=HZ.out;omega) gg.W)).mono ?_;rintro _ _ ⟨rfl,gg,rfl⟩;clear hz;go_wp2_with fail;go_ret;exact⟨kB (by rw[HR.out];rw[HZ.out]at hf;simp[nX,i1,s4,d',p,hf]),goutW _⟩
     ·refine(aD (g:=gg) (fits_v hf hw (by have:=HZ.out;omega) gg.W)).mono ?_;rintro _ _ ⟨rfl,gg,rfl⟩;clear hz;go_wp2_with fail;go_ret;exact⟨kB (by rw[HR.out];rw[HZ.out]at hf;simp[nX,i1,s4,d',p,hf]),goutW _⟩
    ·have p':¬0<x.s.f5:=by omega
     have P:=aa (decide_eq_false p');go_wp2_with fail;go_ret;exact⟨kB (by rw[HR.out];simp[nX,i1,s4,d',P.out]),goutW _⟩
  ·go_wp2_with fail;go_ret;exact⟨kB (by rw[HR.out];simp[nX,i1,s4]),goutW _⟩
 ·go_wp2_with fail;go_ret;exact⟨kB (by rw[HR.out];simp[nX,i1]),goutW _⟩
end
section
attribute [local go_sem] G.cell
def mM (ds:List S70)(x:TV):Bool:=x.is==1&&x.s.f0==4&&(decide (0<=fR ds x.s.f1)||iL x.loops x.s.f1)
theorem lP {a b:Int}(h:a=b):gj (.int .i64 a)=.returned (.int .i64 b):=by rw[h]
theorem viol15_calls (nm:ByteArray)(wd ln:Int)(ds:List S70)(bd:List S119)(A3:Option Addr)(c3:Nat)(A4:Option Addr)(c4:Nat)(x:TV){A5:Option Addr}{c5:Nat}{A9:Option Addr}{c9:Nat}{A12:Option Addr}{c12:Nat}{A13:Option Addr}{c13:Nat}{A19:Option Addr}{c19:Nat}{A21:Option Addr}{c21:Nat}(w:World)(hp:ProgAt w ds bd A3 c3 A4 c4)
 (hlo:Kd.string.C w A21 x.loops.length x.loops) (hll:x.loops.length<=c21) (hx:x.is=0\/x.is=1\/x.is=2) (r:Int) (hr:r=if mM ds x=af then 167 else 0):
 Calls au 146 #[(.agg #[.string nm,.int .i64 wd,.int .i64 ln,.slice A3 ds.length c3,.slice A4 bd.length c4]),(.agg #[.int .i64 x.is,.int .i64 x.d,.int .i64 x.s.f0,.string x.s.f1,.int .i64 x.s.f2.f0,.int .u64 x.s.f2.f1,.string x.s.f2.f2,.slice A5 x.s.f2.f3.length c5,.int .i64 x.s.f3.f0,.int .u64 x.s.f3.f1,.string x.s.f3.f2,.slice A9 x.s.f3.f3.length c9,.int .u64 x.s.f4,.int .u64 x.s.f5,.slice A12 x.s.f6.length c12,.slice A13 x.s.f7.length c13,.int .i64 x.e.f0,.int .u64 x.e.f1,.string x.e.f2,.slice A19 x.e.f3.length c19,.int .i64 x.deep,.slice A21 x.loops.length c21]),.int .i64 15] w fun e w'=>e=.returned (.int .i64 r)/\Below w.heap.size w w':=by
 have gout:∀{o o':Obj} (g:G ((w.alloc o).alloc o')),Below w.heap.size w g.W:=fun g=>(((ar _ _).alloc (aq _) _).alloc (by simp) _).trans (g.below.mono (by simp;omega));have HLO:=aa hlo;have PAt:=aa hp;have HXX:=aa hx;have HR:=aa hr;clear hlo hp hx hr;go_enter Tryz.func146,Tryz.ntmps146
 go_upto_region 1 with (fail)
 refine aG ?_;intro gg;have goutW:∀(g:G (gw0 gg)),Below w.heap.size w g.W:=fun g=>gout g;have HBK:=aa (show ∀g:G (gw0 gg),g.W.heap[w.heap.size+1]? =ag (.cells #[.int .i64 x.is,.int .i64 x.d,.int .i64 x.s.f0,.string x.s.f1,.int .i64 x.s.f2.f0,.int .u64 x.s.f2.f1,.string x.s.f2.f2,.slice A5 x.s.f2.f3.length c5,.int .i64 x.s.f3.f0,.int .u64 x.s.f3.f1,.string x.s.f3.f2,.slice A9 x.s.f3.f3.length c9,.int .u64 x.s.f4,.int .u64 x.s.f5,.slice A12 x.s.f6.length c12,.slice A13 x.s.f7.length c13,.int .i64 x.e.f0,.int .u64 x.e.f1,.string x.e.f2,.slice A19 x.e.f3.length c19,.int .i64 x.deep,.slice A21 x.loops.length c21] 125 (0,0)) from fun g=>(g.below.block _ (by simp[gw0])).trans (heap_alloc2_new w _ _))
 go_wp2_with (refine wpList_load_row rfl 125 (.tmp 4) rfl (w.heap.size+1) rfl 125 #[.int .i64 x.is,.int .i64 x.d,.int .i64 x.s.f0,.string x.s.f1,.int .i64 x.s.f2.f0,.int .u64 x.s.f2.f1,.string x.s.f2.f2,.slice A5 x.s.f2.f3.length c5,.int .i64 x.s.f3.f0,.int .u64 x.s.f3.f1,.string x.s.f3.f2,.slice A9 x.s.f3.f3.length c9,.int .u64 x.s.f4,.int .u64 x.s.f5,.slice A12 x.s.f6.length c12,.slice A13 x.s.f7.length c13,.int .i64 x.e.f0,.int .u64 x.e.f1,.string x.e.f2,.slice A19 x.e.f3.length c19,.int .i64 x.deep,.slice A21 x.loops.length c21] (0,0) _ (HBK.out gg) fz rfl (by kernel_rfl) ?_)
 refine(aD (g:=gg) (gR x gg.W HXX.out)).mono ?_;rintro _ _ ⟨rfl,gg,rfl⟩
 rcases aL (x.is==1)with i1 | i1
 ·rcases aL (x.s.f0==4)with s4 | s4
  ·go_wp2_with fail;refine(aD (g:=gg) (pN (PAt.out.below (goutW gg)) rfl)).mono ?_;rintro _ _ ⟨rfl,gg,rfl⟩
   rcases dh (fR ds x.s.f1) 0 with d | d
   ·have d':¬0<=fR ds x.s.f1:=by omega
    go_wp2_with fail
    rcases aL (iL x.loops x.s.f1)with hh | hh
    ·refine(aD (g:=gg) (in_v hh A21 c21 gg.W (Kd.aF HLO.out (goutW gg)) hll)).mono ?_;rintro _ _ ⟨rfl,gg,rfl⟩;go_wp2_with fail;go_ret;exact⟨lP (by rw[HR.out];simp[mM,i1,s4,d',hh]),goutW _⟩
    ·refine(aD (g:=gg) (in_v hh A21 c21 gg.W (Kd.aF HLO.out (goutW gg)) hll)).mono ?_;rintro _ _ ⟨rfl,gg,rfl⟩;go_wp2_with fail;go_ret;exact⟨lP (by rw[HR.out];simp[mM,i1,s4,d',hh]),goutW _⟩
   ·go_wp2_with fail;go_ret;exact⟨lP (by rw[HR.out];simp[mM,i1,s4,d]),goutW _⟩
  ·go_wp2_with fail;go_ret;exact⟨lP (by rw[HR.out];simp[mM,i1,s4]),goutW _⟩
 ·go_wp2_with fail;go_ret;exact⟨lP (by rw[HR.out];simp[mM,i1]),goutW _⟩
end
section
attribute [local go_sem] G.cell
theorem bn {z a:Int}(h:¬z=a):(z != a)=af:=by simpa using h
theorem power_v {n:Int}{b:Bool}(h:dJ n=b)(w:World):Calls au 224 #[.int .u64 n] w fun e w'=>e=.returned (.bool b)/\Below w.heap.size w w':=
 (cadenceref16_power.calls 10 n b w ((power_eq n).trans (by rw[h]))).mono fun _ _ ⟨he,hd⟩=>⟨he,hd.below⟩
theorem form_v {nm:ByteArray}{wd ln:Int}{ds:List S70}{bd:List S119}{A3:Option Addr}{c3:Nat}{A4:Option Addr}{c4:Nat}{w:World}(hp:ProgAt w ds bd A3 c3 A4 c4){b:Bool}(h:dR nm wd ln ds bd=b):
 Calls au 78 #[.agg #[.string nm,.int .i64 wd,.int .i64 ln,.slice A3 ds.length c3,.slice A4 bd.length c4]] w fun e w'=>e=.returned (.bool b)/\Below w.heap.size w w':=h ▸ refForm_walk nm wd ln ds bd A3 c3 A4 c4 w hp.hd hp.hld hp.hb hp.hlb
theorem wf_v {nm:ByteArray}{wd ln:Int}{ds:List S70}{bd:List S119}{A3:Option Addr}{c3:Nat}{A4:Option Addr}{c4:Nat}{w:World}(hp:ProgAt w ds bd A3 c3 A4 c4){b:Bool}(h:dR nm wd ln ds bd=b):
 Calls au 75 #[.agg #[.string nm,.int .i64 wd,.int .i64 ln,.slice A3 ds.length c3,.slice A4 bd.length c4]] w fun e w'=>e=.returned (.bool b)/\Below w.heap.size w w':=h ▸ Form_walk nm wd ln ds bd A3 c3 A4 c4 w hp.hd hp.hld hp.hb hp.hlb
theorem oR {nm:ByteArray}{wd ln:Int}{ds:List S70}{bd:List S119}(h:dR nm wd ln ds bd=af):0<=wd/\0<=ln/\(∀d∈ds,0<=d.f2)/\bdB bd=af:=by
 unfold dR at h;simp only[cb,decide_eq_true_eq,fw]at h;obtain⟨⟨⟨_,h1⟩,h2⟩,h3,h4⟩:=h;refine⟨h1,h2,fun d hd=> ?_,h4⟩;have:=h3 d hd;unfold dcB at this;simp only[cb,decide_eq_true_eq]at this;exact this.1.2
def pV (nm:ByteArray)(wd ln:Int)(ds:List S70)(bd:List S119):Int × Int:=
 if dR nm wd ln ds bd=ac then(1,1)else if dB wd=ac then(2,5)else if dJ ln=ac then(3,163)else if 256<ds.length then(4,4)else(0,0)
theorem u64_id {z:Int}(h0:0<=z)(h1:z<18446744073709551616):IntKind.u64.wrap z=z:=by simp only[IntKind.wrap,jf,js,jk,kn,if_false];omega
theorem mZ {a b c d:Int}(h1:a=c)(h2:b=d):gj (.tuple #[.int .i64 a,.int .i64 b])=.returned (.tuple #[.int .i64 c,.int .i64 d]):=by rw[h1,h2]
theorem head_calls (nm:ByteArray)(wd ln:Int)(ds:List S70)(bd:List S119)(A3:Option Addr)(c3:Nat)(A4:Option Addr)(c4:Nat)(w:World)(hp:ProgAt w ds bd A3 c3 A4 c4)(hln:ln<18446744073709551616)(r:Int × Int)(hr:r=pV nm wd ln ds bd):
 Calls au 144 #[.agg #[.string nm,.int .i64 wd,.int .i64 ln,.slice A3 ds.length c3,.slice A4 bd.length c4]] w fun e w'=>e=.returned (.tuple #[.int .i64 r.1,.int .i64 r.2])/\Below w.heap.size w w':=by
 have gout:=@gA w;have PAt:=aa hp;have HR:=aa hr;have hlm:=hp.hd.2.1;clear hp hr;go_enter Tryz.func144,Tryz.ntmps144
 go_upto_region 1 with (fail)
 refine aG ?_;intro gg;go_wp2_with fail
 rcases aL (dR nm wd ln ds bd)with hf | hf
 ·have HF:=aa hf;clear hf;refine(aD (g:=gg) (form_v (PAt.out.below (gout gg)) HF.out)).mono ?_;rintro _ _ ⟨rfl,gg,rfl⟩
  have hw:wd=4\/wd=8\/wd=16\/wd=32\/wd=64\/(¬wd=4/\¬wd=8/\¬wd=16/\¬wd=32/\¬wd=64):=by omega
  rcases aL (dB wd)with h1 | h1
  ·have W1:=aa h1
   rcases hw with h | h | h | h | h | ⟨k1,k2,k3,k4,k5⟩
   rotate_right
   ·exfalso
    simp[dB,k1,k2,k3,k4,k5]at h1
   all_goals
    clear h1;go_wp2_with fail;have e:=aa (u64_id (oR HF.out).2.1 hln);rw[e.out]
    rcases aL (dJ ln)with h2 | h2
    ·have W2:=aa h2;clear h2;refine(aD (g:=gg) (power_v W2.out gg.W)).mono ?_;rintro _ _ ⟨rfl,gg,rfl⟩
     by_cases h3:256<ds.length
     ·have h3':(256:Int)<(ds.length:Int):=by omega
      go_wp2_with fail;go_ret2
      have e2:r=(4,4):=by rw[HR.out];unfold pV;rw[if_neg (by simp[HF.out]),if_neg (by simp[W1.out]),if_neg (by simp[W2.out]),if_pos h3]
      exact⟨mZ (by rw[e2]) (by rw[e2]),gout _⟩
     ·have h3':¬(256:Int)<(ds.length:Int):=by omega
      go_wp2_with fail;go_ret2
      have e2:r=(0,0):=by rw[HR.out];unfold pV;rw[if_neg (by simp[HF.out]),if_neg (by simp[W1.out]),if_neg (by simp[W2.out]),if_neg h3]
      exact⟨mZ (by rw[e2]) (by rw[e2]),gout _⟩
    ·have W2:=aa h2;clear h2;refine(aD (g:=gg) (power_v W2.out gg.W)).mono ?_;rintro _ _ ⟨rfl,gg,rfl⟩;go_wp2_with fail;go_ret2
     have e2:r=(3,163):=by rw[HR.out];unfold pV;rw[if_neg (by simp[HF.out]),if_neg (by simp[W1.out]),if_pos W2.out]
     exact⟨mZ (by rw[e2]) (by rw[e2]),gout _⟩
  ·have W1:=aa h1
   rcases hw with h | h | h | h | h | ⟨k1,k2,k3,k4,k5⟩
   rotate_right
   ·clear h1;have b1:=bn k1;have b2:=bn k2;have b3:=bn k3;have b4:=bn k4;have b5:=bn k5;go_wp2_with fail;go_ret2
    have e2:r=(2,5):=by rw[HR.out];unfold pV;rw[if_neg (by simp[HF.out]),if_pos W1.out]
    exact⟨mZ (by rw[e2]) (by rw[e2]),gout _⟩
   all_goals
    exfalso
    simp[dB,h]at h1
 ·have HF:=aa hf;clear hf;refine(aD (g:=gg) (form_v (PAt.out.below (gout gg)) HF.out)).mono ?_;rintro _ _ ⟨rfl,gg,rfl⟩;go_wp2_with fail;go_ret2
  have e2:r=(1,1):=by rw[HR.out];unfold pV;rw[if_pos HF.out]
  exact⟨mZ (by rw[e2]) (by rw[e2]),gout _⟩
end
section
attribute [local go_sem] G.cell
def mI (wd:Int)(ds:List S70):Ans:=match bB ds.length (dL ds)with
 |some i=>⟨5,i,160⟩
 |none=>match bB ds.length (bZ ds)with
  |some i=>⟨6,i,163⟩
  |none=>match bB ds.length (bH ds)with
   |some i=>⟨7,i,164⟩
   |none=>match bB ds.length (cS wd ds)with
    |some i=>⟨8,i,165⟩
    |none=>if 4096<dG ds then⟨9,-1,169⟩else⟨0,0,0⟩
theorem findI_at {ds:List S70}{i:Nat}(hi:i<ds.length):(fR ds (aI ds (i:Int)).f1<(i:Int)) ↔ dL ds i=af:=by
 unfold dL fR cG
 rcases dK ds.length (fun j=>eqS (aI ds (j:Int)).f1 (aI ds (i:Int)).f1)with ⟨h1,h2⟩ | ⟨m,h0,h1,h2,h3⟩
 ·have:=h2 i hi;simp[eqS]at this
 ·rw[h1]
  show((m:Int)<(i:Int)) ↔ _
  have hm:m<=i:=by
   rcases gu i m with h | h
   ·have:=h3 i h;simp[eqS]at this
   ·exact h
  rcases gu m i with h | h
  ·rw[cD h h2 h3]
   simp
   omega
  ·rw[bI fun j hj=>h3 j (by omega)]
   simp
   omega
theorem declS_5 {wd:Int}{ds:List S70}{i:Nat}(hi:i<ds.length)(hf:dL ds i=af)(h:∀j,j<i->dL ds j=ac):mI wd ds=⟨5,i,160⟩:=by unfold mI;rw[cD hi hf h]
theorem declS_6 {wd:Int}{ds:List S70}{i:Nat}(h5:∀j,j<ds.length->dL ds j=ac)(hi:i<ds.length)(hf:bZ ds i=af)(h:∀j,j<i->bZ ds j=ac):mI wd ds=⟨6,i,163⟩:=by unfold mI;rw[bI h5,cD hi hf h]
theorem declS_7 {wd:Int}{ds:List S70}{i:Nat}(h5:∀j,j<ds.length->dL ds j=ac)(h6:∀j,j<ds.length->bZ ds j=ac)(hi:i<ds.length)(hf:bH ds i=af)(h:∀j,j<i->bH ds j=ac):mI wd ds=⟨7,i,164⟩:=by unfold mI;rw[bI h5,bI h6,cD hi hf h]
theorem declS_8 {wd:Int}{ds:List S70}{i:Nat}(h5:∀j,j<ds.length->dL ds j=ac)(h6:∀j,j<ds.length->bZ ds j=ac)(h7:∀j,j<ds.length->bH ds j=ac)(hi:i<ds.length)(hf:cS wd ds i=af)(h:∀j,j<i->cS wd ds j=ac):mI wd ds=⟨8,i,165⟩:=by
 unfold mI;rw[bI h5,bI h6,bI h7,cD hi hf h]
theorem declS_9 {wd:Int}{ds:List S70}(h5:∀j,j<ds.length->dL ds j=ac)(h6:∀j,j<ds.length->bZ ds j=ac)(h7:∀j,j<ds.length->bH ds j=ac)(h8:∀j,j<ds.length->cS wd ds j=ac):mI wd ds=if 4096<dG ds then⟨9,-1,169⟩else⟨0,0,0⟩:=by
 unfold mI;rw[bI h5,bI h6,bI h7,bI h8]
theorem rS {l:List S70}{k:Nat}(hlt:k<l.length):l.take (k+1)=l.take k++[aI l (k:Int)]:=by
 unfold aI;rw[ax,aw,az hlt,List.take_add_one,az hlt];rfl
theorem mF (l:List S70)(x:S70):dG (l++[x])=dG l+if isIn x=af then cT x else 0:=by
 unfold dG;rw[List.filter_append,ef,List.sum_append]
 by_cases h:isIn x=af <;> simp[h]
theorem rL {n:Int}(h:dJ n=af):1<=n/\n<=256:=by
 unfold dJ at h;simp only[Bool.or_eq_true,beq_iff_eq]at h;omega
theorem words_le {d:S70}(h:d.f2=0\/dJ d.f2=af):1<=cT d/\cT d<=256:=by
 unfold cT
 split
 ·omega
 ·rcases h with h | h
  ·contradiction
  ·exact rL h
theorem rR (x:S70)(A:Option Addr)(c:Nat)(w:World)(hc:(Kd.int .u64).C w A x.f3.length x.f3)(hl:x.f3.length<=c):Calls au 56 #[.agg #[.int .i64 x.f0,.string x.f1,.int .i64 x.f2,.slice A x.f3.length c]] w fun e w'=>e=.returned (.int .i64 (cT x))/\Below w.heap.size w w':=by
 refine(cadenceref16_Words.calls x.f0 x.f1 x.f2 A c x.f3 (cT x) w hc hl (by unfold cadenceref16_Words.f cT;split <;> rfl)).mono fun _ _ ⟨he,hd⟩=>⟨he,?_⟩
 first | exact hd | exact hd.below
theorem qF {l:List Int}{j:Nat}(h:j<l.length):l.getD j 0∈l:=by rw[aw,az h];exact gn _
theorem range_bad {wd:Int}{ds:List S70}{k j:Nat}(hj:j<(aI ds (k:Int)).f3.length)(hf:gP wd ((aI ds (k:Int)).f3.getD j 0)=ac):cS wd ds k=af:=by
 unfold cS;rw[List.any_eq_true];exact⟨_,qF hj,by rw[hf];rfl⟩
theorem range_good {wd:Int}{ds:List S70}{k:Nat}(h:∀j,j<(aI ds (k:Int)).f3.length->gP wd ((aI ds (k:Int)).f3.getD j 0)=af):cS wd ds k=ac:=by
 unfold cS;rw[List.any_eq_false];intro v hv;obtain⟨j,hj,rfl⟩:=gr hv;have:=h j hj;rw[aw,az hj]at this;rw[show(aI ds (k:Int)).f3[j]=(ag (aI ds (k:Int)).f3[j]).getD 0 from rfl,this]
 simp
theorem size_good {ds:List S70}{k:Nat}(h:bZ ds k=ac):(aI ds (k:Int)).f2=0\/dJ (aI ds (k:Int)).f2=af:=by
 unfold bZ at h
 by_cases z:(aI ds (k:Int)).f2=0
 ·exact .inl z
 ·right;have e:=bn z;rw[e]at h
  simpa using h
theorem kL {a b c d e f:Int}(h1:a=d)(h2:b=e)(h3:c=f):gj (.tuple #[.int .i64 a,.int .i64 b,.int .i64 c])=.returned (.tuple #[.int .i64 d,.int .i64 e,.int .i64 f]):=by rw[h1,h2,h3]
theorem decls_calls (nm:ByteArray)(wd ln:Int)(ds:List S70)(bd:List S119)(A3:Option Addr)(c3:Nat)(A4:Option Addr)(c4:Nat)(w:World)(hp:ProgAt w ds bd A3 c3 A4 c4)(hw:0<=wd)(hd:∀d∈ds,0<=d.f2/\d.f2<18446744073709551616/\∀v∈d.f3,0<=v)(hl:ds.length<=256)
 (r:Ans) (hr:r=mI wd ds):
 Calls au 145 #[(.agg #[.string nm,.int .i64 wd,.int .i64 ln,.slice A3 ds.length c3,.slice A4 bd.length c4])] w fun e w'=>e=.returned (.tuple #[.int .i64 r.c,.int .i64 r.at',.int .i64 r.e])/\Below w.heap.size w w':=by
 have gout:=@gA w;have PAt:=aa hp;have HR:=aa hr;have HD:=aa hd;have HL:=aa hl;have hlm:=hp.hd.2.1;clear hp hr hd hl;go_enter Tryz.func145,Tryz.ntmps145
 go_upto_region 1 with (fail)
 refine aG ?_;intro gg;have goutW:∀(g:G (gw0 gg)),Below w.heap.size w g.W:=fun g=>gout g;go_wp2_with fail
 go_loopw [5] (fun i W=>∃(k:Nat) (g:G (gw0 gg)),i=.int .i64 k/\W=g.W/\k<=ds.length/\Aside0 (∀j,j<k->dL ds j=ac)) (fun i _=>ds.length - (intOf i).toNat)
 case atStart=>exact⟨0,gg,rfl,rfl,bk _,⟨fun j hj=>absurd hj (da _)⟩⟩
 case round=>
  obtain⟨k,gx,rfl,rfl,hk,HK5⟩:=hrel
  by_cases hlt:k<ds.length
  ·obtain⟨adr,A9d,c9d,e1,q0,q1,q2,q3,l9,g9⟩:=eD PAt.out.hd (k:Int) (bo _) (by omega);cases e1;rw[ax]at q0 q1 q2 q3;have r0:∀g':G (gw0 gg),g'.W.cell? (adr.add (k*4))=ag (.int .i64 (aI ds (k:Int)).f0):=fun g'=>aE (goutW g') q0;have r1:∀g':G (gw0 gg),g'.W.cell? ⟨(adr.add (k*4)).block,(adr.add (k*4)).off+1,ak⟩=ag (.string (aI ds (k:Int)).f1):=fun g'=>aE (goutW g') q1;have r2:∀g':G (gw0 gg),g'.W.cell? ⟨(adr.add (k*4)).block,(adr.add (k*4)).off+2,ak⟩=ag (.int .i64 (aI ds (k:Int)).f2):=fun g'=>aE (goutW g') q2;have r3:∀g':G (gw0 gg),g'.W.cell? ⟨(adr.add (k*4)).block,(adr.add (k*4)).off+3,ak⟩=ag (.slice A9d (aI ds (k:Int)).f3.length c9d):=fun g'=>aE (goutW g') q3;have VAL:=aa (aj l9 g9);clear q0 q1 q2 q3 l9 g9
   have hi1:(k:Int)<(ds.length:Int):=by omega
   have MEM:=aa (eJ hlt);have TW:=aa (findI_at hlt)
   rcases aL (dL ds k)with hy | hy
   ·have d:fR ds (aI ds (k:Int)).f1<(k:Int):=TW.out.2 hy;have HY:=aa hy;clear hy
    go_upto_region 4 with (fail)
    refine aQ (g:=gx) (by kernel_rfl) (by kernel_rfl) ?_
    repeat(go_big_quiet_step (fail))
    go_big_quiet_step (first | (go_at_call 225;exact aD (pN (PAt.out.below (goutW _)) rfl)))
    repeat(go_big_quiet_step (fail))
    refine wpQuiet_nil ?_;rintro _ ⟨gg2,rfl⟩;go_wp2_with fail;go_ret3;have e2:r= _:=HR.out.trans (declS_5 hlt HY.out HK5.out);exact⟨kL (by rw[e2]) (by rw[e2]) (by rw[e2]),goutW _⟩
   ·have d:¬fR ds (aI ds (k:Int)).f1<(k:Int):=fun h=>by rw[TW.out.1 h]at hy;cases hy
    have HY:=aa hy;clear hy
    go_upto_region 4 with (fail)
    refine aQ (g:=gx) (by kernel_rfl) (by kernel_rfl) ?_
    repeat(go_big_quiet_step (fail))
    go_big_quiet_step (first | (go_at_call 225;exact aD (pN (PAt.out.below (goutW _)) rfl)))
    repeat(go_big_quiet_step (fail))
    refine wpQuiet_nil ?_;rintro _ ⟨gg2,rfl⟩;go_wp2_with fail;exact⟨⟨k+1,gg2,by go_num,rfl,by omega,⟨fun j hj=>(gy (j=k)).elim (fun h=>h ▸ HY.out) (fun h=>HK5.out j (by omega))⟩⟩,by simp[intOf];omega⟩
  ·have HK5':=aa (show ∀j,j<ds.length->dL ds j=ac from fun j hj=>HK5.out j (by omega))
   have hge:¬(k:Int)<(ds.length:Int):=by omega
   go_wp2_with fail
   go_loopw [6] (fun i W=>∃(k:Nat) (g:G (gw0 gg)),i=.int .i64 k/\W=g.W/\k<=ds.length/\Aside0 (∀j,j<k->bZ ds j=ac)) (fun i _=>ds.length - (intOf i).toNat)
   case atStart=>exact⟨0,gx,rfl,rfl,bk _,⟨fun j hj=>absurd hj (da _)⟩⟩
   case round=>
    obtain⟨k,gx,rfl,rfl,hk,HK6⟩:=hrel
    by_cases hlt:k<ds.length
    ·obtain⟨adr,A9d,c9d,e1,q0,q1,q2,q3,l9,g9⟩:=eD PAt.out.hd (k:Int) (bo _) (by omega);cases e1;rw[ax]at q0 q1 q2 q3;have r0:∀g':G (gw0 gg),g'.W.cell? (adr.add (k*4))=ag (.int .i64 (aI ds (k:Int)).f0):=fun g'=>aE (goutW g') q0;have r1:∀g':G (gw0 gg),g'.W.cell? ⟨(adr.add (k*4)).block,(adr.add (k*4)).off+1,ak⟩=ag (.string (aI ds (k:Int)).f1):=fun g'=>aE (goutW g') q1;have r2:∀g':G (gw0 gg),g'.W.cell? ⟨(adr.add (k*4)).block,(adr.add (k*4)).off+2,ak⟩=ag (.int .i64 (aI ds (k:Int)).f2):=fun g'=>aE (goutW g') q2;have r3:∀g':G (gw0 gg),g'.W.cell? ⟨(adr.add (k*4)).block,(adr.add (k*4)).off+3,ak⟩=ag (.slice A9d (aI ds (k:Int)).f3.length c9d):=fun g'=>aE (goutW g') q3;have VAL:=aa (aj l9 g9);clear q0 q1 q2 q3 l9 g9
     have hi1:(k:Int)<(ds.length:Int):=by omega
     have MEM:=aa (eJ hlt)
     by_cases z:(aI ds (k:Int)).f2=0
     ·have HY:=aa (show bZ ds k=ac by simp[bZ,z]);go_wp2_with fail;exact⟨⟨k+1,gx,by go_num,rfl,by omega,⟨fun j hj=>(gy (j=k)).elim (fun h=>h ▸ HY.out) (fun h=>HK6.out j (by omega))⟩⟩,by simp[intOf];omega⟩
     ·have bz:=bn z;have e:=aa (u64_id (HD.out _ MEM.out).1 (HD.out _ MEM.out).2.1);go_wp2_with fail;rw[e.out]
      rcases aL (dJ (aI ds (k:Int)).f2)with h2 | h2
      ·have HY:=aa (show bZ ds k=ac by simp[bZ,h2]);refine(aD (g:=gx) (power_v h2 gx.W)).mono ?_;rintro _ _ ⟨rfl,gg2,rfl⟩;clear h2;go_wp2_with fail;exact⟨⟨k+1,gg2,by go_num,rfl,by omega,⟨fun j hj=>(gy (j=k)).elim (fun h=>h ▸ HY.out) (fun h=>HK6.out j (by omega))⟩⟩,by simp[intOf];omega⟩
      ·have HY:=aa (show bZ ds k=af by simp[bZ,h2,z]);refine(aD (g:=gx) (power_v h2 gx.W)).mono ?_;rintro _ _ ⟨rfl,gg2,rfl⟩;clear h2;go_wp2_with fail;go_ret3;have e2:r= _:=HR.out.trans (declS_6 HK5'.out hlt HY.out HK6.out);exact⟨kL (by rw[e2]) (by rw[e2]) (by rw[e2]),goutW _⟩
    ·have HK6':=aa (show ∀j,j<ds.length->bZ ds j=ac from fun j hj=>HK6.out j (by omega))
     have hge:¬(k:Int)<(ds.length:Int):=by omega
     go_wp2_with fail
     go_loopw [7] (fun i W=>∃(k:Nat) (g:G (gw0 gg)),i=.int .i64 k/\W=g.W/\k<=ds.length/\Aside0 (∀j,j<k->bH ds j=ac)) (fun i _=>ds.length - (intOf i).toNat)
     case atStart=>exact⟨0,gx,rfl,rfl,bk _,⟨fun j hj=>absurd hj (da _)⟩⟩
     case round=>
      obtain⟨k,gx,rfl,rfl,hk,HK7⟩:=hrel
      by_cases hlt:k<ds.length
      ·obtain⟨adr,A9d,c9d,e1,q0,q1,q2,q3,l9,g9⟩:=eD PAt.out.hd (k:Int) (bo _) (by omega);cases e1;rw[ax]at q0 q1 q2 q3;have r0:∀g':G (gw0 gg),g'.W.cell? (adr.add (k*4))=ag (.int .i64 (aI ds (k:Int)).f0):=fun g'=>aE (goutW g') q0;have r1:∀g':G (gw0 gg),g'.W.cell? ⟨(adr.add (k*4)).block,(adr.add (k*4)).off+1,ak⟩=ag (.string (aI ds (k:Int)).f1):=fun g'=>aE (goutW g') q1;have r2:∀g':G (gw0 gg),g'.W.cell? ⟨(adr.add (k*4)).block,(adr.add (k*4)).off+2,ak⟩=ag (.int .i64 (aI ds (k:Int)).f2):=fun g'=>aE (goutW g') q2;have r3:∀g':G (gw0 gg),g'.W.cell? ⟨(adr.add (k*4)).block,(adr.add (k*4)).off+3,ak⟩=ag (.slice A9d (aI ds (k:Int)).f3.length c9d):=fun g'=>aE (goutW g') q3;have VAL:=aa (aj l9 g9);clear q0 q1 q2 q3 l9 g9
       have hi1:(k:Int)<(ds.length:Int):=by omega
       have MEM:=aa (eJ hlt)
       by_cases z:(aI ds (k:Int)).f0=3
       ·by_cases y:((aI ds (k:Int)).f3.length:Int)=(aI ds (k:Int)).f2
        ·have HY:=aa (show bH ds k=ac by simp[bH,y])
         have by':(((aI ds (k:Int)).f3.length:Int) != (aI ds (k:Int)).f2)=ac:=by simpa using y
         clear y
         go_upto_region 14 with (fail)
         refine aQ (g:=gx) (by kernel_rfl) (by kernel_rfl) ?_
         repeat(go_big_quiet_step (fail))
         refine wpQuiet_nil ?_;rintro _ ⟨gg2,rfl⟩;go_wp2_with fail;exact⟨⟨k+1,gg2,by go_num,rfl,by omega,⟨fun j hj=>(gy (j=k)).elim (fun h=>h ▸ HY.out) (fun h=>HK7.out j (by omega))⟩⟩,by simp[intOf];omega⟩
        ·have HY:=aa (show bH ds k=af by simp[bH,y,z]);have by':=bn y;clear y
         go_upto_region 14 with (fail)
         refine aQ (g:=gx) (by kernel_rfl) (by kernel_rfl) ?_
         repeat(go_big_quiet_step (fail))
         refine wpQuiet_nil ?_;rintro _ ⟨gg2,rfl⟩;go_wp2_with fail;go_ret3;have e2:r= _:=HR.out.trans (declS_7 HK5'.out HK6'.out hlt HY.out HK7.out);exact⟨kL (by rw[e2]) (by rw[e2]) (by rw[e2]),goutW _⟩
       ·have HY:=aa (show bH ds k=ac by simp[bH,z]);have bz:=bf z
        go_upto_region 14 with (fail)
        refine aQ (g:=gx) (by kernel_rfl) (by kernel_rfl) ?_
        repeat(go_big_quiet_step (fail))
        refine wpQuiet_nil ?_;rintro _ ⟨gg2,rfl⟩;go_wp2_with fail;exact⟨⟨k+1,gg2,by go_num,rfl,by omega,⟨fun j hj=>(gy (j=k)).elim (fun h=>h ▸ HY.out) (fun h=>HK7.out j (by omega))⟩⟩,by simp[intOf];omega⟩
      ·have HK7':=aa (show ∀j,j<ds.length->bH ds j=ac from fun j hj=>HK7.out j (by omega))
       have hge:¬(k:Int)<(ds.length:Int):=by omega
       go_wp2_with fail
       go_loopw [9,8] (fun i n W=>∃(k:Nat) (m:Int) (g:G (gw0 gg)),i=.int .i64 k/\n=.int .i64 m/\W=g.W/\k<=ds.length/\Aside0 ((∀j,j<k->cS wd ds j=ac)/\m=dG (ds.take k)/\0<=m/\m<=256*(k:Int))) (fun i _ _=>ds.length - (intOf i).toNat)
       case atStart=>exact⟨0,0,gx,rfl,rfl,rfl,bk _,⟨fun j hj=>absurd hj (da _),by simp[dG],by omega,by omega⟩⟩
       case round=>
        obtain⟨k,m,gx,rfl,rfl,rfl,hk,HK8⟩:=hrel
        by_cases hlt:k<ds.length
        ·obtain⟨adr,A9d,c9d,e1,q0,q1,q2,q3,l9,g9⟩:=eD PAt.out.hd (k:Int) (bo _) (by omega);cases e1;rw[ax]at q0 q1 q2 q3;have r0:∀g':G (gw0 gg),g'.W.cell? (adr.add (k*4))=ag (.int .i64 (aI ds (k:Int)).f0):=fun g'=>aE (goutW g') q0;have r1:∀g':G (gw0 gg),g'.W.cell? ⟨(adr.add (k*4)).block,(adr.add (k*4)).off+1,ak⟩=ag (.string (aI ds (k:Int)).f1):=fun g'=>aE (goutW g') q1;have r2:∀g':G (gw0 gg),g'.W.cell? ⟨(adr.add (k*4)).block,(adr.add (k*4)).off+2,ak⟩=ag (.int .i64 (aI ds (k:Int)).f2):=fun g'=>aE (goutW g') q2;have r3:∀g':G (gw0 gg),g'.W.cell? ⟨(adr.add (k*4)).block,(adr.add (k*4)).off+3,ak⟩=ag (.slice A9d (aI ds (k:Int)).f3.length c9d):=fun g'=>aE (goutW g') q3;have VAL:=aa (aj l9 g9);clear q0 q1 q2 q3 l9 g9
         have hi1:(k:Int)<(ds.length:Int):=by omega
         have MEM:=aa (eJ hlt);replace r0:=r0 gx;replace r1:=r1 gx;replace r2:=r2 gx;replace r3:=r3 gx;have hlv:=VAL.out.2.2.1;have hsz:w.heap.size<gx.W.heap.size:=br (by simp[gw0]) gx.below.size
         go_upto_region 21 with (fail)
         refine aG ?_;intro g2;have goutX:∀(g:G (gw0 g2)),Below (gw0 gg).heap.size (gw0 gg) g.W:=fun g=>(gx.below.alloc gx.below.size _).trans (g.below.mono (bi gx.below.size (by simp[gw0])));have goutI:∀(g:G (gw0 g2)),Below w.heap.size w g.W:=fun g=>goutW (mkG (goutX g));go_wp2_with fail
         go_loopw [11] (fun i W=>∃(j:Nat) (g:G (gw0 g2)),i=.int .i64 j/\W=g.W/\j<=(aI ds (k:Int)).f3.length/\Aside0 (∀i,i<j->gP wd ((aI ds (k:Int)).f3.getD i 0)=af)) (fun i _=>(aI ds (k:Int)).f3.length - (intOf i).toNat)
         case atStart=>exact⟨0,g2,rfl,rfl,bk _,⟨fun j hj=>absurd hj (da _)⟩⟩
         case round=>
          obtain⟨j,g3,rfl,rfl,hj,HK9⟩:=hrel
          by_cases hjl:j<(aI ds (k:Int)).f3.length
          ·have hv9:=VAL.out.2.2.1;obtain⟨adv,cs9,eA,ec9,eK9,hc9⟩:=Kd.oZ (d:=Kd.int .u64) VAL.out.2 (0:Int) (j:Int) (bo _) (by omega);cases eA;have eK9':cs9=[.int .u64 ((aI ds (k:Int)).f3.getD (j:Int).toNat 0)]:=eK9;subst eK9';have s0:=hc9 0 _ rfl;rw[ax]at s0;clear hc9 eK9 ec9;have t0:∀g':G (gw0 g2),g'.W.cell? (adv.add (j*1+0))=ag (.int .u64 ((aI ds (k:Int)).f3.getD j 0)):=fun g'=>aE (goutI g') s0;simp only[ib,gm]at t0;clear s0
           have hj1:(j:Int)<((aI ds (k:Int)).f3.length:Int):=by omega
           have hv0:=aa (show 0<=(aI ds (k:Int)).f3.getD j 0 from(HD.out _ MEM.out).2.2 _ (qF hjl));obtain⟨z,hz⟩:∃z,(aI ds (k:Int)).f3.getD j 0=z:=⟨_,rfl⟩;rw[hz]at hv0 t0;have HZ:=aa hz;clear hz
           rcases aL (gP wd z)with hf | hf
           ·have HF:=aa hf;clear hf
            go_upto_region 24 with (fail)
            refine aQ (g:=g3) (by kernel_rfl) (by kernel_rfl) ?_
            repeat(go_big_quiet_step (fail))
            go_big_quiet_step (first | (go_at_call 226;exact aD (fits_v HF.out hw hv0.out _)))
            repeat(go_big_quiet_step (fail))
            refine wpQuiet_nil ?_;rintro _ ⟨g4,rfl⟩;go_wp2_with fail;exact⟨⟨j+1,g4,by go_num,rfl,by omega,⟨fun i hi=>(gy (i=j)).elim (fun h=>by rw[h,HZ.out];exact HF.out) (fun h=>HK9.out i (by omega))⟩⟩,by simp[intOf];omega⟩
           ·have HF:=aa hf;clear hf
            go_upto_region 24 with (fail)
            refine aQ (g:=g3) (by kernel_rfl) (by kernel_rfl) ?_
            repeat(go_big_quiet_step (fail))
            go_big_quiet_step (first | (go_at_call 226;exact aD (fits_v HF.out hw hv0.out _)))
            repeat(go_big_quiet_step (fail))
            refine wpQuiet_nil ?_;rintro _ ⟨g4,rfl⟩;go_wp2_with fail;go_ret3;have e2:r= _:=HR.out.trans (declS_8 HK5'.out HK6'.out HK7'.out hlt (range_bad hjl (by rw[HZ.out];exact HF.out)) HK8.out.1);exact⟨kL (by rw[e2]) (by rw[e2]) (by rw[e2]),goutI _⟩
          ·have HY:=aa (range_good (wd:=wd) (ds:=ds) (k:=k) fun i hi=>HK9.out i (by omega))
           have hgj:¬(j:Int)<((aI ds (k:Int)).f3.length:Int):=by omega
           have T:=aa (congrArg dG (rS hlt));have WL:=aa (words_le (d:=(aI ds (k:Int))) (size_good (HK6'.out k hlt)))
           by_cases f1:(aI ds (k:Int)).f0=1
           ·have b1:((aI ds (k:Int)).f0==1)=af:=by simp[f1]
            have F1:=aa f1;clear f1;obtain⟨m',hm'⟩:∃z,z=m+cT (aI ds (k:Int)):=⟨_,rfl⟩;have HM':=aa (show m'=dG (ds.take (k+1))/\0<=m'/\m'<=256*((k+1:Nat):Int) by have h1:=T.out;have h2:=HK8.out.2;have h3:=WL.out;have h4:=HL.out;rw[mF,if_pos (by simp[isIn,F1.out])]at h1;rw[hm',h1];omega);have HM2:=aa (show wrap64 (m+cT (aI ds (k:Int)))=m' by rw[hm'];exact jW (by have h2:=HK8.out.2;have h3:=WL.out;omega) (by have h2:=HK8.out.2;have h3:=WL.out;have h4:=HL.out;omega));clear hm';go_wp2_with fail;refine(aD (g:=g3) (rR (aI ds (k:Int)) A9d c9d g3.W (Kd.aF VAL.out.2 (goutI g3)) VAL.out.1)).mono ?_;rintro _ _ ⟨rfl,g5,rfl⟩;go_wp2_with fail;refine⟨⟨k+1,m',mkG (goutX g5),by go_num,(by rw[HM2.out]),rfl,by omega,⟨fun i hi=>(gy (i=k)).elim (fun h=>h ▸ HY.out) (fun h=>HK8.out.1 i (by omega)),HM'.out⟩⟩,by simp[intOf];omega⟩
           ·have b1:=bf f1
            by_cases f2:(aI ds (k:Int)).f0=2
            ·have b2:((aI ds (k:Int)).f0==2)=af:=by simp[f2]
             have F2:=aa f2;clear f2;obtain⟨m',hm'⟩:∃z,z=m+cT (aI ds (k:Int)):=⟨_,rfl⟩;have HM':=aa (show m'=dG (ds.take (k+1))/\0<=m'/\m'<=256*((k+1:Nat):Int) by have h1:=T.out;have h2:=HK8.out.2;have h3:=WL.out;have h4:=HL.out;rw[mF,if_pos (by simp[isIn,F2.out])]at h1;rw[hm',h1];omega);have HM2:=aa (show wrap64 (m+cT (aI ds (k:Int)))=m' by rw[hm'];exact jW (by have h2:=HK8.out.2;have h3:=WL.out;omega) (by have h2:=HK8.out.2;have h3:=WL.out;have h4:=HL.out;omega));clear hm';go_wp2_with fail;refine(aD (g:=g3) (rR (aI ds (k:Int)) A9d c9d g3.W (Kd.aF VAL.out.2 (goutI g3)) VAL.out.1)).mono ?_;rintro _ _ ⟨rfl,g5,rfl⟩;go_wp2_with fail;refine⟨⟨k+1,m',mkG (goutX g5),by go_num,(by rw[HM2.out]),rfl,by omega,⟨fun i hi=>(gy (i=k)).elim (fun h=>h ▸ HY.out) (fun h=>HK8.out.1 i (by omega)),HM'.out⟩⟩,by simp[intOf];omega⟩
            ·have b2:=bf f2;obtain⟨m',hm'⟩:∃z,z=m:=⟨_,rfl⟩;have HM':=aa (show m'=dG (ds.take (k+1))/\0<=m'/\m'<=256*((k+1:Nat):Int) by have h1:=T.out;have h2:=HK8.out.2;rw[mF,if_neg (by simp[isIn,f1,f2])]at h1;rw[hm',h1];omega);have HM2:=aa hm';clear hm';go_wp2_with fail;refine⟨⟨k+1,m',mkG (goutX g3),by go_num,(by rw[HM2.out]),rfl,by omega,⟨fun i hi=>(gy (i=k)).elim (fun h=>h ▸ HY.out) (fun h=>HK8.out.1 i (by omega)),HM'.out⟩⟩,by simp[intOf];omega⟩
        ·have hge:¬(k:Int)<(ds.length:Int):=by omega
         have E9:=aa (declS_9 (wd:=wd) HK5'.out HK6'.out HK7'.out (fun j hj=>HK8.out.1 j (by omega)));have M9:=aa (show m=dG ds by have h:=HK8.out.2.1;rw[show k=ds.length by omega,eu]at h;exact h)
         by_cases h9:4096<m
         ·have H9:=aa h9;go_wp2_with fail;go_ret3
          have e2:r=⟨9,-1,169⟩:=by rw[HR.out,E9.out,if_pos (by rw[←M9.out];have:=H9.out;omega)]
          exact⟨kL (by rw[e2]) (by rw[e2]) (by rw[e2]),goutW _⟩
         ·have H9:=aa h9;go_wp2_with fail;go_ret3
          have e2:r=⟨0,0,0⟩:=by rw[HR.out,E9.out,if_neg (by rw[←M9.out];have:=H9.out;omega)]
          exact⟨kL (by rw[e2]) (by rw[e2]) (by rw[e2]),goutW _⟩
end
def sW:Th->Prop
 | .decl _=>True
 | .stmt s _ _=>0<=s.f5/\s.f5<18446744073709551616
 | .expr e _=>0<=e.f1
theorem okU_b {n:Int}(h:Ot.okU n):0<=n/\n<18446744073709551616:=by
 unfold Ot.okU at h;simp[Lit.wf,IntKind.min,IntKind.max,jf,js]at h;omega
mutual
theorem sX:∀(e:S116) (lo:List ByteArray),Ot.lL e->∀t∈eB e lo,sW t
 | ⟨a,b,s,l⟩,lo,h,t,ht=>by
   rw[Ot.lL]at h;rw[eB]at ht
   rcases iv.1 ht with rfl | ht
   ·exact(okU_b h.2.1).1
   ·exact good_exThs l lo h.2.2.2.2 t ht
theorem good_exThs:∀(l:List S116) (lo:List ByteArray),Ot.tB l->∀t∈e7 l lo,sW t
 | [],_,_,t,ht=>by rw[e7]at ht;cases ht
 |x::r,lo,h,t,ht=>by
  rw[Ot.tB]at h;rw[e7]at ht
  rcases fk.1 ht with ht | ht
  ·exact sX x lo h.1 t ht
  ·exact good_exThs r lo h.2 t ht
end
mutual
theorem good_stTh:∀(x:S119) (d:Nat) (lo:List ByteArray),Ot.jV x->∀t∈stTh x d lo,sW t
 | ⟨k,nm,e,f,l,h,th,el⟩,d,lo,hg,t,ht=>by
   rw[Ot.jV]at hg;obtain⟨_,_,h1,h2,_,h3,_,_,h4,h5⟩:=hg;rw[stTh]at ht
   rcases iv.1 ht with rfl | ht
   ·exact okU_b h3
   ·rcases fk.1 ht with ht | ht
    ·rcases fk.1 ht with ht | ht
     ·split at ht
      ·exact sX e lo h1 t ht
      ·cases ht
     ·split at ht
      ·exact sX f lo h2 t ht
      ·cases ht
    ·rcases fk.1 ht with ht | ht
     ·exact mE th _ _ h4 t ht
     ·exact mE el _ _ h5 t ht
theorem mE:∀(l:List S119) (d:Nat) (lo:List ByteArray),Ot.kZ l->∀t∈aN l d lo,sW t
 | [],_,_,_,t,ht=>by rw[aN]at ht;cases ht
 |x::r,d,lo,h,t,ht=>by
  rw[Ot.kZ]at h;rw[aN]at ht
  rcases fk.1 ht with ht | ht
  ·exact good_stTh x d lo h.1 t ht
  ·exact mE r d lo h.2 t ht
end
theorem r8 {ds:List S70}{bd:List S119}(h:∀t∈bd,Ot.jV t):∀t∈things ds bd,sW t:=by
 intro t ht;unfold things at ht
 rcases fk.1 ht with ht | ht
 ·obtain⟨i,_,rfl⟩:=List.mem_map.1 ht;trivial
 ·exact mE bd 1 [] ((Ot.cV bd).2 h) t ht
theorem nR {t:Th}{s:ByteArray}(h:jS t=ag s):jH (aZ t)=(s,af):=by
 cases t with
 |decl i=>simp[jS]at h
 |stmt x d lo=>
  simp only[jS]at h
  split at h
  ·rename_i hk;injection h with h;subst h;simp[jH,aZ,hk]
  ·cases h
 |expr e lo=>
  simp only[jS]at h
  split at h
  ·rename_i hk;injection h with h;subst h;simp[jH,aZ,hk]
  ·cases h
theorem rE {t:Th}(h:jS t=ak):(jH (aZ t)).2=ac:=by
 cases t with
 |decl i=>rfl
 |stmt x d lo=>
  simp only[jS]at h
  split at h
  ·cases h
  ·rename_i hk;simp[jH,aZ,hk]
 |expr e lo=>
  simp only[jS]at h
  split at h
  ·cases h
  ·rename_i hk;simp[jH,aZ,hk]
theorem oL (t:Th):(aZ t).loops=gN t:=by cases t <;> rfl
theorem findI_lt {ds:List S70}{s:ByteArray}:decide (fR ds s<0)=(cG ds s).isNone:=by
 unfold fR
 cases cG ds s with
 |none=>simp
 |some i=>simp
theorem findI_ge {ds:List S70}{s:ByteArray}:decide (0<=fR ds s)=(cG ds s).isSome:=by
 unfold fR
 cases cG ds s with
 |none=>simp
 |some i=>simp
theorem findB_lt {ds:List S70}{s:ByteArray}{i:Nat}(h:cG ds s=ag i):i<ds.length:=by
 unfold cG at h
 rcases dK ds.length (fun j=>eqS (aI ds (j:Int)).f1 s)with ⟨h1,_⟩ | ⟨m,h0,h1,_,_⟩
 ·rw[h1]at h;cases h
 ·rw[h1]at h;injection h with h;omega
theorem viol10_eq (t:Th):mO (aZ t)=qX t:=by
 cases t with
 |decl i=>rfl
 |stmt x d lo=>simp only[mO,aZ,qX];congr 1;exact propext ⟨fun h=>by omega,fun h=>by omega⟩
 |expr e lo=>simp only[mO,aZ,qX];congr 1;exact propext ⟨fun h=>by omega,fun h=>by omega⟩
theorem viol11_eq (ds:List S70)(t:Th):iX ds (aZ t)=lG ds t:=by
 unfold iX lG
 cases h:jS t with
 |none=>rw[rE h];rfl
 |some s=>rw[nR h,oL,findI_lt];rfl
theorem viol12_eq (ds:List S70)(t:Th)(h11:lG ds t=ac):lD ds (aZ t)=bad12 ds t:=by
 unfold lD bad12
 cases h:jS t with
 |none=>rw[rE h];rfl
 |some s=>
  rw[nR h];unfold kindV sS;rw[oL];simp only[ku]
  congr 1
  by_cases hh:iL (gN t) s=af
  ·rw[if_pos hh,if_pos hh]
   cases t <;> simp[aZ,pU]
  ·rw[if_neg hh,if_neg hh];unfold lG at h11;rw[h]at h11;simp only[Bool.and_eq_false_iff,Bool.not_eq_false']at h11
   rcases h11 with h11 | h11
   ·exact absurd h11 hh
   ·cases hf:cG ds s with
    |none=>rw[hf]at h11;cases h11
    |some i=>
     have e:fR ds s=(i:Int):=by unfold fR;rw[hf]
     rw[e,Option.getD_some]
     cases t with
     |decl j=>simp[jS]at h
     |stmt x d lo=>simp[kindW,aZ,sD] <;> rfl
     |expr x lo=>simp[kindW,aZ,sD] <;> rfl
theorem viol13_eq (wd:Int)(t:Th):nS wd (aZ t)=bad13 wd t:=by cases t <;> simp[nS,aZ,bad13] <;> rfl
theorem viol14_eq (wd:Int)(t:Th):nX wd (aZ t)=pW wd t:=by cases t <;> simp[nX,aZ,pW] <;> rfl
theorem viol15_eq (ds:List S70)(t:Th):mM ds (aZ t)=pZ ds t:=by
 cases t with
 |decl i=>simp[mM,aZ,pZ]
 |stmt x d lo=>unfold mM pZ;rw[show(aZ (.stmt x d lo)).s.f1=x.f1 from rfl,findI_ge];rfl
 |expr e lo=>simp[mM,aZ,pZ]
theorem viol_v (nm:ByteArray)(wd ln:Int)(ds:List S70)(bd:List S119)(A3:Option Addr)(c3:Nat)(A4:Option Addr)(c4:Nat)(t:Th){A5:Option Addr}{c5:Nat}{A9:Option Addr}{c9:Nat}{A12:Option Addr}{c12:Nat}{A13:Option Addr}{c13:Nat}{A19:Option Addr}{c19:Nat}{A21:Option Addr}{c21:Nat}(w:World)(hp:ProgAt w ds bd A3 c3 A4 c4)
 (hlo:Kd.string.C w A21 (aZ t).loops.length (aZ t).loops) (hll:(aZ t).loops.length<=c21) (hw:0<=wd) (hg:sW t) (c:Nat) (h10:10<=c) (h15:c<=15) (h12:c=12->lG ds t=ac) (r:Int) (hr:r=if badC wd ds c t=af then qH c else 0):
 Calls au 146 #[(.agg #[.string nm,.int .i64 wd,.int .i64 ln,.slice A3 ds.length c3,.slice A4 bd.length c4]),(.agg #[.int .i64 (aZ t).is,.int .i64 (aZ t).d,.int .i64 (aZ t).s.f0,.string (aZ t).s.f1,.int .i64 (aZ t).s.f2.f0,.int .u64 (aZ t).s.f2.f1,.string (aZ t).s.f2.f2,.slice A5 (aZ t).s.f2.f3.length c5,.int .i64 (aZ t).s.f3.f0,.int .u64 (aZ t).s.f3.f1,.string (aZ t).s.f3.f2,.slice A9 (aZ t).s.f3.f3.length c9,.int .u64 (aZ t).s.f4,.int .u64 (aZ t).s.f5,.slice A12 (aZ t).s.f6.length c12,.slice A13 (aZ t).s.f7.length c13,.int .i64 (aZ t).e.f0,.int .u64 (aZ t).e.f1,.string (aZ t).e.f2,.slice A19 (aZ t).e.f3.length c19,.int .i64 (aZ t).deep,.slice A21 (aZ t).loops.length c21]),.int .i64 (c:Int)] w fun e w'=>e=.returned (.int .i64 r)/\Below w.heap.size w w':=by
 have hx:(aZ t).is=0\/(aZ t).is=1\/(aZ t).is=2:=by cases t <;> simp[aZ]
 have hc:c=10\/c=11\/c=12\/c=13\/c=14\/c=15:=by omega
 rcases hc with rfl | rfl | rfl | rfl | rfl | rfl
 ·exact viol10_calls nm wd ln ds bd A3 c3 A4 c4 (aZ t) w hp hlo hll hx r (by rw[hr,viol10_eq];rfl)
 ·exact viol11_calls nm wd ln ds bd A3 c3 A4 c4 (aZ t) w hp hlo hll hx r (by rw[hr,viol11_eq];rfl)
 ·refine viol12_calls nm wd ln ds bd A3 c3 A4 c4 (aZ t) w hp hlo hll hx ?_ r (by rw[hr,viol12_eq ds t (h12 rfl)];rfl);intro hu hh;have h11:=h12 rfl
  cases h:jS t with
  |none=>rw[rE h]at hu;cases hu
  |some s=>
   rw[nR h,oL]at hh;rw[nR h];unfold lG at h11;rw[h]at h11;simp only[hh,Bool.not_false,ku]at h11
   cases hf:cG ds s with
   |none=>rw[hf]at h11;cases h11
   |some i=>exact⟨i,findB_lt hf,by unfold fR;rw[hf]⟩
 ·refine viol13_calls nm wd ln ds bd A3 c3 A4 c4 (aZ t) w hp hlo hll hx hw ?_ r (by rw[hr,viol13_eq];rfl)
  cases t with
  |decl i=>exact Int.le_refl 0
  |stmt x d lo=>exact Int.le_refl 0
  |expr e lo=>exact hg
 ·refine viol14_calls nm wd ln ds bd A3 c3 A4 c4 (aZ t) w hp hlo hll hx hw ?_ r (by rw[hr,viol14_eq];rfl)
  cases t with
  |decl i=>exact⟨Int.le_refl 0,show(0:Int)<18446744073709551616 by decide⟩
  |stmt x d lo=>exact hg
  |expr e lo=>exact⟨Int.le_refl 0,show(0:Int)<18446744073709551616 by decide⟩
 ·exact viol15_calls nm wd ln ds bd A3 c3 A4 c4 (aZ t) w hp hlo hll hx r (by rw[hr,viol15_eq];rfl)
theorem faultC_at {wd:Int}{ds:List S70}{bd:List S119}{l:List Th}{c i:Nat}(h10:10<=c)(h15:c<=15)(hp:∀c',10<=c'->c'<c->∀j,j<l.length->badC wd ds c' (bK l j)=ac)(hi:i<l.length)(hb:badC wd ds c (bK l i)=af)(hj:∀j,j<i->badC wd ds c (bK l j)=ac):
 dQ wd ds bd l 6=⟨(c:Int),i,qH c⟩:=by
 have e:bJ wd ds l c=ag i:=cD hi hb hj;have n:∀c',10<=c'->c'<c->bJ wd ds l c'=ak:=fun c' h1 h2=>bI (hp c' h1 h2)
 have hc:c=10\/c=11\/c=12\/c=13\/c=14\/c=15:=by omega
 rcases hc with rfl | rfl | rfl | rfl | rfl | rfl
 ·simp only[dQ,e] <;> rfl
 ·simp only[dQ,n 10 (by decide) (by decide),e] <;> rfl
 ·simp only[dQ,n 10 (by decide) (by decide),n 11 (by decide) (by decide),e] <;> rfl
 ·simp only[dQ,n 10 (by decide) (by decide),n 11 (by decide) (by decide),n 12 (by decide) (by decide),e] <;> rfl
 ·simp only[dQ,n 10 (by decide) (by decide),n 11 (by decide) (by decide),n 12 (by decide) (by decide),n 13 (by decide) (by decide),e] <;> rfl
 ·simp only[dQ,n 10 (by decide) (by decide),n 11 (by decide) (by decide),n 12 (by decide) (by decide),n 13 (by decide) (by decide),n 14 (by decide) (by decide),e] <;> rfl
theorem faultC_none {wd:Int}{ds:List S70}{bd:List S119}{l:List Th}(hp:∀c',10<=c'->c'<=15->∀j,j<l.length->badC wd ds c' (bK l j)=ac):
 dQ wd ds bd l 6=if 65536<bS bd then⟨16,-1,168⟩else⟨0,0,0⟩:=by
 have n:∀c',10<=c'->c'<=15->bJ wd ds l c'=ak:=fun c' h1 h2=>bI (hp c' h1 h2);simp only[dQ,n 10 (by decide) (by decide),n 11 (by decide) (by decide),n 12 (by decide) (by decide),n 13 (by decide) (by decide),n 14 (by decide) (by decide),n 15 (by decide) (by decide)]
theorem declS_e {bd:List S119}{wd:Int}{ds:List S70}:((mI wd ds).e=0/\eX wd ds bd=dQ wd ds bd (things ds bd) 6)\/((mI wd ds).e≠0/\eX wd ds bd=mI wd ds):=by
 unfold mI eX
 cases bB ds.length (dL ds)with
 |some i=>right;simp
 |none=>
  cases bB ds.length (bZ ds)with
  |some i=>right;simp
  |none=>
   cases bB ds.length (bH ds)with
   |some i=>right;simp
   |none=>
    cases bB ds.length (cS wd ds)with
    |some i=>right;simp
    |none=>
     by_cases h:4096<dG ds
     ·right;simp[h]
     ·left;simp[h]
theorem headS_e {nm:ByteArray}{wd ln:Int}{ds:List S70}{bd:List S119}:((pV nm wd ln ds bd).2=0/\dR nm wd ln ds bd=af/\dB wd=af/\dJ ln=af/\ds.length<=256/\bC nm wd ln ds bd=eX wd ds bd)\/
 ((pV nm wd ln ds bd).2≠0/\bC nm wd ln ds bd=⟨(pV nm wd ln ds bd).1,-1,(pV nm wd ln ds bd).2⟩):=by
 unfold pV bC
 by_cases h1:dR nm wd ln ds bd=ac
 ·right;simp[h1]
 by_cases h2:dB wd=ac
 ·right;simp[h1,h2]
 by_cases h3:dJ ln=ac
 ·right;simp[h1,h2,h3]
 by_cases h4:256<ds.length
 ·right;simp[h1,h2,h3,h4]
 ·left;rw[if_neg h1,if_neg h2,if_neg h3,if_neg h4,if_neg h1,if_neg h2,if_neg h3,if_neg h4];exact⟨rfl,by simpa using h1,by simpa using h2,by simpa using h3,by omega,rfl⟩
section
attribute [local go_sem] G.cell
def zTh:Value:=.agg #[.int .i64 0,.int .i64 0,.int .i64 0,.string ⟨#[]⟩,.int .i64 0,.int .u64 0,.string ⟨#[]⟩,.slice ak 0 0,.int .i64 0,.int .u64 0,.string ⟨#[]⟩,.slice ak 0 0,.int .u64 0,.int .u64 0,.slice ak 0 0,.slice ak 0 0,.int .i64 0,.int .u64 0,.string ⟨#[]⟩,.slice ak 0 0,.int .i64 0,.slice ak 0 0]
theorem rU:(Tryz.prog.info? 125).map (fun i=>(i.zero,i.size,i.bytes))=ag (ag zTh,22,304):=by kernel_rfl
theorem mX:Tryz.prog.underlying 112=ag (.slice 125):=by kernel_rfl
theorem weight_pos (e:S116):0<aM e:=by obtain⟨a,b,s,l⟩:=e;rw[aM];omega
theorem Lo.below {W0 w w1:World}{v lv:Value}{lo:List ByteArray}(h:Lo W0 w v lv lo)(hb:Below w.heap.size w w1):Lo W0 w1 v lv lo:=Kd.bF h hb
theorem Li.lt {W0 w:World}{v:Value}{xs:List Th}(h:Li 125 W0 w v xs):∀k,v.ownBlock=ag k->k<w.heap.size:=by
 obtain⟨_,inner,ho,_⟩:=h;exact fun k hk=>rK ho k hk
theorem Gro.cell {W0 w w1:World}{v v1:Value}(h:Gro W0 w w1 v v1){a:Addr}(ha:a.block<w.heap.size)(hn:ag a.block≠v.ownBlock):w1.cell? a=w.cell? a:=World.cell?_of_block (w:=w) (h.grown.block a.block ha hn)
theorem fY {v:Value}{n:Nat}(h:∀k,v.ownBlock=ag k->k<n){m:Nat}(hm:n<=m):ag m≠v.ownBlock:=fun e=>by have:=h m e.symm;omega
def ExprsC (e:S116):Prop:=∀(W0 w:World) (v lv:Value) (xs:List Th) (lo:List ByteArray) (A:Option Addr) (c:Nat),Below W0.heap.size W0 w->dC.C W0 A e.f3.length e.f3->e.f3.length<=c->
 Li 125 W0 w v xs->Lo W0 w v lv lo->xs.length+aM e<=8388608->
 Calls au 173 #[v,.agg #[.int .i64 e.f0,.int .u64 e.f1,.string e.f2,.slice A e.f3.length c],lv] w fun r w'=>∃v1,r=.returned v1/\Li 125 W0 w' v1 (xs++eB e lo)/\Gro W0 w w' v v1
theorem exprs_walk (e:S116)(ih:∀y∈e.f3,ExprsC y):ExprsC e:=by
 intro W0 w v lv xs lo A c hb hc hl HL HO hn;obtain⟨La,lc,rfl⟩:=Kd.bN HO;have IH:=aa ih;have HC:=aa hc;have HB:=aa hb;have HLi:=aa HL;have HLo:=aa HO;have HN:=aa hn;have hlm:=hc.2.1;clear ih hc hb HL HO hn;go_enter Tryz.func173,Tryz.ntmps173
 go_upto_region 1 with (fail)
 refine aG ?_;intro gg;have gout:=@gA w;refine eP (n:=9) (S:=fun w'=>∃g':G _,w'=g'.W) (ds:=[7]) #[ac,ac,ac,ac,ac,ac,ac,ac,ac] (by kernel_rfl) rfl rfl ⟨mkG (gg.2.drew),rfl⟩ (fun hHeld=> ?_);obtain⟨gd,hgd⟩:=hHeld;rw[hgd];clear hgd;refine aP (i:=0) (N:=ag 8) (v:= ?_) (a':= ?_) #[af,ac,ac,ac,ac,ac,ac,ac,ac] rfl rfl (by kernel_rfl) (fun _ _ _ h=>h) (bc ⟨by rfl,?_⟩) ?_ ?_;rotate_left
 ·intro w';go_simp;with_reducible rfl
 rotate_left
 ·simp only[ay,ae,ah,ai,aJ,aK];rfl
 refine cY (i:=1) (N:=ag 9) (v:= ?_) (a':= ?_) #[af,af,ac,ac,ac,ac,ac,ac,ac] rfl rfl (by kernel_rfl) (fun _ _ _ h=>h) (bc ⟨by rfl,?_⟩) ⟨gd,rfl⟩ ?_ ?_;rotate_left
 ·rintro w' ⟨g',rfl⟩;go_simp;with_reducible rfl
 rotate_left
 ·simp only[ay,ae,ah,ai,aJ,aK];rfl
 refine cY (i:=2) (N:=ag 10) (v:= ?_) (a':= ?_) #[af,af,af,ac,ac,ac,ac,ac,ac] rfl rfl (by kernel_rfl) (fun _ _ _ h=>h) (bc ⟨by rfl,?_⟩) ⟨gd,rfl⟩ ?_ ?_;rotate_left
 ·rintro w' ⟨g',rfl⟩;go_simp;with_reducible rfl
 rotate_left
 ·simp only[ay,ae,ah,ai,aJ,aK];rfl
 refine aP (i:=4) (N:=ag 12) (v:= ?_) (a':= ?_) #[af,af,af,ac,af,ac,ac,ac,ac] rfl rfl (by kernel_rfl) (fun _ _ _ h=>h) (bc ⟨by rfl,?_⟩) ?_ ?_;rotate_left
 ·intro w';go_simp;with_reducible rfl
 rotate_left
 ·simp only[ay,ae,ah,ai,aJ,aK];rfl
 refine kH (i:=3) (N:=ag 11) #[af,af,af,af,af,ac,ac,ac,ac] rfl rfl (by kernel_rfl) (by simp) (fun Kr hKr=> ?_);refine iP Tryz.func245 (by kernel_rfl) rfl #[.agg #[.int .i64 e.f0,.int .u64 e.f1,.string e.f2,.slice A e.f3.length c]] (by rfl) rfl rfl (by(try simp only[cd,cg,db]);first | done | rfl) ?_;refine(deep_calls _ e (aq _) (by have:=mW e;have:=HN.out;omega) A c gd.W (Kd.aF HC.out (HB.out.trans ((gout gd).mono HB.out.size))) hl).mono ?_;rintro _ w9 ⟨rfl,hb⟩;refine⟨_,rfl,?_⟩;obtain⟨gd,rfl⟩:∃g':G _,w9=g'.W:=⟨mkG (gd.below.trans (hb.mono gd.below.size)),rfl⟩;clear hb;refine hKr.out _ _ ⟨gd,rfl⟩ (fun _=> ?_);clear hKr Kr;refine cW (a':= ?_) ?_ ?_;rotate_left
 ·show ay _ (ag 11) _ = _
  simp only[ay,ae,ah,ai,aJ,aK];rfl
 refine aP (i:=5) (N:=ag 13) (v:= ?_) (a':= ?_) #[af,af,af,af,af,af,ac,ac,ac] rfl rfl (by kernel_rfl) (fun _ _ _ h=>h) (bc ⟨by rfl,?_⟩) ?_ ?_;rotate_left
 ·intro w';go_simp;with_reducible rfl
 rotate_left
 ·simp only[ay,ae,ah,ai,aJ,aK];rfl
 refine kH (i:=6) (N:=ag 14) #[af,af,af,af,af,af,af,ac,ac] rfl rfl (by kernel_rfl) (by simp) (fun Kr hKr=> ?_);refine eC (v:=.slice (ag ⟨gd.W.heap.size,0,ak⟩) 1 1) (w1:=gd.W.alloc (.cells #[.int .i64 2,.int .i64 0,.int .i64 0,.string ⟨#[]⟩,.int .i64 0,.int .u64 0,.string ⟨#[]⟩,.slice ak 0 0,.int .i64 0,.int .u64 0,.string ⟨#[]⟩,.slice ak 0 0,.int .u64 0,.int .u64 0,.slice ak 0 0,.slice ak 0 0,.int .i64 e.f0,.int .u64 e.f1,.string e.f2,.slice A e.f3.length c,.int .i64 ((gH e:Nat):Int),.slice La lo.length lc] 125)) (by rfl) (by first | (go_simp;done) | (go_simp;rfl)) ?_;refine hKr.out _ _ ⟨mkG (G.ball gd _),rfl⟩ (fun _=> ?_);clear hKr Kr;refine cW (a':= ?_) ?_ ?_;rotate_left
 ·show ay _ (ag 14) _ = _
  simp only[ay,ae,ah,ai,aJ,aK];rfl
 refine o4 (i:=7) (N:=ag 15) #[af,af,af,af,af,af,af,af,ac] rfl rfl (by kernel_rfl) (by simp) (fun Kr hKr=> ?_);refine Kd.iJ (kTh W0) (w0:=W0) W0.heap.size (by rfl) (.tmp 8) (.tmp 14) 112 125 zTh 304 rfl mX rU rfl (show 0<22 by decide) (by decide) v (xs.map aZ) (aZ (.expr e lo)) [.int .i64 2,.int .i64 0,.int .i64 0,.string ⟨#[]⟩,.int .i64 0,.int .u64 0,.string ⟨#[]⟩,.slice ak 0 0,.int .i64 0,.int .u64 0,.string ⟨#[]⟩,.slice ak 0 0,.int .u64 0,.int .u64 0,.slice ak 0 0,.slice ak 0 0,.int .i64 e.f0,.int .u64 e.f1,.string e.f2,.slice A e.f3.length c,.int .i64 ((gH e:Nat):Int),.slice La lo.length lc] (fun _=>True) (fun k=>ag k≠v.ownBlock) rfl rfl (qU (x:=aZ (.expr e lo)) (k119_zero W0) (sK W0 e hl HC.out) (HLo.out.below (gout gd))) (fun _ h=>⟨trivial,h⟩) (fun _ _=>trivial) (HLi.out.below (gout gd)) (HB.out.trans ((gout gd).mono HB.out.size)) (bi HB.out.size (gout gd).size) (by have:=HN.out;have:=weight_pos e;simp;omega) ?_;intro v1 w1 ho hb1 hg1 hat1;refine hKr.out _ _ ?_;clear hKr Kr;refine cW (a':= ?_) ?_ ?_;rotate_left
 ·show ay _ (ag 15) _ = _
  simp only[ay,ae,ah,ai,aJ,aK];rfl
 refine aP (i:=8) (N:=ag 0) (v:= ?_) (a':= ?_) #[af,af,af,af,af,af,af,af,af] rfl rfl (by kernel_rfl) (fun _ _ _ h=>h) (bc ⟨by rfl,?_⟩) ?_ ?_;rotate_left
 ·intro w';go_simp;with_reducible rfl
 rotate_left
 ·simp only[ay,ae,ah,ai,aJ,aK];rfl
 refine iF (by kernel_rfl) ?_;have HG:=aa ((Gro.of_below v (HB.out.trans (((ar w.heap.size w).alloc (aq _) _).mono HB.out.size)) gd.below).trans ⟨hb1,hg1,hat1⟩:Gro W0 (gw0 gg) w1 v v1);have HLi1:=aa (show Li 125 W0 w1 v1 (xs++[.expr e lo]) by unfold Li;rw[ef];exact ho);have HLo1:=aa ((HLo.out.below (gout gd)).step ⟨hb1,hg1,hat1⟩);have hvl:=aa (Li.lt HLi.out);clear ho hb1 hg1 hat1;go_wp2_with fail
 go_loopw [7,0] (fun i l W=>∃(k:Nat) (l1:Value) (W1:World),i=.int .i64 k/\l1=l/\W1=W/\k<=e.f3.length/\Aside0 (Li 125 W0 W1 l1 (xs++[.expr e lo]++e7 (e.f3.take k) lo)/\Gro W0 (gw0 gg) W1 v l1/\Lo W0 W1 l1 (.slice La lo.length lc) lo)) (fun i _ _=>e.f3.length - (intOf i).toNat)
 case atStart=>exact⟨0,_,_,rfl,rfl,rfl,bk _,⟨by simpa[e7]using HLi1.out,HG.out,HLo1.out⟩⟩
 case round=>
  obtain⟨k,l1,W1,rfl,rfl,rfl,hk,HREL⟩:=hrel;have hbox:W1.cell? ⟨w.heap.size,3,ak⟩=ag (.slice A e.f3.length c):=(HREL.out.2.1.cell (a:=⟨w.heap.size,3,ak⟩) (by simp[gw0]) (fY hvl.out (aq _))).trans (by simp[gw0,go_sem])
  by_cases hlt:k<e.f3.length
  ·obtain⟨ad,A3,c3,e1,q0,q1,q2,q3,l3,g3⟩:=iD HC.out (k:Int) (bo _) (by omega);cases e1;rw[ax]at q0 q1 q2 q3;have hBB:=HREL.out.2.1.below;replace q0:=(hBB.cell (av W0 _ q0)).trans q0;replace q1:=(hBB.cell (av W0 _ q1)).trans q1;replace q2:=(hBB.cell (av W0 _ q2)).trans q2;replace q3:=(hBB.cell (av W0 _ q3)).trans q3
   have hi1:(k:Int)<(e.f3.length:Int):=by omega
   have K:=aa (aj l3 g3);have HBB:=aa hBB;clear l3 g3 hBB;have MEM:=aa (gS hlt);have T:=aa (congrArg (fun l=>e7 l lo) (dS hlt));have T2:=aa (congrArg bM (dS hlt));have IH1:=aa (IH.out _ MEM.out);clear MEM;generalize bR e.f3 (k:Int)=y at*;go_wp2_with fail
   have HN1:(xs++[Th.expr e lo]++e7 (e.f3.take k) lo).length+aM y<=8388608:=by
    have h1:=HN.out;have h2:=T2.out;have h3:=fP e.f3 (k+1);rw[eI]at h2;rw[eE]at h1;simp only[ba,nZ,bq];omega
   have CALL:=IH1.out W0 W1 l1 (.slice La lo.length lc) (xs++[Th.expr e lo]++e7 (e.f3.take k) lo) lo A3 c3 HBB.out K.out.2 K.out.1 HREL.out.1 HREL.out.2.2 HN1;refine CALL.mono ?_;clear CALL;rintro _ W2 ⟨l2,rfl,hLi2,hGro2⟩;have HR2:=aa (aj hLi2 hGro2);clear hLi2 hGro2;go_wp2_with fail;refine⟨⟨k+1,l2,W2,by go_num,rfl,rfl,by omega,⟨?_,HREL.out.2.1.trans HR2.out.2,HREL.out.2.2.step HR2.out.2⟩⟩,by simp[intOf];omega⟩;have h1:=HR2.out.1;have h2:=T.out;simp only[r7]at h2;rw[h2,←dr];exact h1
  ·go_wp2_with fail;go_ret;refine⟨l1,rfl,?_,?_⟩
   ·have h1:=HREL.out.1;rw[show k=e.f3.length by omega,eu,dr]at h1;rw[iR];exact h1
   ·exact(Gro.of_below v HB.out ((ar _ _).alloc (aq _) _)).trans HREL.out.2.1
theorem kM:∀(n:Nat) (e:S116),cz e<=n->ExprsC e:=by
 intro n
 induction n with
 |zero=>intro e h;obtain⟨a,b,s,l⟩:=e;simp at h
 |succ n ih=>exact fun e h=>exprs_walk e fun y hy=>ih y (eV rfl hy h)
end
end Go.Proofs.YtfigjpehecibeaaGreat.L
