/- Texts joined by a program of mine: Mq Qa Qb Qc Rc Rd Qd Ml Qe. -/
import Derived.Test.YtfigjpehecibeaaGreatZh8
set_option maxRecDepth 100000
open And renaming intro -> aj
open Bool renaming true -> af, false -> ac
open Decidable renaming em -> gy
open Go.Instr renaming lookup -> iw
open Go.Oper renaming wp -> jm
open Go.Proofs.Tryz renaming prog -> au
open Go.Proofs.YtfigjpehecibeaaGreatW.PrintWords.Aside0 renaming mk -> aa
open Go.RowKit.Below renaming refl -> ar
open Go.Value renaming int -> bh, ownBlock -> ee
open Int renaming toNat_natCast -> ax, lt_or_le -> dh, natCast_nonneg -> bo, emod_lt_of_pos -> kp, eq_ofNat_of_zero_le -> ew, natCast_add -> kz
open List renaming getD_eq_getElem?_getD -> aw, getElem?_eq_getElem -> az, getElem_mem -> gn, getElem_of_mem -> gr, range -> bu, range_succ -> jz, map_append -> ef, take_zero -> jx, append_nil -> ed, length_append -> ba, append_assoc -> dr, length_take -> dm, take_length -> eu, length_cons -> jn, length_singleton -> bq, mem_append -> fk, sizeOf_lt_of_mem -> gq
open Nat renaming le_refl -> aq, zero_le -> bk, not_lt_zero -> da, le_trans -> bi, lt_of_lt_of_le -> br
open Option renaming some -> ag, none -> ak
open SizeOf renaming sizeOf -> cz
set_option linter.unusedVariables false
set_option linter.unusedSimpArgs false
set_option maxHeartbeats 8000000
namespace Go.Proofs.YtfigjpehecibeaaGreat.L
open Go.RowKit Bm C Go.Proofs.YtfigjpehecibeaaGreatW.PrintWords Go.Proofs.YtfigjpehecibeaaGreatW.PrintLast Go.Proofs.YtfigjpehecibeaaGreatW.PrintMore Go.Proofs.YtfigjpehecibeaaGreat.Gr
def opR (k:Int):Int:=if k=4 then 15 else if k=5 then 16 else opK k
def opL:Array Value:= #[bh .i64 0,bh .i64 0,bh .i64 0,bh .i64 0,bh .i64 15,bh .i64 16,bh .i64 22,bh .i64 23,bh .i64 24,bh .i64 20,bh .i64 21,bh .i64 25,bh .i64 26,bh .i64 28,bh .i64 29,bh .i64 17,bh .i64 19,bh .i64 18,bh .i64 0,bh .i64 0,bh .i64 0,bh .i64 0,bh .i64 0,bh .i64 0,bh .i64 27,bh .i64 0,bh .i64 0]
theorem opL_get (k:Int)(hk:(4<=k/\k<=17)\/k=24):opL[k.toNat]? =ag (.int .i64 (opR k)):=by
 have h:k=4\/k=5\/k=6\/k=7\/k=8\/k=9\/k=10\/k=11\/k=12\/k=13\/k=14\/k=15\/k=16\/k=17\/k=24:=by omega
 rcases h with rfl | rfl | rfl | rfl | rfl | rfl | rfl | rfl | rfl | rfl | rfl | rfl | rfl | rfl | rfl <;> rfl
def opZ:Array Value:= #[bh .i64 0,bh .i64 0,bh .i64 0,bh .i64 0,bh .i64 0,bh .i64 0,bh .i64 0,bh .i64 0,bh .i64 0,bh .i64 0,bh .i64 0,bh .i64 0,bh .i64 0,bh .i64 0,bh .i64 0,bh .i64 0,bh .i64 0,bh .i64 0,bh .i64 0,bh .i64 0,bh .i64 0,bh .i64 0,bh .i64 0,bh .i64 0,bh .i64 0,bh .i64 0,bh .i64 0]
theorem wpList_build' {P:Program}{ops:Array Oper}{rest:List Oper}{o:Oper}{a:Act}{w:World}{Q:Exit->Act->World->Prop}(hg:o.guard=ak)(t:TypeId)(parts:Array (Nat × Operand))(ho:o.op=.build t parts){cells:Array Value}
 (hf:P.built t (parts.map fun(i,x)=>(i,a.eval x)).toList=ag cells) (h:wpList P ops Q rest (a.put o.dst (.agg cells)) w):wpList P ops Q (o::rest) a w:=
 wpList_build hg t parts ho (by rw[hf];rfl) (by rw[hf];exact h)
theorem wp_alloc264 {o:Oper}{a:Act}{w:World}{K:Act->World->Prop}{Q:Exit->Act->World->Prop}(ho:o.op=.alloc 264)(h:K (a.put o.dst (.pointer (ag ⟨w.heap.size,0,ak⟩))) (w.alloc (.cells opZ 264))):o.wp au a w K Q:=by
 unfold jm execOp;rw[ho];exact h
theorem refOp_calls (k:Int)(hk:(4<=k/\k<=17)\/k=24)(W:World):Calls au 237 #[.int .i64 k] W fun e W'=>e=.returned (.int .i64 (opR k))/\Below W.heap.size W W':=by
 have k0:0<=k:=by omega
 have k1:k<27:=by omega
 have H:=aa hk;clear hk;go_enter Tryz.func237,Tryz.ntmps237
 go_upto_region 1 with (fail)
 refine wp_region_list ?_;refine wpList_build' rfl 264 _ rfl (cells:=opL) (by as_aux_lemma=>kernel_rfl) ?_;refine wpList_plain rfl fun _ hK=> ?_;refine wp_alloc264 rfl (hK _ _ ?_);refine wpList_store_row rfl 264 _ _ rfl W.heap.size opL rfl rfl 264 opZ (aW _ _) (by as_aux_lemma=>kernel_rfl) rfl (by as_aux_lemma=>kernel_rfl) ?_;refine wpList_nil ?_;rename_i K hKK _
 show K (Act.mk #[.int .i64 k,undef,.int .i64 0,.pointer (ag ⟨W.heap.size,0,ak⟩),.agg opL,undef,undef,undef] []) _
 refine hKK _ _ ?_;clear hK;generalize Value.agg opL=u4;obtain⟨X,hX⟩:∃X,X=(W.alloc (.cells opZ 264)).setRow W.heap.size opL:=⟨_,rfl⟩
 have q:X.cell? ⟨W.heap.size,k.toNat,ak⟩=ag (.int .i64 (opR k)):=by
  rw[hX,cell_setRow_same _ _ _ _ _ _ _ (aW _ _)];exact opL_get k H.out
 have HB:=aa (show Below W.heap.size W X from by
  rw[hX];have h:=(ar W.heap.size W).alloc (aq _) (.cells opZ 264)
  exact⟨h.os,h.tape,h.output,by simp,fun g hg=>(setRow_other _ _ _ _ (by omega)).trans (h.block g hg)⟩)
 rw[←hX];clear hX;go_wp2_with fail;go_ret;exact⟨rfl,HB.out⟩
theorem refOp_v {k v:Int}(hv:v=opR k)(hk:(4<=k/\k<=17)\/k=24)(W:World):Calls au 237 #[.int .i64 k] W fun e W'=>e=.returned (.int .i64 v)/\Below W.heap.size W W':=hv ▸ refOp_calls k hk W
theorem refBin_v (k:Int){wd:Int}(hw:∃m:Nat,wd=(m:Int)/\dP m)(hk:(6<=k/\k<=17)\/k=24){x y:Int}(hx:U64 x)(hy:U64 y)(W:World):
 Calls au 239 #[.int .i64 (opR k),.int .i64 wd,.int .u64 x,.int .u64 y] W fun e W'=>e=.returned (.tuple #[.int .u64 (binW k wd x y),.int .i64 0])/\Below W.heap.size W W':=by
 obtain⟨m,rfl,hm⟩:=hw;obtain⟨a,rfl,ha⟩:=hx.nat;obtain⟨b,rfl,hb⟩:=hy.nat
 have e:opR k=opK k:=by unfold opR;rw[if_neg (by omega),if_neg (by omega)]
 have ho:=opK_in hk;rw[e];unfold binW;rw[ax,ax];exact refBin_calls (opK k) m a b hm ho.1 ho.2 ha hb W
theorem refUn_v (k:Int){wd:Int}(hw:∃m:Nat,wd=(m:Int)/\dP m)(hk:k=4\/k=5){x:Int}(hx:U64 x)(W:World):
 Calls au 236 #[.int .i64 (opR k),.int .i64 wd,.int .u64 x] W fun e W'=>e=.returned (.tuple #[.int .u64 (unW k wd x),.int .i64 0])/\Below W.heap.size W W':=by
 obtain⟨m,rfl,hm⟩:=hw;obtain⟨a,rfl,ha⟩:=hx.nat;have:=hm.le;exact refUn_calls k (opR k) m (by rcases hk with rfl | rfl;exact .inl ⟨rfl,rfl⟩;exact .inr ⟨rfl,rfl⟩) (by omega) (by omega) a ha W
theorem kQ {wd:Int}{m x:Nat}(hw:wd=(m:Int)){s:Int}(hs:s=sgn wd x)(hm:dP m)(hx:x<2 ^ 64)(W:World):Calls au 278 #[.int .i64 wd,.int .u64 (x:Int)] W fun e W'=>e=.returned (.int .i64 s)/\Below W.heap.size W W':=by
 subst hw;rw[hs];exact sJ m x hm hx W
theorem refCmp_calls (wd k x y:Int)(hk:k=18\/k=19\/k=20\/k=21\/k=22\/k=23)(W:World):
 Calls au 238 #[.int .i64 k,.int .i64 wd,.int .u64 x,.int .u64 y] W fun e W'=>e=.returned (.int .u64 (cmpW k wd x y))/\Below W.heap.size W W':=by
 obtain⟨b,hb⟩:∃b,b=cmpB k wd x y:=⟨_,rfl⟩
 have hr:cmpW k wd x y=if b=af then 1 else 0:=by unfold cmpW;rw[hb]
 rw[hr];clear hr
 rcases hk with rfl | rfl | rfl | rfl | rfl | rfl
 all_goals(
  rcases aL b with rfl | rfl
  all_goals(
   simp only[cmpB]at hb
   simp at hb
   go_enter Tryz.func238,Tryz.ntmps238;go_wp2_with fail;go_ret
   exact⟨rfl,ar _ _⟩))
theorem refCmp25 (wd:Int)(m:Nat)(hw:wd=(m:Int))(hm:dP m)(x y:Nat)(hx:x<2 ^ 64)(hy:y<2 ^ 64)(W:World):
 Calls au 238 #[.int .i64 25,.int .i64 wd,.int .u64 (x:Int),.int .u64 (y:Int)] W fun e W'=>e=.returned (.int .u64 (cmpW 25 wd x y))/\Below W.heap.size W W':=by
 obtain⟨s1,hs1⟩:∃s,s=sgn wd x:=⟨_,rfl⟩;obtain⟨s2,hs2⟩:∃s,s=sgn wd y:=⟨_,rfl⟩
 have hr:cmpW 25 wd x y=if s1<s2 then 1 else 0:=by
  have e:cmpB 25 wd x y=decide (s1<s2):=by
   unfold cmpB;simp[hs1,hs2]
  unfold cmpW;rw[e]
  by_cases h:s1<s2 <;> simp[h]
 rw[hr];have H:=aa (aj hs1 (aj hs2 (aj hx (aj hy (aj hw hm)))));clear hr hs1 hs2 hx hy hw hm
 rcases dh s1 s2 with hlt | hle
 ·rw[if_pos hlt];go_enter Tryz.func238,Tryz.ntmps238;refine bE ?_;intro gg;go_wp2_with fail;refine(aD (g:=gg) (kQ H.out.2.2.2.2.1 H.out.1 H.out.2.2.2.2.2 H.out.2.2.1 gg.W)).mono ?_;rintro _ _ ⟨rfl,gg,rfl⟩;go_wp2_with fail;refine(aD (g:=gg) (kQ H.out.2.2.2.2.1 H.out.2.1 H.out.2.2.2.2.2 H.out.2.2.2.1 gg.W)).mono ?_;rintro _ _ ⟨rfl,gg,rfl⟩;go_wp2_with fail;go_ret;exact⟨rfl,gg.below⟩
 ·have hn:¬s1<s2:=by omega
  rw[if_neg hn];go_enter Tryz.func238,Tryz.ntmps238;refine bE ?_;intro gg;go_wp2_with fail;refine(aD (g:=gg) (kQ H.out.2.2.2.2.1 H.out.1 H.out.2.2.2.2.2 H.out.2.2.1 gg.W)).mono ?_;rintro _ _ ⟨rfl,gg,rfl⟩;go_wp2_with fail;refine(aD (g:=gg) (kQ H.out.2.2.2.2.1 H.out.2.1 H.out.2.2.2.2.2 H.out.2.2.2.1 gg.W)).mono ?_;rintro _ _ ⟨rfl,gg,rfl⟩;go_wp2_with fail;go_ret;exact⟨rfl,gg.below⟩
theorem refCmp_v {k:Int}(hk:(18<=k/\k<=23)\/k=25){wd:Int}(hw:∃m:Nat,wd=(m:Int)/\dP m){x y:Int}(hx:U64 x)(hy:U64 y)(W:World):
 Calls au 238 #[.int .i64 k,.int .i64 wd,.int .u64 x,.int .u64 y] W fun e W'=>e=.returned (.int .u64 (cmpW k wd x y))/\Below W.heap.size W W':=by
 rcases hk with hk | rfl
 ·exact refCmp_calls wd k x y (by omega) W
 ·obtain⟨m,hm,hm2⟩:=hw;obtain⟨a,rfl,ha⟩:=hx.nat;obtain⟨b,rfl,hb⟩:=hy.nat;exact refCmp25 wd m hm hm2 a b ha hb W
end Go.Proofs.YtfigjpehecibeaaGreat.L
namespace Go.Proofs.YtfigjpehecibeaaGreat.L
open Go.RowKit Bm C Go.Maps Go.Proofs.YtfigjpehecibeaaGreatW.PrintWords Go.Proofs.YtfigjpehecibeaaGreatW.PrintLast Go.Proofs.YtfigjpehecibeaaGreatW.PrintMore Go.Proofs.YtfigjpehecibeaaGreat.Gr
section
set_option maxRecDepth 100000
def kLp:Kd (ByteArray × Int):=Kd.pair Kd.string (Kd.int .u64)
theorem kLp_mkM (w:World)(base:Nat)(ok:Nat->Prop)(x:ByteArray × Int):kLp.M w base ok x [.string x.1,.int .u64 x.2]:=⟨[.string x.1],[.int .u64 x.2],rfl,rfl,rfl⟩
abbrev Cfg.rc (c:Cfg)(vr vl vt:Value):Array Value:= #[.string c.nm,.int .i64 c.wd,.int .i64 c.ln,.slice c.A3 c.ds.length c.c3,.slice c.A4 c.bd.length c.c4,vr,vl,vt]
def REye (c:Cfg)(vr vl:Value)(W:World)(T:List S101):Prop:=∃vt,W.heap[c.mb]? =ag (.cells (c.rc vr vl vt) 98 (0,0))/\lE.R 101 W c.w0.heap.size (fun _=>True) vt T
structure RAt (c:Cfg)(vr:Value)(ts:List (Nat × Nat × Nat))(vl:Value)(R:List (List Int))(L:List (ByteArray × Int))(T:List S101)(W:World):Prop where
 low:Below c.w0.heap.size c.w0 W
 base:c.w0.heap.size<=c.mb
 eye:REye c vr vl W T
 rows:RowsT W c.w0.heap.size vr ts R
 loops:kLp.R 227 W c.w0.heap.size (fun _=>True) vl L
 dc:k70.C c.w0 c.A3 c.ds.length c.ds/\c.ds.length<=c.c3
theorem E101 {q:Nat}(h:q∈101::lE.E):q=101:=by simpa[lE,Kd.iso,Kd.pair,Kd.int,Kd.scalar]using h
theorem E227 {q:Nat}(h:q∈227::kLp.E):q=227:=by simpa[kLp,Kd.pair,Kd.int,Kd.string,Kd.scalar]using h
theorem REye.below {c:Cfg}{vr vl:Value}{W W':World}{T:List S101}(h:REye c vr vl W T)(hb:Below W.heap.size W W'):REye c vr vl W' T:=by
 obtain⟨vt,h1,h2⟩:=h;exact⟨vt,aB h1 hb,Kd.bF h2 hb⟩
variable {c:Cfg}{vr vl:Value}{ts:List (Nat × Nat × Nat)}{R:List (List Int)}{L:List (ByteArray × Int)}{T T':List S101}{W W':World}
theorem RAt.seen (h:RAt c vr ts vl R L T W)(hk:Kt [98,101] ak W W')(low:Below c.w0.heap.size c.w0 W')(he:REye c vr vl W' T'):RAt c vr ts vl R L T' W':=
 ⟨low,h.base,he,h.rows.kt hk (by simp) (by simp),hk.row h.loops (fun q hq=>by rw[E227 hq];simp),h.dc⟩
theorem RAt.below (h:RAt c vr ts vl R L T W)(hb:Below W.heap.size W W'):RAt c vr ts vl R L T W':=
 h.seen (Kt.of_below hb _ ak) (h.low.trans (hb.mono h.low.size)) (h.eye.below hb)
theorem RAt.cells (h:RAt c vr ts vl R L T W):W.cell? ⟨c.mb,1,ak⟩=ag (.int .i64 c.wd)/\W.cell? ⟨c.mb,2,ak⟩=ag (.int .i64 c.ln)/\W.cell? ⟨c.mb,3,ak⟩=ag (.slice c.A3 c.ds.length c.c3)/\W.cell? ⟨c.mb,5,ak⟩=ag vr/\W.cell? ⟨c.mb,6,ak⟩=ag vl:=by
 obtain⟨vt,h1,_⟩:=h.eye;exact⟨(aA h1 1).trans rfl,(aA h1 2).trans rfl,(aA h1 3).trans rfl,(aA h1 5).trans rfl,(aA h1 6).trans rfl⟩
theorem reye_set {W1:World}{vt v1:Value}(hb:W.heap[c.mb]? =ag (.cells (c.rc vr vl vt) 98 (0,0)))(hr:lE.R 101 W c.w0.heap.size (fun _=>True) vt T)(hg:W.grownBy W1 vt.ownBlock)(h1:lE.R 101 W1 c.w0.heap.size (fun _=>True) v1 T')(hB:Below c.w0.heap.size c.w0 W1)(heb:c.w0.heap.size<=c.mb):
 REye c vr vl (W1.setCell ⟨c.mb,7,ak⟩ v1) T'/\Kt [98,101] ak W (W1.setCell ⟨c.mb,7,ak⟩ v1)/\Below c.w0.heap.size c.w0 (W1.setCell ⟨c.mb,7,ak⟩ v1)/\W1.heap[c.mb]? =ag (.cells (c.rc vr vl vt) 98 (0,0)):=by
 have hne:ag c.mb≠vt.ownBlock:=Kd.R_ne hr hb (by decide);have hb1:=fV hb hg hne
 have hk:Kt [98,101] ak W W1:=(Kt.refl _ _ _).grown hg fun k hk=>by
  obtain⟨inner,ho⟩:=Kd.mH hr;obtain⟨cells,hc⟩:=dO ho k hk;exact⟨cells,101,_,by simp,hc⟩
 exact⟨⟨v1,by simpa using bU hb1 7 v1,Kd.R_set h1 hb1 (fun q hq=>by rw[E101 hq];decide) 7 _⟩,hk.set hb1 (by simp) 7 v1,hB.setCell (p:=⟨c.mb,7,ak⟩) heb _,hb1⟩
theorem iV (hM:RAt c vr ts vl R L T W)(hl:T.length<1073741824)(k a b:Int):
 Calls au 165 #[.pointer (ag ⟨c.mb,0,ak⟩),.int .i64 k,.int .u64 a,.int .u64 b] W fun r W'=>r=.returned (.tuple #[])/\RAt c vr ts vl R L (T++[⟨k,a,b⟩]) W'/\Kt [98,101] ak W W':=by
 obtain⟨vt,hb,hr⟩:=hM.eye;have HM:=aa (aj hM (aj hb (aj hr hl)));have m7:W.cell? ⟨c.mb,7,ak⟩=ag vt:=(aA hb 7).trans rfl;clear hM hb hr hl;go_enter Tryz.func165,Tryz.ntmps165
 go_wp2_with (at_builtin;refine Kd.cX lE (w0:=c.w0) c.w0.heap.size rfl (.tmp 12) (.tmp 17) 38 101 (.agg #[.int .i64 0,.int .u64 0,.int .u64 0]) 24 rfl under38 info101 rfl (show 0<3 by decide) (by decide) vt T ⟨k,a,b⟩ [.int .i64 k,.int .u64 a,.int .u64 b] (fun _=>True) (fun _=>False) rfl rfl (k101_mkM _ _ _ _) (fun _ h=>h.elim) (fun _ _=>trivial) HM.out.2.2.1 HM.out.1.low HM.out.1.low.size (by have:=HM.out.2.2.2;omega) ?_)
 intro v1 w1 hr1 hb1 hg1 hat1;have HE:=aa (reye_set HM.out.2.1 HM.out.2.2.1 hg1 hr1 hb1 HM.out.1.base);have y0:=(aA HE.out.2.2.2 7).trans rfl;have y1:=aH HE.out.2.2.2 7;clear hb1 hg1 hat1;obtain⟨A1,k1,rfl⟩:=Kd.bN hr1;rw[show(T++[(⟨k,a,b⟩:S101)]).length=T.length+1 from by simp]at HE;clear hr1;go_wp2_with fail;go_end0;exact⟨rfl,HM.out.1.seen HE.out.2.1 HE.out.2.2.1 HE.out.1,HE.out.2.1⟩
theorem iZ (hM:RAt c vr ts vl R L T W){nm:ByteArray}{d:Nat}(hd:d=dNo c.ds nm)(hf:(cG c.ds nm).isSome=af):
 Calls au 163 #[.pointer (ag ⟨c.mb,0,ak⟩),.string nm] W fun r W'=>r=.returned (.int .i64 (d:Int))/\Below W.heap.size W W':=by
 subst hd;have m3:=hM.cells.2.2.1;have HM:=aa (aj hM hf);obtain⟨A3,hA3⟩:∃A3,A3=c.A3:=⟨_,rfl⟩;obtain⟨ds,hds⟩:∃ds,ds=c.ds:=⟨_,rfl⟩;have HC:=aa (show k70.C W A3 ds.length ds from by rw[hA3,hds];exact Kd.aF hM.dc.1 hM.low);rw[←hA3,←hds]at m3;rw[←hds];have HF:=aa (show(cG ds nm).isSome=af from by rw[hds];exact hf);have hlm:=HC.out.2.1;clear hM hf hA3 hds;go_enter Tryz.func163,Tryz.ntmps163;go_wp2_with fail
 go_loopw [5] (fun i W'=>∃(k:Nat),i=.int .i64 k/\W'=W/\k<=ds.length/\Aside0 (∀j,j<k->eqS (aI ds (j:Int)).f1 nm=ac)) (fun i _=>ds.length - (intOf i).toNat)
 case atStart=>exact⟨0,rfl,rfl,bk _,⟨fun j hj=>absurd hj (da _)⟩⟩
 case round=>
  obtain⟨k,rfl,rfl,hk,HK⟩:=hrel
  by_cases hlt:k<ds.length
  ·obtain⟨ad,A9,c9,rfl,q0,q1,q2,q3,l9,g9⟩:=eD HC.out (k:Int) (bo _) (by omega);rw[ax]at q1;clear q0 q2 q3 l9 g9
   have hk1:(k:Int)<(ds.length:Int):=by omega
   by_cases h:(aI ds (k:Int)).f1.toList=nm.toList
   ·have HE:=aa h;have bb:((aI ds (k:Int)).f1.toList==nm.toList)=af:=beq_iff_eq.mpr h;clear h;go_wp2_with fail;go_ret;have e:cG ds nm=ag k:=cD (by omega) (by show eqS _ _ =af;unfold eqS;rw[HE.out];simp) HK.out;refine⟨?_,ar _ _⟩;rw[show dNo ds nm=k from by unfold dNo;rw[e];rfl];rfl
   ·have HE:=aa h;have bb:((aI ds (k:Int)).f1.toList==nm.toList)=ac:=beq_eq_false_iff_ne.mpr h;clear h;go_wp2_with fail;refine⟨⟨k+1,by go_num,by first | rfl | trivial,by omega,⟨fun j hj=>(gy (j=k)).elim (fun h=>by rw[h];exact decide_eq_false HE.out) (fun h=>HK.out j (by omega))⟩⟩,by simp[intOf];omega⟩
  ·exfalso
   have e:cG ds nm=ak:=bI fun j hj=>HK.out j (by omega);have:=HF.out;rw[e]at this;cases this
end
section
set_option maxRecDepth 100000
variable {c:Cfg}{vr vl:Value}{ts:List (Nat × Nat × Nat)}{R:List (List Int)}{L:List (ByteArray × Int)}{T T':List S101}{W W':World}
structure RRow (c:Cfg)(nm:ByteArray)(vr:Value)(ts:List (Nat × Nat × Nat))(R:List (List Int))(W:World)(d bb n:Nat)(A:Addr)(RN cp c0:Nat):Prop where
 no:d=dNo c.ds nm/\d<c.ds.length
 lt:d<R.length
 len:n=(rowOf R d).length
 n1:1<=n/\n<=65536
 v:vr=.slice (ag A) RN cp
 rn:RN=R.length/\RN<=65536
 at':bb=(ts.getD d zSl).1
 cell:W.cell? (A.add d)=ag (.slice (ag ⟨bb,0,ak⟩) n c0)
 blk:∃cur,W.heap[A.block]? =ag (.cells cur 36 (0,0))
theorem rF (hs:SOK c.wd c.ln c.ds)(hR:ROK c.ds R)(hM:RAt c vr ts vl R L T W){nm:ByteArray}(hf:(cG c.ds nm).isSome=af):∃d bb n A RN cp c0,RRow c nm vr ts R W d bb n A RN cp c0:=by
 have hd:=find_lt hf
 have hdR:dNo c.ds nm<R.length:=by rw[hR.len];exact hd
 obtain⟨A,cap,c0,e,hcd,_,_,_⟩:=hM.rows.at' hdR;have h1:=hs.row _ hd;have h2:=hR.row _ hd;exact⟨_,_,_,A,_,cap,c0,⟨rfl,hd⟩,hdR,rfl,by omega,e,⟨rfl,by have:=hR.len;have:=hs.few;omega⟩,rfl,hcd,(e ▸ hM.rows).blk36⟩
theorem RRow.cells {nm:ByteArray}{d bb n:Nat}{A:Addr}{RN cp c0:Nat}(h:RRow c nm vr ts R W d bb n A RN cp c0){l:List Nat}(hk:Kt l ak W W')(h36:36 ∉ l):W'.cell? (A.add d)=ag (.slice (ag ⟨bb,0,ak⟩) n c0):=by
 obtain⟨cur,h4⟩:=h.blk
 rw[World.cell?_of_block (w:=W) (by
  have e:(A.add d).block=A.block:=by unfold Addr.add;split <;> rfl
  rw[e,h4];exact hk.blk _ _ _ _ h4 h36)]
 exact h.cell
theorem RAt.put {R':List (List Int)}(h:RAt c vr ts vl R L T W){b k:Nat}{u:Value}(hb:∃cs,W.heap[b]? =ag (.cells cs 74 (0,0)))(hle:c.w0.heap.size<=b)(hr:RowsT (W.setCell ⟨b,k,ak⟩ u) c.w0.heap.size vr ts R'):RAt c vr ts vl R' L T (W.setCell ⟨b,k,ak⟩ u):=by
 obtain⟨cs,hb⟩:=hb;have hk:Kt [74] ak W (W.setCell ⟨b,k,ak⟩ u):=(Kt.refl _ _ _).set hb (by simp) k u;obtain⟨vt,t1,t2⟩:=h.eye;exact⟨h.low.setCell (p:=⟨b,k,ak⟩) hle _,h.base,⟨vt,hk.blk _ _ _ _ t1 (by simp),hk.row t2 (fun q hq=>by rw[E101 hq];simp)⟩,hr,hk.row h.loops (fun q hq=>by rw[E227 hq];simp),h.dc⟩
theorem RAt.word (h:RAt c vr ts vl R L T W){d n j:Nat}(hd:d<R.length)(hn:n=(rowOf R d).length)(hj:j<n):W.cell? ⟨(ts.getD d zSl).1,j,ak⟩=ag (.int .u64 (dM R d j))/\(∃cs,W.heap[(ts.getD d zSl).1]? =ag (.cells cs 74 (0,0)))/\∀v,RAt c vr ts vl (putW R d j v) L T (W.setCell ⟨(ts.getD d zSl).1,j,ak⟩ (.int .u64 v)):=by
 obtain⟨A1,cap1,c1,_,_,hb,hbb,hcell⟩:=h.rows.at' hd;obtain⟨g1,g2⟩:=hcell j (by rw[←hn];exact hj);exact⟨g1,hbb,fun v=>h.put hbb hb (g2 v)⟩
theorem pQ (hs:SOK c.wd c.ln c.ds)(hM:RAt c vr ts vl R L T W){nm:ByteArray}{d bb n:Nat}{A:Addr}{RN cp c0:Nat}(h:RRow c nm vr ts R W d bb n A RN cp c0)(k x:Int){j:Nat}(hx0:0<=x)(hx:x % (n:Int)=(j:Int))(hl:T.length<1073741824):
 Calls au 164 #[.pointer (ag ⟨c.mb,0,ak⟩),.int .i64 k,.int .i64 d,.int .u64 x] W fun r W'=>r=.returned (.int .u64 j)/\RAt c vr ts vl R L (T++[⟨k,d,(j:Int) / c.ln⟩]) W'/\Kt [98,101] ak W W':=by
 obtain⟨-,m2,-,m5,-⟩:=hM.cells;obtain⟨D,hD⟩:∃D:Int,D=(d:Int):=⟨_,rfl⟩;obtain⟨ln,hln⟩:∃ln,ln=c.ln:=⟨_,rfl⟩;have hlb:=hs.ln;rw[←hln]at m2 hlb;rw[h.v]at m5;rw[←hD]
 have hd0:0<=D:=by omega
 have hd1:D<(RN:Int):=by have:=h.lt;have:=h.rn;omega
 have hcd:W.cell? (A.add D.toNat)=ag (.slice (ag ⟨bb,0,ak⟩) n c0):=by rw[hD];exact h.cell
 have hn:=h.n1
 have hw:IntKind.u64.wrap (n:Int)=(n:Int):=by rw[Bm.qN];omega
 have hw0:¬(n:Int)=0:=by omega
 have hj:Int.tmod x (n:Int)=(j:Int):=by rw[Int.tmod_eq_emod_of_nonneg hx0];exact hx
 have hwd:IntKind.u64.wrap D=D:=by have:=h.rn;rw[Bm.qN];omega
 have hwl:IntKind.u64.wrap ln=ln:=by rw[Bm.qN];omega
 have hl0:¬ln=0:=by omega
 have hq:Int.tdiv (j:Int) ln=(j:Int) / ln:=Int.tdiv_eq_ediv_of_nonneg (by omega);obtain⟨q,hqq⟩:∃q,q=(j:Int) / ln:=⟨_,rfl⟩;rw[←hqq]at hq
 have hwq:IntKind.u64.wrap q=q:=by
  have h3:q<=(j:Int):=hqq ▸ Int.ediv_le_self _ (by omega);have h4:0<=q:=hqq ▸ Int.ediv_nonneg (by omega) (by omega);have h5:(j:Int)<(n:Int):=hx ▸ kp _ (by omega);rw[Bm.qN];omega
 have HM:=aa (aj hM (aj hl (aj hln hqq)));rw[←hln,←hqq];clear hM h hs hl hD hln hqq hlb hn hx hx0;go_enter Tryz.func164,Tryz.ntmps164;go_wp2_with fail;refine(iV HM.out.1 HM.out.2.1 k D q).mono ?_;rintro _ w1 ⟨rfl,h1,h2⟩;have HE:=aa (aj h1 h2);clear h1 h2;go_wp2_with fail;go_ret;exact⟨rfl,HE.out.1,HE.out.2⟩
end
def LD (L:List (ByteArray × Int)):Prop:=L.Pairwise fun p q=>eqS p.1 q.1=ac
def zLp:ByteArray × Int:=(⟨#[]⟩,0)
theorem lkL_at {L:List (ByteArray × Int)}(hD:LD L){nm:ByteArray}:∀{i:Nat},i<L.length->eqS (L.getD i zLp).1 nm=af->lkL L nm=ag (L.getD i zLp).2:=by
 induction L with
 |nil=>intro i hi;simp at hi
 |cons p r ih=>
  intro i hi he;unfold lkL;rw[List.find?_cons]
  cases i with
  |zero=>
   have he:eqS p.1 nm=af:=he;rw[he];rfl
  |succ i=>
   have hi2:i<r.length:=by simpa using hi
   have h2:=List.pairwise_cons.1 hD;have e:(p::r).getD (i+1) zLp=r.getD i zLp:=rfl;rw[e]at he ⊢
   have hm:r.getD i zLp∈r:=by rw[aw,az hi2];exact gn hi2
   have h3:=h2.1 _ hm
   have h4:eqS p.1 nm=ac:=by
    have h5:=of_decide_eq_true he;unfold eqS at h3 ⊢;rw[←h5];exact h3
   rw[h4];exact ih h2.2 hi2 he
theorem lkL_no {L:List (ByteArray × Int)}{nm:ByteArray}(h:∀t,t<L.length->eqS (L.getD t zLp).1 nm=ac):lkL L nm=ak:=by
 unfold lkL;rw[Option.map_eq_none_iff,List.find?_eq_none];intro p hp;obtain⟨t,ht,rfl⟩:=gr hp;have:=h t ht;rw[aw,az ht]at this
 simpa using this
theorem at_Lp {w:World}{A:Option Addr}{n:Nat}{xs:List (ByteArray × Int)}(h:kLp.C w A n xs)(i:Int)(h0:0<=i)(h1:i<n):∃ad,A=ag ad/\w.cell? (ad.add (i.toNat*2))=ag (.string (xs.getD i.toNat zLp).1)/\w.cell? ⟨(ad.add (i.toNat*2)).block,(ad.add (i.toNat*2)).off+1,ak⟩=ag (.int .u64 (xs.getD i.toNat zLp).2):=by
 obtain⟨ad,c,e,_,hK,hc0⟩:=Kd.oZ h zLp i h0 h1;have hc:∀j u,c[j]? =ag u->w.cell? (ad.add (i.toNat*2+j))=ag u:=hc0;obtain⟨_,_,rfl,rfl,rfl⟩:=hK;exact⟨ad,e,hc 0 _ rfl,by rw[←cC _ _ 1 (by omega)];exact hc 1 _ rfl⟩
def ExprR (c:Cfg)(vr:Value)(ts:List (Nat × Nat × Nat))(e:S116):Prop:=∀(W:World) (vl:Value) (R:List (List Int)) (L:List (ByteArray × Int)) (T:List S101) (A:Option Addr) (cap:Nat),RAt c vr ts vl R L T W->ROK c.ds R->LOK L->LD L->L.length<65->EOK c.ds (L.map (·.1)) e->T.length+aM e<1073741824->dC.C c.w0 A e.f3.length e.f3->e.f3.length<=cap->
 Calls au 162 #[.pointer (ag ⟨c.mb,0,ak⟩),.agg #[.int .i64 e.f0,.int .u64 e.f1,.string e.f2,.slice A e.f3.length cap]] W fun r W'=>r=.returned (.int .u64 (evE c.wd c.ln c.ds R L e).1)/\RAt c vr ts vl R L (T++(evE c.wd c.ln c.ds R L e).2) W'/\Kt [98,101] ak W W'
theorem Kt.grown_new {ts:List Nat}{lb:Option Nat}{W W' W2:World}(h:Kt ts lb W W'){row:Option Nat}(hg:W'.grownBy W2 row)(hr:∀k,row=ag k->W.heap.size<=k):Kt ts lb W W2:=by
 refine⟨bi h.size hg.size,fun g cs t fr hb ht=> ?_,fun g es x hl he=> ?_⟩
 ·have h1:=h.blk g cs t fr hb ht;have:=aX hb;rw[hg.block g (aX h1) (fun e=>by have:=hr g e.symm;omega),h1]
 ·have h1:=h.maps g es x hl he;have:=aX he;rw[hg.block g (aX h1) (fun e=>by have:=hr g e.symm;omega),h1]
theorem REye.row {c:Cfg}{vr vl:Value}{W W':World}{T:List S101}(h:REye c vr vl W T){l:List Nat}(hk:Kt l ak W W')(h98:98 ∉ l)(h101:101 ∉ l):REye c vr vl W' T:=by
 obtain⟨vt,t1,t2⟩:=h;exact⟨vt,hk.blk _ _ _ _ t1 h98,hk.row t2 (fun q hq=>by rw[E101 hq];exact h101)⟩
theorem RRow.kt {c:Cfg}{nm:ByteArray}{vr:Value}{ts:List (Nat × Nat × Nat)}{R:List (List Int)}{W W':World}{d bb n:Nat}{A:Addr}{RN cp c0:Nat}(h:RRow c nm vr ts R W d bb n A RN cp c0){l:List Nat}(hk:Kt l ak W W')(h36:36 ∉ l):RRow c nm vr ts R W' d bb n A RN cp c0:=by
 obtain⟨cur,h4⟩:=h.blk;exact⟨h.no,h.lt,h.len,h.n1,h.v,h.rn,h.at',h.cells hk h36,cur,hk.blk _ _ _ _ h4 h36⟩
theorem words_row {W W':World}{base:Nat}{ok:Nat->Prop}{v:Value}{l:List Int}(hR:(Kd.int .u64).R 74 W base ok v l)(hg:W.grownBy W' v.ownBlock):Kt [74] ak W W':=
 (Kt.refl _ _ _).grown hg fun k hk=>by
   obtain⟨inner,ho⟩:=Kd.mH hR;obtain⟨cells,hc⟩:=dO ho k hk;exact⟨cells,74,_,by simp,hc⟩
theorem qQ {W:World}{base:Nat}{ok:Nat->Prop}{v:Value}{l:List Int}(hR:(Kd.int .u64).R 74 W base ok v l)(hl:0<l.length):∃g cap cs,v=.slice (ag ⟨g,0,ak⟩) l.length cap/\W.heap[g]? =ag (.cells cs 74 (0,0))/\∀i,i<l.length->cs[i]? =ag (.int .u64 (l.getD i 0)):=by
 obtain⟨g,cap,rfl,_,_,cs,hc⟩:=Kd.R_form hR hl;refine⟨g,cap,cs,rfl,hc,fun i hi=> ?_⟩;have h:=(Kd.R_cell (0:Int) hR (i:Int) (by omega) (by omega)).1;rw[ax,aA hc i]at h;exact h
section
set_option maxRecDepth 100000
theorem oY:Tryz.prog.underlying 37=ag (.slice 36):=by kernel_rfl
theorem info36:(Tryz.prog.info? 36).map (fun i=>(i.zero,i.size,i.bytes))=ag (ag (.slice ak 0 0),1,24):=by kernel_rfl
theorem refTrimI {wd:Int}(h1:1<=wd){v:Int}(hu:U64 v)(W:World):Calls au 73 #[.int .i64 wd,.int .u64 v] W fun e W'=>e=.returned (.int .u64 (qO wd v))/\Below W.heap.size W W':=by
 obtain⟨x,rfl,hx⟩:=hu.nat;exact nQ wd h1 x hx W
theorem trimI {wd:Int}(h1:1<=wd){v:Int}(hu:U64 v)(W:World):Calls au 72 #[.int .i64 wd,.int .u64 v] W fun e W'=>e=.returned (.int .u64 (qO wd v))/\Below W.heap.size W W':=by
 obtain⟨x,rfl,hx⟩:=hu.nat;exact trim_calls wd h1 x hx W
theorem refWords_v {d:S70}{n:Nat}(h:d.f2=0\/dJ d.f2=af)(hn:(n:Int)=cT d)(A:Option Addr)(c:Nat)(W:World)(ha:(Kd.int .u64).C W A d.f3.length d.f3)(hc:d.f3.length<=c):
 Calls au 64 #[.agg #[.int .i64 d.f0,.string d.f1,.int .i64 d.f2,.slice A d.f3.length c]] W fun e W'=>e=.returned (.int .i64 (n:Int))/\Below W.heap.size W W':=
 cadenceref17_words.calls d.f0 d.f1 d.f2 A c d.f3 n W ha hc (by rw[hn,←(iI h).1];rfl)
def adv (d:S70)(m:Nat):Nat:=if d.f0=1\/d.f0=2 then m else 0
def iE (wd:Int)(d:S70)(inp:List Int)(o m:Nat):List Int:=(bu m).map (lF wd d inp o)
theorem tC (wd:Int)(d:S70)(inp:List Int)(o m:Nat):iE wd d inp o (m+1)=iE wd d inp o m++[lF wd d inp o m]:=by
 unfold iE;rw[jz,ef];rfl
theorem refBegin_calls (nm:ByteArray)(wd ln:Int)(ds:List S70)(bd:List S119)(A3:Option Addr)(c3:Nat)(A4:Option Addr)(c4:Nat)(W:World)(hp:ProgAt W ds bd A3 c3 A4 c4)(hg:PGood nm wd ln ds bd)(h:(bC nm wd ln ds bd).e=0)(inp:List Int)(A:Option Addr)(cI:Nat)(hI:bX W A inp)(hu:∀v∈inp,U64 v)(hl:inp.length=(fI ds ds.length).length):
 Calls au 68 #[.agg #[.string nm,.int .i64 wd,.int .i64 ln,.slice A3 ds.length c3,.slice A4 bd.length c4],.slice A inp.length cI] W fun e W'=>∃v ts,e=.returned v/\RowsT W' W.heap.size v ts (gF wd ds inp ds.length)/\Below W.heap.size W W':=by
 obtain⟨n,hn⟩:∃n,n=ds.length:=⟨_,rfl⟩;obtain⟨ni,hni⟩:∃n,n=inp.length:=⟨_,rfl⟩;obtain⟨X,hX⟩:∃X,X=W.alloc (.cells #[.string nm,.int .i64 wd,.int .i64 ln,.slice A3 ds.length c3,.slice A4 bd.length c4] 25):=⟨_,rfl⟩
 have hXB:Below W.heap.size W X:=by rw[hX];exact(ar _ _).alloc (aq _) _
 have hbx:X.heap[W.heap.size]? =ag (.cells #[.string nm,.int .i64 wd,.int .i64 ln,.slice A3 ds.length c3,.slice A4 bd.length c4] 25 (0,0)):=by rw[hX];exact aW _ _
 have hS:=cZ h
 have w1:1<=wd:=by
  obtain⟨m,e,hm⟩:=hS.wd;have:=hm.le;omega
 have hp3:=hp.hd;rw[←hn]at hbx hX hp3 ⊢;rw[←hni]at hl ⊢;have HH:=aa (aj hg (aj h (aj hu (aj hl (aj hn (aj hni (aj hS hXB)))))));have HX:=aa (aj (Kd.aF hp3 hXB) (aj hbx (hI.below hXB)))
 have hn256:n<=256:=by rw[hn];exact hS.few
 clear hp hp3 hg h hu hl hI hXB hS hn hni hbx;go_enter Tryz.func68,Tryz.ntmps68
 go_upto_region 1 with (fail)
 rw[←hX];clear hX;go_wp2_with fail
 go_loopw [5,6,7] (fun a o i W'=>∃(k:Nat) (ts:List (Nat × Nat × Nat)) (vo:Value),a=.int .i64 ((fI ds k).length:Int)/\vo=o/\i=.int .i64 k/\k<=n/\Aside0 (Below X.heap.size X W'/\RowsT W' X.heap.size vo ts (gF wd ds inp k))) (fun _ _ i _=>n - (intOf i).toNat)
 case atStart=>exact⟨0,[],_,rfl,rfl,rfl,bk _,⟨ar _ _,RowsT.nil _ _⟩⟩
 case round=>
  obtain⟨k,ts,vo,rfl,rfl,rfl,hk,HB⟩:=hrel;have x3:wr.cell? ⟨W.heap.size,3,ak⟩=ag (.slice A3 n c3):=(aA (aB HX.out.2.1 HB.out.1) 3).trans rfl
  by_cases hlt:k<n
  ·have hlt2:(k:Int)<(n:Int):=by omega
   obtain⟨ad,A9,c9,e1,q0,q1,q2,q3,l9,g9⟩:=eD HX.out.1 (k:Int) (by omega) (by omega);cases e1;rw[ax]at q0 q1 q2 q3;obtain⟨d,hd⟩:∃d,d=aI ds (k:Int):=⟨_,rfl⟩
   have hkd:k<ds.length:=by rw[←HH.out.2.2.2.2.1];exact hlt
   have RD:=aa (aj (cJ HH.out.2.1 k hkd) (fun h3=>vals_right HH.out.2.1 hkd h3));have RS:=rows0_succ wd ds inp k;have PS:=rT ds k;have PM:=pubs_mono ds (show k+1<=ds.length from hkd);rw[←hd]at q0 q1 q2 q3 l9 g9 RD RS PS;have p0:=aE HB.out.1 q0;have p1:=aE HB.out.1 q1;have p2:=aE HB.out.1 q2;have p3:=aE HB.out.1 q3;obtain⟨wn,w2,w3⟩:=iI RD.out.1.2;obtain⟨nw,hnw⟩:=ew (show 0<=cT d by omega);rw[hnw,ax]at PS;obtain⟨o,ho⟩:∃o,o=(fI ds k).length:=⟨_,rfl⟩;rw[←ho]at PS RS ⊢;obtain⟨Wi,hWi⟩:∃Wi,Wi=wr.alloc (.cells #[.int .i64 d.f0,.string d.f1,.int .i64 d.f2,.slice A9 d.f3.length c9] 70):=⟨_,rfl⟩
   have hWB:Below wr.heap.size wr Wi:=by rw[hWi];exact(ar _ _).alloc (aq _) _
   obtain⟨gb,hgb⟩:∃b,b=wr.heap.size:=⟨_,rfl⟩
   have hbw:Wi.heap[gb]? =ag (.cells #[.int .i64 d.f0,.string d.f1,.int .i64 d.f2,.slice A9 d.f3.length c9] 70 (0,0)):=by rw[hWi,hgb];exact aW _ _
   have hXW:Below X.heap.size X Wi:=HB.out.1.trans (hWB.mono HB.out.1.size);have HW:=aa (aj hXW (aj hbw (aj (HB.out.2.below hWB) (aj (Kd.aF g9 hXW) (aj l9 (aj (hnw.symm) (aj RS (aj PS (aj PM (aj hkd ((sU g9).below hXW)))))))))))
   have hnw1:1<=nw/\nw<=256:=by omega
   have hk0:=RD.out.1.1;clear q0 q1 q2 q3 l9 g9 RS PS PM wn w2 w3 hnw hd hkd hXW hbw hWB ho
   go_upto_region 7 with (fail)
   rw[←hgb];rw[←hWi];clear hWi hgb p0 p1 p2 p3 x3;go_wp2_with fail
   go_loopw [5,9,10] (fun a v j W'=>∃(m:Nat) (vl:Value),a=.int .i64 ((o+adv d m:Nat):Int)/\vl=v/\j=.int .i64 m/\m<=nw/\Aside0 (Below Wi.heap.size Wi W'/\(Kd.int .u64).R 74 W' Wi.heap.size (fun _=>True) vl (iE wd d inp o m))) (fun _ _ j _=>nw - (intOf j).toNat)
   case atStart=>exact⟨0,_,by rw[show adv d 0=0 from by unfold adv;split <;> rfl];rfl,rfl,rfl,bk _,⟨ar _ _,Kd.iG _ _ _ _ _⟩⟩
   case round=>
    obtain⟨m,vl,rfl,rfl,rfl,hm,HI⟩:=hrel;have HB2:=aa (show ∀g:G wr,Below Wi.heap.size Wi g.W from fun g=>HI.out.1.trans (g.below.mono HI.out.1.size));have b0:∀g:G wr,g.W.cell? ⟨gb,0,ak⟩=ag (.int .i64 d.f0):=fun g=>(aA (aB HW.out.2.1 (HB2.out g)) 0).trans rfl;have b1:∀g:G wr,g.W.cell? ⟨gb,1,ak⟩=ag (.string d.f1):=fun g=>(aA (aB HW.out.2.1 (HB2.out g)) 1).trans rfl;have b2:∀g:G wr,g.W.cell? ⟨gb,2,ak⟩=ag (.int .i64 d.f2):=fun g=>(aA (aB HW.out.2.1 (HB2.out g)) 2).trans rfl;have b3:∀g:G wr,g.W.cell? ⟨gb,3,ak⟩=ag (.slice A9 d.f3.length c9):=fun g=>(aA (aB HW.out.2.1 (HB2.out g)) 3).trans rfl;have x1:∀g:G wr,g.W.cell? ⟨W.heap.size,1,ak⟩=ag (.int .i64 wd):=fun g=>(aA (aB (aB HX.out.2.1 HW.out.1) (HB2.out g)) 1).trans rfl;obtain⟨u,hue⟩:∃u:Nat,u=o+adv d m:=⟨_,rfl⟩;have HU:=aa hue;rw[←hue];clear hue;have PL:=aa (show((iE wd d inp o m).length+1)*8<=140737488355328 by unfold iE;rw[List.length_map,List.length_range];omega);refine aG ?_;intro gg;go_wp2_with fail;refine(aD (g:=gg) (refWords_v RD.out.1.2 HW.out.2.2.2.2.2.1 A9 c9 gg.W (Kd.aF HW.out.2.2.2.1 (HB2.out gg)) HW.out.2.2.2.2.1)).mono ?_;rintro _ _ ⟨rfl,gg,rfl⟩
    by_cases hmn:m<nw
    ·have hm2:(m:Int)<(nw:Int):=by omega
     have hkk:(d.f0=1\/d.f0=2)\/d.f0=3\/4<=d.f0:=by omega
     rcases hkk with hk1 | hk3 | hk4
     ·have HK:=aa hk1
      have k2:d.f0<=2:=by omega
      have k3:¬d.f0=3:=by omega
      have HU2:=aa (show u=o+m by rw[HU.out,adv,if_pos hk1])
      have hun:u<ni:=by
       have h1:=HW.out.2.2.2.2.2.2.2.1;have h2:=HW.out.2.2.2.2.2.2.2.2.1;have h3:=HH.out.2.2.2.1;have hu2:=HU2.out;rw[if_pos hk1]at h1;omega
      obtain⟨adI,eA,qI⟩:=HX.out.2.2 u (by rw[←HH.out.2.2.2.2.2.1];exact hun);subst eA;obtain⟨xv,hxv⟩:∃x,x=inp.getD u 0:=⟨_,rfl⟩;rw[←hxv]at qI;have XU:=aa (show U64 xv from hxv ▸ lX HH.out.2.2.1 u);have W0:=aa (show lF wd d inp o m=qO wd xv from by unfold lF;rw[if_neg k3,if_pos hk1,hxv,HU2.out]);have xi:∀g:G wr,g.W.cell? (adI.add u)=ag (.int .u64 xv):=fun g=>aE (HB2.out g) (aE HW.out.1 qI)
      have hu3:(u:Int)<(ni:Int):=by omega
      have hu4:(u:Int)<2000000:=by have:=HU2.out;have:=HW.out.2.2.2.2.2.2.2.2.1;have:=fU (cJ HH.out.2.1) ds.length (aq _);have:=HH.out.2.2.2.1;have:=HH.out.2.2.2.2.1;omega
      have hwu:wrap64 ((u:Int)+1)=(u:Int)+1:=by unfold wrap64;omega
      clear hk1 hxv qI hun hu4;go_wp2_with fail;refine bT (by kernel_rfl) (by kernel_rfl) ?_
      repeat(go_big_quiet_step (first | (go_at_call 73;exact aD (refTrimI w1 XU.out _))))
      refine wpQuiet_nil ?_;rintro _ ⟨gg,rfl⟩;clear xi hu3
      go_wp2_with (at_builtin;refine Kd.cX (Kd.int .u64) (w0:=Wi) Wi.heap.size rfl (.tmp 50) (.tmp 52) 36 74 (.int .u64 0) 8 rfl gM mL rfl (by decide) (by decide) vl (iE wd d inp o m) (qO wd xv) [.int .u64 (qO wd xv)] (fun _=>True) (fun _=>False) rfl rfl rfl (fun _ h=>h.elim) (fun _ _=>trivial) (Kd.bF HI.out.2 gg.below) (HB2.out gg) (HB2.out gg).size PL.out ?_)
      intro v1 u1 hr1 hb1 hg1 hat1;have HN:=aa (show Below Wi.heap.size Wi u1/\(Kd.int .u64).R 74 u1 Wi.heap.size (fun _=>True) v1 (iE wd d inp o (m+1)) from⟨hb1,by rw[tC,W0.out];exact hr1⟩);clear hr1 hb1 hg1 hat1 b0 b1 b2 b3 x1;go_wp2_with fail;go_roundw
      case measure=>simp[intOf];omega
      case rel=>exact⟨m+1,_,show _ =bh .i64 ((o+adv d (m+1):Nat):Int) from by rw[adv,if_pos HK.out,HU2.out];first | rfl | go_num | (simp;omega),rfl,show _ =bh .i64 ((m+1:Nat):Int) from by go_num,by omega,HN⟩
     ·have k2:¬d.f0<=2:=by omega
      have HK:=aa (show ¬(d.f0=1\/d.f0=2) by omega);have HU2:=aa (show u=o by rw[HU.out,adv,if_neg HK.out];rfl)
      have hln:d.f3.length=nw:=by have:=RD.out.2 hk3;have:=HW.out.2.2.2.2.2.1;omega
      obtain⟨adI,eA,qI⟩:=HW.out.2.2.2.2.2.2.2.2.2.2 m (by rw[hln];exact hmn);subst eA;obtain⟨xv,hxv⟩:∃x,x=d.f3.getD m 0:=⟨_,rfl⟩;rw[←hxv]at qI;have W0:=aa (show lF wd d inp o m=xv from by unfold lF;rw[if_pos hk3,hxv]);have xi:∀g:G wr,g.W.cell? (adI.add m)=ag (.int .u64 xv):=fun g=>aE (HB2.out g) qI;rw[hln]at b3;have k3:(d.f0==3)=af:=beq_iff_eq.2 hk3;clear hxv qI hln hk3
      go_wp2_with (at_builtin;refine Kd.cX (Kd.int .u64) (w0:=Wi) Wi.heap.size rfl (.tmp 50) (.tmp 52) 36 74 (.int .u64 0) 8 rfl gM mL rfl (by decide) (by decide) vl (iE wd d inp o m) xv [.int .u64 xv] (fun _=>True) (fun _=>False) rfl rfl rfl (fun _ h=>h.elim) (fun _ _=>trivial) (Kd.bF HI.out.2 gg.below) (HB2.out gg) (HB2.out gg).size PL.out ?_)
      intro v1 u1 hr1 hb1 hg1 hat1;have HN:=aa (show Below Wi.heap.size Wi u1/\(Kd.int .u64).R 74 u1 Wi.heap.size (fun _=>True) v1 (iE wd d inp o (m+1)) from⟨hb1,by rw[tC,W0.out];exact hr1⟩);clear hr1 hb1 hg1 hat1 b0 b1 b2 b3 x1;go_wp2_with fail;go_roundw
      case measure=>simp[intOf];omega
      case rel=>exact⟨m+1,_,show _ =bh .i64 ((o+adv d (m+1):Nat):Int) from by rw[adv,if_neg HK.out,HU2.out];rfl,rfl,show _ =bh .i64 ((m+1:Nat):Int) from by go_num,by omega,HN⟩
     ·have k2:¬d.f0<=2:=by omega
      have k3:¬d.f0=3:=by omega
      have HK:=aa (show ¬(d.f0=1\/d.f0=2) by omega);have HU2:=aa (show u=o by rw[HU.out,adv,if_neg HK.out];rfl);have W0:=aa (show lF wd d inp o m=0 from by unfold lF;rw[if_neg k3,if_neg HK.out])
      go_wp2_with (at_builtin;refine Kd.cX (Kd.int .u64) (w0:=Wi) Wi.heap.size rfl (.tmp 50) (.tmp 52) 36 74 (.int .u64 0) 8 rfl gM mL rfl (by decide) (by decide) vl (iE wd d inp o m) 0 [.int .u64 0] (fun _=>True) (fun _=>False) rfl rfl rfl (fun _ h=>h.elim) (fun _ _=>trivial) (Kd.bF HI.out.2 gg.below) (HB2.out gg) (HB2.out gg).size PL.out ?_)
      intro v1 u1 hr1 hb1 hg1 hat1;have HN:=aa (show Below Wi.heap.size Wi u1/\(Kd.int .u64).R 74 u1 Wi.heap.size (fun _=>True) v1 (iE wd d inp o (m+1)) from⟨hb1,by rw[tC,W0.out];exact hr1⟩);clear hr1 hb1 hg1 hat1 b0 b1 b2 b3 x1;go_wp2_with fail;go_roundw
      case measure=>simp[intOf];omega
      case rel=>exact⟨m+1,_,show _ =bh .i64 ((o+adv d (m+1):Nat):Int) from by rw[adv,if_neg HK.out,HU2.out];rfl,rfl,show _ =bh .i64 ((m+1:Nat):Int) from by go_num,by omega,HN⟩
    ·have hmn2:m=nw:=by omega
     subst hmn2
     have hm2:¬(m:Int)<(m:Int):=by omega
     have PLN:(iE wd d inp o m).length=m:=by unfold iE;simp
     obtain⟨g,cap,cs,e,hcs,hcells⟩:=qQ HI.out.2 (by rw[PLN];omega);rw[PLN]at e;subst e;have hgb2:Wi.heap.size<=g:=Kd.R_base HI.out.2 g (by simp[ee]);have HRI:=aa (show jI wr g (iE wd d inp o m) from⟨cs,hcs,fun k hk=>hcells k hk⟩);have TL:=aa (show(ts.length+1)*24<=140737488355328 by rw[HW.out.2.2.1.len];simp[gF];omega);have PN:=aa (aj PLN hgb2);clear hcs hcells PLN hgb2
     go_wp2_with (at_builtin;refine Kd.cX kSl (w0:=X) X.heap.size rfl (.tmp 54) (.tmp 56) 37 36 (.slice ak 0 0) 24 rfl oY info36 rfl (by decide) (by decide) vo ts (g,m,cap) [.slice (ag ⟨g,0,ak⟩) m cap] (fun _=>True) (fun _=>False) rfl rfl rfl (fun _ h=>h.elim) (fun _ _=>trivial) (HW.out.2.2.1.below (HB2.out gg)).out (HW.out.1.trans ((HB2.out gg).mono HW.out.1.size)) (bi HW.out.1.size (HB2.out gg).size) TL.out ?_)
     intro v1 u1 hr1 hb1 hg1 hat1
     have HN:=aa (show Below X.heap.size X u1/\RowsT u1 X.heap.size v1 (ts++[(g,m,cap)]) (gF wd ds inp (k+1)) from⟨hb1,by
      have h1:=(HW.out.2.2.1.below (HB2.out gg)).push hg1 (b:=g) (cap:=cap) (l:=iE wd d inp o m) (by rw[PN.out.1];exact hr1) (HRI.out.imp fun cs h=>⟨aB h.1 gg.below,h.2⟩) (bi HW.out.1.size PN.out.2) (fun i hi=>br (HW.out.2.2.1.lt hi) PN.out.2);rw[PN.out.1]at h1;rw[HW.out.2.2.2.2.2.2.1,show row0 wd d inp o=iE wd d inp o m from by unfold row0 iE;rw[←HW.out.2.2.2.2.2.1,ax]]
      exact h1⟩)
     have HP:=aa (show(u:Int)=((fI ds (k+1)).length:Int) from by rw[HW.out.2.2.2.2.2.2.2.1,HU.out];rfl);clear hr1 hb1 hg1 hat1 b0 b1 b2 b3 x1;go_wp2_with fail;go_roundw
     case measure=>simp[intOf];omega
     case rel=>exact⟨k+1,_,_,by rw[HP.out],rfl,show _ =bh .i64 ((k+1:Nat):Int) from by go_num,by omega,HN⟩
  ·have hkn:k=n:=by omega
   subst hkn
   have hge:¬(k:Int)<(k:Int):=by omega
   go_wp2_with fail;go_ret;refine⟨_,rfl,⟨ts,?_⟩,HH.out.2.2.2.2.2.2.2.trans (HB.out.1.mono HH.out.2.2.2.2.2.2.2.size)⟩;exact HB.out.2.lower HH.out.2.2.2.2.2.2.2.size
end
section
set_option maxRecDepth 100000
theorem toldT_succ (ds:List S70)(ts:List (Nat × Nat × Nat))(i:Nat):dA ds ts (i+1)=if(aI ds (i:Int)).f0=3 then dA ds ts i else dA ds ts i++[ts.getD i zSl]:=by
 unfold dA;rw[toldIx_succ]
 split
 ·rfl
 ·rw[ef];rfl
theorem refTold_calls (nm:ByteArray)(wd ln:Int)(ds:List S70)(bd:List S119)(A3:Option Addr)(c3:Nat)(A4:Option Addr)(c4:Nat)(W:World)(hd:k70.C W A3 ds.length ds)(hf:ds.length<=256){base:Nat}{vr:Value}{ts:List (Nat × Nat × Nat)}{R:List (List Int)}(hR:RowsT W base vr ts R)(hlen:R.length=ds.length):
 Calls au 70 #[.agg #[.string nm,.int .i64 wd,.int .i64 ln,.slice A3 ds.length c3,.slice A4 bd.length c4],vr] W fun e W'=>∃v,e=.returned v/\kSl.R 36 W' W.heap.size (fun _=>True) v (dA ds ts ds.length)/\Below W.heap.size W W':=by
 obtain⟨n,hn⟩:∃n,n=ds.length:=⟨_,rfl⟩;obtain⟨A,cap,rfl,hsl⟩:=hR.slot;obtain⟨X,hX⟩:∃X,X=W.alloc (.cells #[.string nm,.int .i64 wd,.int .i64 ln,.slice A3 ds.length c3,.slice A4 bd.length c4] 25):=⟨_,rfl⟩
 have hXB:Below W.heap.size W X:=by rw[hX];exact(ar _ _).alloc (aq _) _
 have hbx:X.heap[W.heap.size]? =ag (.cells #[.string nm,.int .i64 wd,.int .i64 ln,.slice A3 ds.length c3,.slice A4 bd.length c4] 25 (0,0)):=by rw[hX];exact aW _ _
 rw[hlen]at hsl ⊢;rw[←hn]at hbx hX hsl hf ⊢;have HX:=aa (aj (Kd.aF hd hXB) (aj hbx (aj hXB (aj (fun d hd=>hsl d hd) hn))));clear hd hR hsl hXB hbx hlen hn;go_enter Tryz.func70,Tryz.ntmps70
 go_upto_region 1 with (fail)
 rw[←hX];clear hX;go_wp2_with fail
 go_loopw [5,6] (fun o i W'=>∃(k:Nat) (vo:Value),vo=o/\i=.int .i64 k/\k<=n/\Aside0 (Below X.heap.size X W'/\kSl.R 36 W' X.heap.size (fun _=>True) vo (dA ds ts k))) (fun _ i _=>n - (intOf i).toNat)
 case atStart=>exact⟨0,_,rfl,rfl,bk _,⟨ar _ _,Kd.iG _ _ _ _ _⟩⟩
 case round=>
  obtain⟨k,vo,rfl,rfl,hk,HB⟩:=hrel;have x3:wr.cell? ⟨W.heap.size,3,ak⟩=ag (.slice A3 n c3):=(aA (aB HX.out.2.1 HB.out.1) 3).trans rfl
  by_cases hlt:k<n
  ·have hlt2:(k:Int)<(n:Int):=by omega
   obtain⟨ad,A9,c9,e1,q0,q1,q2,q3,l9,g9⟩:=eD HX.out.1 (k:Int) (by omega) (by rw[←HX.out.2.2.2.2];exact hlt2);cases e1;rw[ax]at q0;obtain⟨kd,hkd⟩:∃x,x=(aI ds (k:Int)).f0:=⟨_,rfl⟩;rw[←hkd]at q0;have p0:=aE HB.out.1 q0;have TS:=toldT_succ ds ts k;rw[←hkd]at TS;clear q0 q1 q2 q3 l9 g9 hkd
   by_cases h3:kd=3
   ·have HN:=aa (show Below X.heap.size X wr/\kSl.R 36 wr X.heap.size (fun _=>True) vo (dA ds ts (k+1)) from⟨HB.out.1,by rw[TS,if_pos h3];exact HB.out.2⟩);clear TS;go_wp2_with fail;refine⟨⟨k+1,_,rfl,show _ =bh .i64 ((k+1:Nat):Int) from by go_num,by omega,HN⟩,by simp[intOf];omega⟩
   ·obtain⟨ad2,eA,qs⟩:=HX.out.2.2.2.1 k hlt;subst eA;have ps:=aE HB.out.1 (aE HX.out.2.2.1 qs);obtain⟨⟨b1,b2,b3⟩,ht⟩:∃t,t=ts.getD k zSl:=⟨_,rfl⟩;rw[←ht]at ps TS;replace ps:wr.cell? (ad2.add k)=ag (.slice (ag ⟨b1,0,ak⟩) b2 b3):=ps;have HT:=aa (show dA ds ts (k+1)=dA ds ts k++[(b1,b2,b3)] from by rw[TS,if_neg h3]);have TL:=aa (show((dA ds ts k).length+1)*24<=140737488355328 by have:=toldIx_len ds k;simp[dA];omega);clear TS qs ht
    go_wp2_with (at_builtin;refine Kd.cX kSl (w0:=X) X.heap.size rfl (.tmp 21) (.tmp 26) 37 36 (.slice ak 0 0) 24 rfl oY info36 rfl (by decide) (by decide) vo (dA ds ts k) (b1,b2,b3) [.slice (ag ⟨b1,0,ak⟩) b2 b3] (fun _=>True) (fun _=>False) rfl rfl rfl (fun _ h=>h.elim) (fun _ _=>trivial) HB.out.2 HB.out.1 HB.out.1.size TL.out ?_)
    intro v1 u1 hr1 hb1 hg1 hat1;have HN:=aa (show Below X.heap.size X u1/\kSl.R 36 u1 X.heap.size (fun _=>True) v1 (dA ds ts (k+1)) from⟨hb1,by rw[HT.out];exact hr1⟩);clear hr1 hb1 hg1 hat1;go_wp2_with fail;refine⟨⟨k+1,_,rfl,show _ =bh .i64 ((k+1:Nat):Int) from by go_num,by omega,HN⟩,by simp[intOf];omega⟩
  ·have hkn:k=n:=by omega
   subst hkn
   have hge:¬(k:Int)<(k:Int):=by omega
   go_wp2_with fail;go_ret;exact⟨_,rfl,Kd.fK HB.out.2 HX.out.2.2.1.size,HX.out.2.2.1.trans (HB.out.1.mono HX.out.2.2.1.size)⟩
end
section
set_option maxRecDepth 100000
variable {c:Cfg}{vr:Value}{ts:List (Nat × Nat × Nat)}
structure Kids (c:Cfg)(vr vl:Value)(ts:List (Nat × Nat × Nat))(R:List (List Int))(L:List (ByteArray × Int))(e:S116)(A:Option Addr)(cap:Nat)(X:World)(b:Nat)(T1:List S101)(ws:List Int)(v:Value)(W:World):Prop where
 at':RAt c vr ts vl R L T1 W
 kt:Kt [98,101] ak X W
 box:W.heap[b]? =ag (.cells #[.int .i64 e.f0,.int .u64 e.f1,.string e.f2,.slice A e.f3.length cap] 116 (0,0))
 own:(Kd.int .u64).R 74 W c.w0.heap.size (fun k=>X.heap.size<=k) v ws
theorem Kids.push {vl:Value}{R:List (List Int)}{L:List (ByteArray × Int)}{e:S116}{A:Option Addr}{cap:Nat}{X:World}{b:Nat}{T0 T1:List S101}{ws:List Int}{v:Value}{W:World}(h:Kids c vr vl ts R L e A cap X b T1 ws v W)(h0:RAt c vr ts vl R L T0 X)(hb:b<X.heap.size)(hx:X.heap[b]? =ag (.cells #[.int .i64 e.f0,.int .u64 e.f1,.string e.f2,.slice A e.f3.length cap] 116 (0,0))){W2:World}{v2:Value}{ws2:List Int}(hg:W.grownBy W2 v.ownBlock)(hr:(Kd.int .u64).R 74 W2 c.w0.heap.size (fun k=>X.heap.size<=k) v2 ws2)(low:Below c.w0.heap.size c.w0 W2):Kids c vr vl ts R L e A cap X b T1 ws2 v2 W2:=by
 have hk:Kt [98,101] ak X W2:=h.kt.grown_new hg (fun k hk=>h.own.1 k hk);exact⟨h0.seen hk low (h.at'.eye.row (words_row h.own hg) (by simp) (by simp)),hk,hk.blk _ _ _ _ hx (by simp),hr⟩
theorem rexpr (hs:SOK c.wd c.ln c.ds)(e:S116)(hk1:1<=e.f0)(ih:∀y∈e.f3,ExprR c vr ts y):ExprR c vr ts e:=by
 intro W vl R L T A cap hM hR hL hD hL64 hE hT hC hcap;have hkd:=hE.kind;have hcaps:=hM.low.size;obtain⟨T1,hT1⟩:∃T1,T1=T++(eG c.wd c.ln c.ds R L e.f3).2:=⟨_,rfl⟩;obtain⟨ws,hws⟩:∃ws,ws=(eG c.wd c.ln c.ds R L e.f3).1:=⟨_,rfl⟩
 have HR:=aa (show evE c.wd c.ln c.ds R L e=if e.f0=1 then(e.f1,[])else if e.f0=2 then((lkL L e.f2).getD (dM R (dNo c.ds e.f2) 0),[])else
  ((nC c.wd c.ln c.ds R e.f0 e.f2 (ws.getD 0 0) (ws.getD 1 0) (ws.getD 2 0)).1,(eG c.wd c.ln c.ds R L e.f3).2++(nC c.wd c.ln c.ds R e.f0 e.f2 (ws.getD 0 0) (ws.getD 1 0) (ws.getD 2 0)).2) from by rw[hws];exact evE_eq _ _ _ _ _ _)
 obtain⟨k,hkk⟩:∃k,k=e.f0:=⟨_,rfl⟩;obtain⟨num,hnum⟩:∃k,k=e.f1:=⟨_,rfl⟩;obtain⟨nm,hnm⟩:∃k,k=e.f2:=⟨_,rfl⟩;obtain⟨l,hl⟩:∃k,k=e.f3:=⟨_,rfl⟩;have HE0:=aa (show e=⟨k,num,nm,l⟩ from by rw[hkk,hnum,hnm,hl];cases e;rfl);obtain⟨r,hr⟩:∃r,r=evE c.wd c.ln c.ds R L e:=⟨_,rfl⟩;rw[←hr]at HR ⊢;rw[←hkk,←hnm,←hnum]at HR;rw[←hl]at hT1 hws hC hcap ih HR;rw[←hkk,←hnum,←hnm,←hl];obtain⟨n,hn⟩:∃n,n=l.length:=⟨_,rfl⟩;rw[←hn]at hC hcap ⊢;obtain⟨X,hX⟩:∃X,X=W.alloc (.cells #[.int .i64 k,.int .u64 num,.string nm,.slice A n cap] 116):=⟨_,rfl⟩
 have hXB:Below W.heap.size W X:=by rw[hX];exact(ar _ _).alloc (aq _) _
 have hXs:W.heap.size<X.heap.size:=by rw[hX];simp
 have hbx:X.heap[W.heap.size]? =ag (.cells #[.int .i64 k,.int .u64 num,.string nm,.slice A n cap] 116 (0,0)):=by rw[hX];exact aW _ _
 have HX:=aa (aj hXB (aj (show RAt c vr ts vl R L T X from hM.below hXB) (aj hbx (aj hXs (bi hcaps hXB.size)))));have HS:=aa (aj hs (aj hR (aj hL (aj hD (aj hL64 (aj hE (aj hT (aj hcap (aj hC hkd)))))))));have IH:=aa ih;have HIN:=aa (aj hkk (aj hnum (aj hnm (aj hl (aj hn (aj hT1 (aj hws hk1)))))))
 have HK0:=aa (show Kids c vr vl ts R L ⟨k,num,nm,l⟩ A cap X W.heap.size (T++(eG c.wd c.ln c.ds R L (l.take 0)).2) (eG c.wd c.ln c.ds R L (l.take 0)).1 (.slice ak 0 0) X from by
  rw[jx,eG,ed]
  exact⟨HX.out.2.1,Kt.refl _ _ _,by rw[←hn];exact hbx,Kd.iG _ _ _ _ _⟩)
 clear hM hR hL hD hL64 hE hT hC hcap hkd hcaps hT1 hws hkk hnum hnm hl hn hXB hXs hbx ih hk1 hs hr;go_enter Tryz.func162,Tryz.ntmps162
 go_upto_region 1 with (fail)
 rw[←hX];clear hX;go_wp2_with fail
 go_loopw [5,6] (fun v i W'=>∃(j:Nat) (u:Value),u=v/\i=.int .i64 j/\j<=n/\Aside0 (Kids c vr vl ts R L ⟨k,num,nm,l⟩ A cap X W.heap.size (T++(eG c.wd c.ln c.ds R L (l.take j)).2) (eG c.wd c.ln c.ds R L (l.take j)).1 u W')) (fun _ i _=>n - (intOf i).toNat)
 case atStart=>exact⟨0,_,rfl,rfl,bk _,HK0⟩
 case round=>
  obtain⟨j,v,rfl,rfl,hj,HK⟩:=hrel;have hbox:=HK.out.box;rw[←HIN.out.2.2.2.2.1]at hbox
  by_cases hlt:j<n
  ·have hlt2:(j:Int)<(n:Int):=by omega
   obtain⟨ad,A3,c3,rfl,q0,q1,q2,q3,l3,g3⟩:=iD HS.out.2.2.2.2.2.2.2.2.1 (j:Int) (by omega) (by omega);rw[ax]at q0 q1 q2 q3;have p0:=aE HK.out.at'.low q0;have p1:=aE HK.out.at'.low q1;have p2:=aE HK.out.at'.low q2;have p3:=aE HK.out.at'.low q3;have z3:=(aA hbox 3).trans rfl
   have hj0:j<l.length:=by rw[←HIN.out.2.2.2.2.1];exact hlt
   have MEM:=aa (gS hj0);have TK:=aa (dS hj0);have G3:=aa (aj g3 l3);obtain⟨y',hy⟩:∃y,y=bR l (j:Int):=⟨_,rfl⟩;rw[←hy]at p0 p1 p2 p3 MEM TK G3;clear q0 q1 q2 q3 hy l3 g3 hbox hj0;go_wp2_with fail;have TK2:=congrArg (eG c.wd c.ln c.ds R L) TK.out;rw[evEs_app]at TK2;have TW:=congrArg bM TK.out;rw[eI]at TW;have hkid:aM ⟨k,num,nm,l⟩=1+bM l:=eE _;have h1:=HS.out.2.2.2.2.2.2.1;rw[HE0.out]at h1;have h2:=kI c.wd c.ln c.ds R L (l.take j);have h3:=fP l (j+1);refine(IH.out y' MEM.out wr vl R L (T++(eG c.wd c.ln c.ds R L (l.take j)).2) A3 c3 HK.out.at' HS.out.2.1 HS.out.2.2.1 HS.out.2.2.2.1 HS.out.2.2.2.2.1 (HS.out.2.2.2.2.2.1.kid (HIN.out.2.2.2.1 ▸ MEM.out)) (by rw[ba];omega) G3.out.1 G3.out.2).mono ?_;rintro _ W4 ⟨rfl,hm4,hk4⟩
   have j3:(j:Int)<3:=by
    have:=HS.out.2.2.2.2.2.2.2.2.2.2.2.2.1;rw[←HIN.out.2.2.2.1]at this;have:=HIN.out.2.2.2.2.1;omega
   have HK4:=aa (show Kids c vr vl ts R L ⟨k,num,nm,l⟩ (ag ad) cap X W.heap.size (T++(eG c.wd c.ln c.ds R L (l.take (j+1))).2) (eG c.wd c.ln c.ds R L (l.take j)).1 v W4 from
    ⟨by rw[TK2,←dr];exact hm4,HK.out.kt.trans hk4,hk4.blk _ _ _ _ HK.out.box (by simp),hk4.row HK.out.own (fun q hq=>by
      have:q=74:=by simpa[Kd.int,Kd.scalar]using hq
      rw[this];simp)⟩)
   have HT2:=aa (show(eG c.wd c.ln c.ds R L (l.take (j+1))).1=(eG c.wd c.ln c.ds R L (l.take j)).1++[(evE c.wd c.ln c.ds R L y').1] from by rw[TK2])
   have HLN:=aa (show((eG c.wd c.ln c.ds R L (l.take j)).1.length+1)*8<=140737488355328 from by
    have:=HS.out.2.2.2.2.2.2.2.2.2.2.2.2.1;rw[←HIN.out.2.2.2.1]at this;have:=HIN.out.2.2.2.2.1
    rw[evEs_len,dm];omega)
   have FR:=aa (show ∀b,W4.heap.size<=b->X.heap.size<=b from fun b hb=>bi HK4.out.kt.size hb);obtain⟨yv,hyv⟩:∃x,x=(evE c.wd c.ln c.ds R L y').1:=⟨_,rfl⟩;rw[←hyv]at HT2 ⊢;clear hm4 hk4 hyv TK2 TW hkid h1 h2 h3 p0 p1 p2 p3 z3
   go_wp2_with (at_builtin;refine Kd.cX (Kd.int .u64) (w0:=c.w0) c.w0.heap.size rfl (.tmp 21) (.tmp 29) 36 74 (.int .u64 0) 8 rfl gM mL rfl (by decide) (by decide) v (eG c.wd c.ln c.ds R L (l.take j)).1 yv [.int .u64 yv] (fun k=>X.heap.size<=k) (fun _=>False) rfl rfl rfl (fun _ h=>h.elim) FR.out HK4.out.own HK4.out.at'.low HK4.out.at'.low.size HLN.out ?_)
   intro v1 w1 hr1 hb1 hg1 hat1;rw[←HT2.out]at hr1;have HN:=aa (HK4.out.push HX.out.2.1 HX.out.2.2.2.1 (by rw[←HIN.out.2.2.2.2.1];exact HX.out.2.2.1) hg1 hr1 hb1);clear hr1 hb1 hg1 hat1;go_wp2_with fail;go_roundw
   case measure=>simp[intOf];omega
   case rel=>exact⟨j+1,_,rfl,show _ =bh .i64 ((j+1:Nat):Int) from by go_num,by omega,HN⟩
  ·have hjn:j=l.length:=by have:=HIN.out.2.2.2.2.1;omega
   rw[hjn,eu,←HIN.out.2.2.2.2.2.1,←HIN.out.2.2.2.2.2.2.1]at HK
   have hlt2:¬(j:Int)<(n:Int):=by omega
   have hkd:=HS.out.2.2.2.2.2.2.2.2.2;rw[←HIN.out.1,←HIN.out.2.2.2.1]at hkd;have hk1:=HIN.out.2.2.2.2.2.2.2;rw[←HIN.out.1]at hk1
   have hwl:ws.length=l.length:=by rw[HIN.out.2.2.2.2.2.2.1,evEs_len]
   have hkk:k=1\/k=2\/3<=k:=by omega
   have OUT:=aa (show ∀g:G wr,RAt c vr ts vl R L T1 g.W/\Kt [98,101] ak W g.W from fun g=>⟨HK.out.at'.below g.below,((Kt.of_below HX.out.1 _ _).trans HK.out.kt).trans (Kt.of_below g.below _ _)⟩);have b0:∀g:G wr,g.W.cell? ⟨W.heap.size,0,ak⟩=ag (.int .i64 k):=fun g=>(aA (aB hbox g.below) 0).trans rfl;have b2:∀g:G wr,g.W.cell? ⟨W.heap.size,2,ak⟩=ag (.string nm):=fun g=>(aA (aB hbox g.below) 2).trans rfl;have b3:∀g:G wr,g.W.cell? ⟨W.heap.size,3,ak⟩=ag (.slice A n cap):=fun g=>(aA (aB hbox g.below) 3).trans rfl;have m1:∀g:G wr,g.W.cell? ⟨c.mb,1,ak⟩=ag (.int .i64 c.wd):=fun g=>(OUT.out g).1.cells.1
   rcases hkk with hkk | hkk | hkk
   ·have hr2:=HR.out;rw[if_pos hkk]at hr2
    have hl0:l.length=0:=by have h:=hkd.2.2.1;rw[hkk]at h;have:fL 1=0:=rfl;omega
    have HT:=aa (show T1=T from by rw[HIN.out.2.2.2.2.2.1,List.length_eq_zero_iff.1 hl0,eG,ed]);have H2:=aa hr2;have b1:∀g:G wr,g.W.cell? ⟨W.heap.size,1,ak⟩=ag (.int .u64 num):=fun g=>(aA (aB hbox g.below) 1).trans rfl;subst hkk;clear hr2 hl0 hwl hkd hjn hk1 hbox;refine aG ?_;intro gg;go_wp2_with fail;go_ret;rw[H2.out];refine⟨rfl,?_,(OUT.out gg).2⟩;have h:=(OUT.out gg).1;rw[HT.out]at h;rw[ed];exact h
   ·have hr2:=HR.out;rw[if_neg (by omega),if_pos hkk]at hr2
    have hl0:l.length=0:=by have h:=hkd.2.2.1;rw[hkk]at h;have:fL 2=0:=rfl;omega
    have HT:=aa (show T1=T from by rw[HIN.out.2.2.2.2.2.1,List.length_eq_zero_iff.1 hl0,eG,ed]);have H2:=aa hr2;have hnm:=HS.out.2.2.2.2.2.1.name (by rw[←HIN.out.1];exact hkk);rw[←HIN.out.2.2.1]at hnm;obtain⟨Al,cl,rfl,hlc,hLC⟩:=Kd.cO HK.out.at'.loops;have HLC:=aa hLC;have HNM:=aa hnm;have m6:∀g:G wr,g.W.cell? ⟨c.mb,6,ak⟩=ag (.slice Al L.length cl):=fun g=>(OUT.out g).1.cells.2.2.2.2
    have hLl:(L.length:Int)<65:=by have:=HS.out.2.2.2.2.1;omega
    subst hkk;clear hr2 hl0 hwl hkd hjn hk1 hbox hLC hnm hlc;refine aG ?_;intro gg;go_wp2_with fail
    go_loopw [8] (fun i W'=>∃(t:Nat) (g:G wr),i=.int .i64 ((t:Int) - 1)/\W'=g.W/\t<=L.length/\Aside0 (∀u,t<=u->u<L.length->eqS (L.getD u zLp).1 nm=ac)) (fun i _=>(intOf i+1).toNat)
    case atStart=>exact⟨L.length,gg,by first | rfl | simp,rfl,aq _,⟨fun u h1 h2=>by omega⟩⟩
    case round=>
     obtain⟨t,gg,rfl,rfl,ht,HN⟩:=hrel
     cases t with
     |zero=>
      have hno:=lkL_no fun u hu=>HN.out u (bk _) hu
      have hf:(cG c.ds nm).isSome=af:=by
       rcases HNM.out with h | h
       ·rw[←qL,hno]at h;cases h
       ·exact h.2
      have HF:=aa hf;obtain⟨d,bb,n2,A2,RN,cp,c0,hrow⟩:=rF HS.out.1 HS.out.2.1 HK.out.at' hf
      have n1:(0:Int)<(n2:Int):=by have:=hrow.n1;omega
      have d0:(0:Int)<=(d:Int):=by omega
      have d1:(d:Int)<(RN:Int):=by have:=hrow.lt;have:=hrow.rn;omega
      have m5:∀g:G wr,g.W.cell? ⟨c.mb,5,ak⟩=ag (.slice (ag A2) RN cp):=fun g=>by rw[←hrow.v];exact(OUT.out g).1.cells.2.2.2.1
      have q1:∀g:G wr,g.W.cell? (A2.add d)=ag (.slice (ag ⟨bb,0,ak⟩) n2 c0):=fun g=>aE g.below hrow.cell
      have q2:∀g:G wr,g.W.cell? ⟨bb,0,ak⟩=ag (.int .u64 (dM R d 0)):=fun g=>by
       rw[hrow.at'];exact aE g.below (HK.out.at'.word hrow.lt hrow.len (by have:=hrow.n1;omega)).1
      have HRW:=aa (aj hrow hno);clear hno hf hrow;go_wp2_with fail;refine bT (by kernel_rfl) (by kernel_rfl) ?_
      repeat(go_big_quiet_step (first | (go_at_call 163;exact aD (iZ (OUT.out _).1 HRW.out.1.no.1 HF.out))))
      refine wpQuiet_nil ?_;rintro _ ⟨gg,rfl⟩;go_wp2_with fail;go_ret;rw[H2.out,HRW.out.2,←HRW.out.1.no.1];refine⟨rfl,?_,(OUT.out gg).2⟩;have h:=(OUT.out gg).1;rw[HT.out]at h;rw[ed];exact h
     |succ t=>
      have e1:((t+1:Nat):Int) - 1=(t:Int):=by omega
      rw[e1];clear e1
      obtain⟨ad,rfl,q0,q1⟩:=at_Lp HLC.out (t:Int) (by omega) (by omega)
      rw[ax]at q0 q1;obtain⟨p,hp⟩:∃p,p=L.getD t zLp:=⟨_,rfl⟩;rw[←hp]at q0 q1;have p0:∀g:G wr,g.W.cell? (ad.add (t*2))=ag (.string p.1):=fun g=>aE g.below q0;have p1:∀g:G wr,g.W.cell? ⟨(ad.add (t*2)).block,(ad.add (t*2)).off+1,ak⟩=ag (.int .u64 p.2):=fun g=>aE g.below q1
      have t0:(0:Int)<=(t:Int):=by omega
      have t1:(t:Int)<(L.length:Int):=by omega
      have HP:=aa hp;clear q0 q1 hp
      by_cases he:p.1.toList=nm.toList
      ·have HE:=aa he;have bb:(p.1.toList==nm.toList)=af:=beq_iff_eq.mpr he;clear he;go_wp2_with fail;refine bT (by kernel_rfl) (by kernel_rfl) ?_
       repeat go_big_quiet_step (fail)
       refine wpQuiet_nil ?_;rintro _ ⟨gg,rfl⟩;go_wp2_with fail;go_ret;have hv:=lkL_at HS.out.2.2.2.1 (nm:=nm) (i:=t) (by omega) (by rw[←HP.out];unfold eqS;exact decide_eq_true HE.out);rw[H2.out,hv,←HP.out];refine⟨rfl,?_,(OUT.out gg).2⟩;have h:=(OUT.out gg).1;rw[HT.out]at h;rw[ed];exact h
      ·have HE:=aa he;have bb:(p.1.toList==nm.toList)=ac:=beq_eq_false_iff_ne.mpr he;clear he;go_wp2_with fail;refine bT (by kernel_rfl) (by kernel_rfl) ?_
       repeat go_big_quiet_step (fail)
       refine wpQuiet_nil ?_;rintro _ ⟨gg,rfl⟩;go_wp2_with fail;go_roundw
       case measure=>simp[intOf]
       case rel=>exact⟨t,gg,by first | rfl | simp,rfl,by omega,⟨fun u h1 h2=>(gy (u=t)).elim (fun h=>by rw[h,←HP.out];exact decide_eq_false HE.out) (fun h=>HN.out u (by omega) h2)⟩⟩
   ·have hr2:=HR.out;rw[if_neg (by omega),if_neg (by omega)]at hr2
    have hlp:0<ws.length/\(((6<=k/\k<=26)/\k≠26\/k=26)->1<ws.length)/\(k=26->2<ws.length):=by
     have h:=hkd.2.2.1;unfold fL at h;rw[hwl]
     repeat' split at h
     all_goals omega
    obtain⟨gb,capv,cs,rfl,hbv,hcs⟩:=qQ HK.out.own hlp.1;have hu:=evEs_u64 HS.out.1 HS.out.2.1 HS.out.2.2.1 l (fun y hy=>HS.out.2.2.2.2.2.1.kid (HIN.out.2.2.2.1 ▸ hy));rw[←HIN.out.2.2.2.2.2.2.1]at hu;obtain⟨x,hx⟩:∃x,x=ws.getD 0 0:=⟨_,rfl⟩;obtain⟨y,hy⟩:∃x,x=ws.getD 1 0:=⟨_,rfl⟩;obtain⟨z,hz⟩:∃x,x=ws.getD 2 0:=⟨_,rfl⟩;rw[←hx,←hy,←hz]at hr2;have c0:=hcs 0 hlp.1;rw[←hx]at c0;have HU:=aa (show U64 x/\U64 y/\U64 z from⟨hx ▸ hu 0,hy ▸ hu 1,hz ▸ hu 2⟩);have HBV:=aa (aj hbv c0);have H2:=aa (show r=((nC c.wd c.ln c.ds R k nm x y z).1,(eG c.wd c.ln c.ds R L l).2++(nC c.wd c.ln c.ds R k nm x y z).2) from hr2);have HTT:=aa (show T++((eG c.wd c.ln c.ds R L l).2++(nC c.wd c.ln c.ds R k nm x y z).2)=T1++(nC c.wd c.ln c.ds R k nm x y z).2 from by rw[HIN.out.2.2.2.2.2.1,dr])
    have hTl:T1.length<1073741824:=by
     rw[HIN.out.2.2.2.2.2.1,ba];have h1:=HS.out.2.2.2.2.2.2.1;have h2:=kI c.wd c.ln c.ds R L l;have h3:aM ⟨k,num,nm,l⟩=1+bM l:=eE _;rw[HE0.out]at h1;omega
    have HTL:=aa hTl
    have w0:(0:Int)<(ws.length:Int):=by have:=hlp.1;omega
    have w00:=hlp.1;have x0:∀g:G wr,g.W.cell? ⟨gb,0,ak⟩=ag (.int .u64 x):=fun g=>(aA (aB hbv g.below) 0).trans c0;have HWD:=aa HS.out.1.wd;have k1:(k==1)=ac:=beq_eq_false_iff_ne.2 (by omega);have k2:(k==2)=ac:=beq_eq_false_iff_ne.2 (by omega)
    have hkk2:k=3\/(k=4\/k=5)\/k=26\/((6<=k/\k<=17)\/k=24)\/((18<=k/\k<=23)\/k=25):=by have h2:=hkd.2.1;omega
    clear hr2 hx hu hTl hjn hwl hkd hk1;have b00:wr.cell? ⟨W.heap.size,0,ak⟩=ag (.int .i64 k):=(aA hbox 0).trans rfl;have b02:wr.cell? ⟨W.heap.size,2,ak⟩=ag (.string nm):=(aA hbox 2).trans rfl;have b03:wr.cell? ⟨W.heap.size,3,ak⟩=ag (.slice A n cap):=(aA hbox 3).trans rfl;have m01:wr.cell? ⟨c.mb,1,ak⟩=ag (.int .i64 c.wd):=HK.out.at'.cells.1
    rcases hkk2 with hk3 | hk3 | hk3 | hk3 | hk3
    ·have HF:=aa (show nC c.wd c.ln c.ds R k nm x y z=(dM R (dNo c.ds nm) (x % ((rowOf R (dNo c.ds nm)).length:Int)).toNat,[⟨2,dNo c.ds nm,x % ((rowOf R (dNo c.ds nm)).length:Int) / c.ln⟩]) from by unfold nC;rw[if_pos hk3])
     have hf:(cG c.ds nm).isSome=af:=by
      rw[HIN.out.2.2.1];exact HS.out.2.2.2.2.2.1.load (HIN.out.1 ▸ hk3)
     obtain⟨d,bb,n2,A2,RN,cp,c9,hrow⟩:=rF HS.out.1 HS.out.2.1 HK.out.at' hf;rw[←hrow.no.1,←hrow.len]at HF;have n21:=hrow.n1;obtain⟨j2,hj2⟩:=ew (Int.emod_nonneg x (show(n2:Int)≠0 by omega))
     have hj2n:j2<n2:=by have:=kp x (show(0:Int)<(n2:Int) by omega);omega
     rw[hj2]at HF
     have d0:(0:Int)<=(d:Int):=by omega
     have d1:(d:Int)<(RN:Int):=by have:=hrow.lt;have:=hrow.rn;omega
     have j0:(0:Int)<=(j2:Int):=by omega
     have j1:(j2:Int)<(n2:Int):=by omega
     have HSK:=aa (show ∀w1,Kt [98,101] ak wr w1->RAt c vr ts vl R L T1 w1\/True->w1.cell? (A2.add d)=ag (.slice (ag ⟨bb,0,ak⟩) n2 c9)/\w1.cell? ⟨gb,0,ak⟩=ag (.int .u64 x)/\w1.cell? ⟨bb,j2,ak⟩=ag (.int .u64 (dM R d j2)) from fun w1 hk _=>⟨hrow.cells hk (by simp),(hk.cell HBV.out.1 (by simp) 0).trans HBV.out.2,by
      obtain⟨q1,⟨cs',q2⟩,_⟩:=HK.out.at'.word hrow.lt hrow.len hj2n;rw[hrow.at',World.cell?_of_block (w:=wr) (by rw[q2];exact hk.blk _ _ _ _ q2 (by simp))]
      exact q1⟩)
     have HRW:=aa (aj hrow (aj hf hj2));subst hk3;clear hy hz hcs hlp hbv c0 hkk hbox hf hrow hj2 hj2n n21 b0 b2 b3 m1 x0;go_wp2_with fail;refine(iZ HK.out.at' HRW.out.1.no.1 HRW.out.2.1).mono ?_;rintro _ w3 ⟨rfl,hb3⟩;have HM3:=aa (show RAt c vr ts vl R L T1 w3.drew/\Kt [98,101] ak wr w3/\RRow c nm vr ts R w3.drew d bb n2 A2 RN cp c9 from⟨(HK.out.at'.below hb3).below (ar _ _).drew,Kt.of_below hb3 _ _,HRW.out.1.kt ((Kt.of_below hb3 [98,101] ak).trans (Kt.of_below (ar _ _).drew _ _)) (by simp)⟩);obtain⟨s1,s2,s3⟩:=HSK.out w3 HM3.out.2.1 (.inr trivial)
     have m5:w3.cell? ⟨c.mb,5,ak⟩=ag (.slice (ag A2) RN cp):=by rw[←HRW.out.1.v];exact(HK.out.at'.below hb3).cells.2.2.2.1
     clear hb3 b00 b02 b03 m01;go_wp2_with fail
     go_region_held3 (fun w'=>w'.cell? ⟨c.mb,5,ak⟩=ag (.slice (ag A2) RN cp)/\w'.cell? (A2.add d)=ag (.slice (ag ⟨bb,0,ak⟩) n2 c9)/\w'.cell? ⟨gb,0,ak⟩=ag (.int .u64 x)/\w'.cell? ⟨bb,j2,ak⟩=ag (.int .u64 (dM R d j2)))
      (first | go_keep | exact⟨by rw[←HRW.out.1.v];exact hm1.cells.2.2.2.1,HSK.out _ (HM3.out.2.1.trans hk1) (.inr trivial)⟩)
      (first | (go_at_call 164;refine(pQ HS.out.1 HM3.out.1 HM3.out.2.2 2 x HU.out.1.1 HRW.out.2.2 HTL.out).mono ?_;rintro _ w1 ⟨rfl,hm1,hk1⟩;have hk1:=hk1.undrew))
     have HE:=aa (aj hm1 (HM3.out.2.1.trans hk1));clear hm1 hk1 s1 s2 s3 m5;go_wp2_with fail;go_ret;rw[H2.out,HTT.out];simp only[HF.out,ax];exact⟨rfl,HE.out.1,(OUT.out ⟨wr,ar _ _⟩).2.trans HE.out.2⟩
    ·have k3:(k==3)=ac:=beq_eq_false_iff_ne.2 (by omega);have HF:=aa (fin45 c.wd c.ln c.ds R hk3 nm x y z);obtain⟨op,hop⟩:∃op,op=opR k:=⟨_,rfl⟩;have CO:=aa (show ∀w:World,_ from fun w=>refOp_v (v:=op) hop (by omega) w);have CU:=aa (show ∀w:World,_ from fun w=>hop ▸ refUn_v k HWD.out hk3 HU.out.1 w)
     have hkb:k=4\/((k==4)=ac/\(k==5)=af):=by
      rcases hk3 with h | h
      ·exact .inl h
      ·exact .inr (by rw[h];decide)
     clear hy hz hcs hlp hbv c0 hk3 hkk hop hbox
     rcases hkb with rfl | ⟨hk4,hk5⟩
     all_goals(
      refine aG ?_;intro gg;go_wp2_with fail;refine bT (by kernel_rfl) (by kernel_rfl) ?_
      repeat(go_big_quiet_step (first | (go_at_call 237;exact aD (CO.out _)) | (go_at_call 236;exact aD (CU.out _))))
      refine wpQuiet_nil ?_;rintro _ ⟨gg,rfl⟩;go_wp2_with fail;go_ret;rw[H2.out,HTT.out];simp only[HF.out,ed]
      exact⟨rfl,(OUT.out gg).1,(OUT.out gg).2⟩)
    ·have c1:=hcs 1 (hlp.2.1 (.inr hk3));have c2:=hcs 2 (hlp.2.2 hk3);rw[←hy]at c1;rw[←hz]at c2
     have w1:(1:Int)<(ws.length:Int):=by have:=hlp.2.1 (.inr hk3);omega
     have w2:(2:Int)<(ws.length:Int):=by have:=hlp.2.2 hk3;omega
     have x1:∀g:G wr,g.W.cell? ⟨gb,1,ak⟩=ag (.int .u64 y):=fun g=>(aA (aB hbv g.below) 1).trans c1;have x2:∀g:G wr,g.W.cell? ⟨gb,2,ak⟩=ag (.int .u64 z):=fun g=>(aA (aB hbv g.below) 2).trans c2;subst hk3;clear hy hz hcs hlp hbv c0 c1 c2 hkk hbox
     by_cases hx:x=0
     ·subst hx;refine aG ?_;intro gg;go_wp2_with fail;go_ret;rw[H2.out,HTT.out];simp only[fin26,ed];exact⟨rfl,(OUT.out gg).1,(OUT.out gg).2⟩
     ·have hx2:(x==0)=ac:=beq_eq_false_iff_ne.2 hx;refine aG ?_;intro gg;go_wp2_with fail;go_ret;rw[H2.out,HTT.out];simp only[fin26,ed];exact⟨by rw[if_pos hx];rfl,(OUT.out gg).1,(OUT.out gg).2⟩
    ·have c1:=hcs 1 (hlp.2.1 (.inl (by omega)));rw[←hy]at c1;have w11:1<ws.length:=hlp.2.1 (.inl (by omega))
     have w1:(1:Int)<(ws.length:Int):=by omega
     have x1:∀g:G wr,g.W.cell? ⟨gb,1,ak⟩=ag (.int .u64 y):=fun g=>(aA (aB hbv g.below) 1).trans c1;have k3:(k==3)=ac:=beq_eq_false_iff_ne.2 (by omega);have k4:(k==4)=ac:=beq_eq_false_iff_ne.2 (by omega);have k5:(k==5)=ac:=beq_eq_false_iff_ne.2 (by omega);have k18:(k==18)=ac:=beq_eq_false_iff_ne.2 (by omega);have k19:(k==19)=ac:=beq_eq_false_iff_ne.2 (by omega);have k20:(k==20)=ac:=beq_eq_false_iff_ne.2 (by omega);have k21:(k==21)=ac:=beq_eq_false_iff_ne.2 (by omega);have k22:(k==22)=ac:=beq_eq_false_iff_ne.2 (by omega);have k23:(k==23)=ac:=beq_eq_false_iff_ne.2 (by omega);have k25:(k==25)=ac:=beq_eq_false_iff_ne.2 (by omega);have k26:(k==26)=ac:=beq_eq_false_iff_ne.2 (by omega);obtain⟨op,hop⟩:∃op,op=opR k:=⟨_,rfl⟩;obtain⟨bv,hbv2⟩:∃v,v=binW k c.wd x y:=⟨_,rfl⟩;have CO:=aa (show ∀w:World,_ from fun w=>refOp_v (v:=op) hop (by omega) w);have CB:=aa (show ∀w:World,_ from fun w=>hbv2 ▸ hop ▸ refBin_v k HWD.out hk3 HU.out.1 HU.out.2.1 w)
     by_cases h78:k=7\/k=8
     ·have HF:=aa (show nC c.wd c.ln c.ds R k nm x y z=(bv,[⟨4,x,y⟩]) from by rw[finBin _ _ _ _ hk3,if_pos h78,hbv2]);have HSK:=aa (show ∀w1,Kt [98,101] ak wr w1->w1.cell? ⟨gb,0,ak⟩=ag (.int .u64 x)/\w1.cell? ⟨gb,1,ak⟩=ag (.int .u64 y) from fun w1 hk=>⟨(hk.cell hbv (by simp) 0).trans c0,(hk.cell hbv (by simp) 1).trans c1⟩);have HBX:=aa hbox;have HMD:=aa (HK.out.at'.below (ar _ _).drew);obtain⟨s0,s1⟩:=HSK.out wr (Kt.refl _ _ _);clear hy hz hcs hlp hbv c0 c1 hkk hbox hop hbv2 hk3 b0 b2 b3 m1 x0 x1
      rcases h78 with hk7 | hk7
      all_goals(
       subst hk7;go_wp2_with fail
       go_region_held3 (fun w'=>w'.cell? ⟨gb,0,ak⟩=ag (.int .u64 x)/\w'.cell? ⟨gb,1,ak⟩=ag (.int .u64 y))
        (first | go_keep | exact HSK.out _ hk1)
        (first | (go_at_call 165;refine(iV HMD.out HTL.out 4 x y).mono ?_;rintro _ w1 ⟨rfl,hm1,hk1⟩;have hk1:=hk1.undrew))
       have HE:=aa (aj hm1 (aj hk1 (hk1.blk _ _ _ _ HBX.out (by simp))));have HC:=aa (HSK.out _ hk1);clear hm1 hk1 s0 s1 b00 b02 b03 m01;have b0:∀g:G w1,g.W.cell? ⟨W.heap.size,0,ak⟩=ag (.int .i64 _):=fun g=>(aA (aB HE.out.2.2 g.below) 0).trans rfl;have x0:∀g:G w1,g.W.cell? ⟨gb,0,ak⟩=ag (.int .u64 x):=fun g=>aE g.below HC.out.1;have x1:∀g:G w1,g.W.cell? ⟨gb,1,ak⟩=ag (.int .u64 y):=fun g=>aE g.below HC.out.2;go_wp2_with fail;refine aG ?_;intro gg;refine bT (by kernel_rfl) (by kernel_rfl) ?_
       repeat(go_big_quiet_step (first | (go_at_call 237;exact aD (CO.out _)) | (go_at_call 239;exact aD (CB.out _))))
       refine wpQuiet_nil ?_;rintro _ ⟨gg,rfl⟩;go_wp2_with fail;go_ret;rw[H2.out,HTT.out];simp only[HF.out]
       exact⟨rfl,HE.out.1.below gg.below,(OUT.out ⟨wr,ar _ _⟩).2.trans (HE.out.2.1.trans (Kt.of_below gg.below _ _))⟩)
     ·have HF:=aa (show nC c.wd c.ln c.ds R k nm x y z=(bv,[]) from by rw[finBin _ _ _ _ hk3,if_neg h78,hbv2]);have k7:(k==7)=ac:=beq_eq_false_iff_ne.2 (by omega);have k8:(k==8)=ac:=beq_eq_false_iff_ne.2 (by omega);clear hy hz hcs hlp hbv c0 c1 hkk hbox hop hbv2 hk3 h78 b00 b02 b03 m01;refine aG ?_;intro gg;go_wp2_with fail;refine bT (by kernel_rfl) (by kernel_rfl) ?_
      repeat(go_big_quiet_step (first | (go_at_call 237;exact aD (CO.out _)) | (go_at_call 239;exact aD (CB.out _))))
      refine wpQuiet_nil ?_;rintro _ ⟨gg,rfl⟩;go_wp2_with fail;go_ret;rw[H2.out,HTT.out];simp only[HF.out,ed];exact⟨rfl,(OUT.out gg).1,(OUT.out gg).2⟩
    ·have c1:=hcs 1 (hlp.2.1 (.inl (by omega)));rw[←hy]at c1;have w11:1<ws.length:=hlp.2.1 (.inl (by omega))
     have w1:(1:Int)<(ws.length:Int):=by omega
     have x1:∀g:G wr,g.W.cell? ⟨gb,1,ak⟩=ag (.int .u64 y):=fun g=>(aA (aB hbv g.below) 1).trans c1;have k3:(k==3)=ac:=beq_eq_false_iff_ne.2 (by omega);have k4:(k==4)=ac:=beq_eq_false_iff_ne.2 (by omega);have k5:(k==5)=ac:=beq_eq_false_iff_ne.2 (by omega);have HF:=aa (finCmp c.wd c.ln c.ds R hk3 nm x y z);obtain⟨cv,hcv⟩:∃v,v=cmpW k c.wd x y:=⟨_,rfl⟩;rw[←hcv]at HF;have CC:=aa (show ∀w:World,_ from fun w=>hcv ▸ refCmp_v hk3 HWD.out HU.out.1 HU.out.2.1 w)
     have hkb:k=18\/k=19\/k=20\/k=21\/k=22\/k=23\/k=25:=by omega
     clear hy hz hcs hlp hbv c0 c1 hk3 hkk hcv hbox
     rcases hkb with rfl | rfl | rfl | rfl | rfl | rfl | rfl
     all_goals(
      refine aG ?_;intro gg;go_wp2_with fail;refine bT (by kernel_rfl) (by kernel_rfl) ?_
      repeat(go_big_quiet_step (first | (go_at_call 238;exact aD (CC.out _))))
      refine wpQuiet_nil ?_;rintro _ ⟨gg,rfl⟩;go_wp2_with fail;go_ret;rw[H2.out,HTT.out];simp only[HF.out,ed]
      exact⟨rfl,(OUT.out gg).1,(OUT.out gg).2⟩)
end
def Got (c:Cfg)(L:List (ByteArray × Int))(s:Sta)(W W':World):Prop:=MAt c s.1 L s.2 W'/\Kt [84,101,74] (ag c.lb) W W'/\ROK c.ds s.1
def BodyM (c:Cfg)(l:List S119):Prop:=∀(W:World) (R:List (List Int)) (L:List (ByteArray × Int)) (T:List S101) (A:Option Addr) (cap:Nat),MAt c R L T W->ROK c.ds R->LOK L->(∀x∈l,TOK c.ds L x)->T.length+bS l<1073741824->dN.C c.w0 A l.length l->l.length<=cap->
 Calls au 67 #[.pointer (ag ⟨c.mb,0,ak⟩),.slice A l.length cap] W fun r W'=>r=.returned (.tuple #[])/\Got c L (eO c.wd c.ln c.ds l L (R,T)) W W'
theorem exSs_one (wd ln:Int)(ds:List S70)(x:S119)(L:List (ByteArray × Int))(s:Sta):eO wd ln ds [x] L s=exS wd ln ds x L s:=by rw[eO,eO]
theorem sizeB_len (l:List S119):l.length<=bS l:=by
 induction l with
 |nil=>simp
 |cons x r ih=>rw[bS,fX,jn];omega
theorem sizeB_take (l:List S119)(k:Nat):bS (l.take k)<=bS l:=by
 induction l generalizing k with
 |nil=>simp[bS]
 |cons x r ih=>
  cases k with
  |zero=>simp[bS]
  |succ k=>rw[List.take_succ_cons,bS,bS];have:=ih k;omega
theorem body_walk (c:Cfg)(hs:SOK c.wd c.ln c.ds)(l:List S119)(ih:∀x∈l,BodyM c x.f6/\BodyM c x.f7):BodyM c l:=by
 intro W R L T A cap hM hR hL hT hlen hC hcap;obtain⟨n,hn⟩:∃n,n=l.length:=⟨_,rfl⟩;rw[←hn]at hC hcap ⊢;have HS:=aa (aj hs (aj hL (aj hT (aj hlen (aj hC hn)))));have IH:=aa ih
 have hnb:n<1073741824:=by have:=sizeB_len l;omega
 have HM0:=aa (show Got c L (eO c.wd c.ln c.ds (l.take 0) L (R,T)) W W from by
  rw[jx,eO];exact⟨hM,Kt.refl _ _ _,hR⟩)
 clear hM hR hL hT hlen hC hcap hs ih hn;go_enter Tryz.func67,Tryz.ntmps67;go_wp2_with fail
 go_loopw [11] (fun i W'=>∃(j:Nat) (W2:World),i=.int .i64 j/\W2=W'/\j<=n/\Aside0 (Got c L (eO c.wd c.ln c.ds (l.take j) L (R,T)) W W2)) (fun i _=>n - (intOf i).toNat)
 case atStart=>exact⟨0,_,rfl,rfl,bk _,HM0⟩
 case round=>
  obtain⟨j,W2,rfl,rfl,hj,HK⟩:=hrel
  by_cases hlt:j<n
  ·have hlt2:(j:Int)<(n:Int):=by omega
   obtain⟨ad,A5,c5,A9,c9,A12,c12,A13,c13,e1,q0,q1,q2,q3,q4,q5,q6,q7,q8,q9,q10,q11,q12,q13,l5,g5,l9,g9,l12,g12,l13,g13⟩:=jX HS.out.2.2.2.2.1 (j:Int) (by omega) (by omega);cases e1;rw[ax]at q0 q1 q2 q3 q4 q5 q6 q7 q8 q9 q10 q11 q12 q13
   have hj0:j<l.length:=by rw[←HS.out.2.2.2.2.2];exact hlt
   have MEM:=aa (j5 hj0);have TK:=aa (e9 hj0);have G3:=aa (aj (aj l5 g5) (aj (aj l9 g9) (aj (aj l12 g12) (aj l13 g13))));obtain⟨y,hy⟩:∃y,y=aR l (j:Int):=⟨_,rfl⟩;rw[←hy]at q0 q1 q2 q3 q4 q5 q6 q7 q8 q9 q10 q11 q12 q13 MEM TK G3;have p0:=aE HK.out.1.low q0;have p1:=aE HK.out.1.low q1;have p2:=aE HK.out.1.low q2;have p3:=aE HK.out.1.low q3;have p4:=aE HK.out.1.low q4;have p5:=aE HK.out.1.low q5;have p6:=aE HK.out.1.low q6;have p7:=aE HK.out.1.low q7;have p8:=aE HK.out.1.low q8;have p9:=aE HK.out.1.low q9;have p10:=aE HK.out.1.low q10;have p11:=aE HK.out.1.low q11;have p12:=aE HK.out.1.low q12;have p13:=aE HK.out.1.low q13;have hT:=HS.out.2.2.1 y MEM.out;have hown:=hT.own;have TK2:=congrArg (fun l=>eO c.wd c.ln c.ds l L (R,T)) TK.out;simp only[exSs_app,exSs_one]at TK2;have TW:=congrArg bS TK.out;rw[nT]at TW;have hsl:(eO c.wd c.ln c.ds (l.take j) L (R,T)).2.length<=T.length+bS (l.take j):=gZ c.wd c.ln c.ds (l.take j) L (R,T)
   have hlen:(eO c.wd c.ln c.ds (l.take j) L (R,T)).2.length+sizeT y<1073741824:=by
    have h1:=HS.out.2.2.2.1;have h2:=sizeB_take l (j+1);omega
   obtain⟨⟨R1,T1⟩,hs1⟩:∃s,s=eO c.wd c.ln c.ds (l.take j) L (R,T):=⟨_,rfl⟩;rw[←hs1]at TK2 hlen HK;replace hlen:T1.length+sizeT y<1073741824:=hlen;obtain⟨X,hX⟩:∃X,X=W2.alloc (.cells #[.int .i64 y.f0,.string y.f1,.int .i64 y.f2.f0,.int .u64 y.f2.f1,.string y.f2.f2,.slice A5 y.f2.f3.length c5,.int .i64 y.f3.f0,.int .u64 y.f3.f1,.string y.f3.f2,.slice A9 y.f3.f3.length c9,.int .u64 y.f4,.int .u64 y.f5,.slice A12 y.f6.length c12,.slice A13 y.f7.length c13] 119):=⟨_,rfl⟩
   have hXB:Below W2.heap.size W2 X:=by rw[hX];exact(ar _ _).alloc (aq _) _
   have hbx:X.heap[W2.heap.size]? =ag (.cells #[.int .i64 y.f0,.string y.f1,.int .i64 y.f2.f0,.int .u64 y.f2.f1,.string y.f2.f2,.slice A5 y.f2.f3.length c5,.int .i64 y.f3.f0,.int .u64 y.f3.f1,.string y.f3.f2,.slice A9 y.f3.f3.length c9,.int .u64 y.f4,.int .u64 y.f5,.slice A12 y.f6.length c12,.slice A13 y.f7.length c13] 119 (0,0)):=by rw[hX];exact aW _ _
   have hMX:MAt c R1 L T1 X:=HK.out.1.below hXB;have HX:=aa (aj hMX (aj ((HK.out.2.1).trans (Kt.of_below hXB _ _)) (aj HK.out.2.2 (aj hbx (aj hT (aj hown (aj hlen TK2)))))));clear q0 q1 q2 q3 q4 q5 q6 q7 q8 q9 q10 q11 q12 q13 l5 g5 l9 g9 l12 g12 l13 g13 hy TW hsl hT TK2 hs1 hlen hXB hbx hMX hj0
   have hkk:y.f0=1\/y.f0=2\/y.f0=3\/y.f0=4\/y.f0=5:=by omega
   clear hown
   rcases hkk with hkk | hkk | hkk | hkk | hkk
   ·obtain⟨d,bb,nr,A0,RN,cp,c0,HR⟩:=row_at HS.out.1 HX.out.2.2.1 HX.out.1 HX.out.2.2.2.2.2.1.2.2.1 (HX.out.2.2.2.2.1.use (.inl hkk));have HR:=aa HR
    have E:=aa (show ∀(R':List (List Int)) T' W',R'=R1->MAt c R' L T' W'->T'.length+aM y.f3<1073741824->Calls au 115 #[.pointer (ag ⟨c.mb,0,ak⟩),.agg #[.int .i64 y.f3.f0,.int .u64 y.f3.f1,.string y.f3.f2,.slice A9 y.f3.f3.length c9]] W' fun r W''=>r=.returned (.int .u64 (evE c.wd c.ln c.ds R1 L y.f3).1)/\MAt c R1 L (T'++(evE c.wd c.ln c.ds R1 L y.f3).2) W''/\Kt [84,101] ak W' W'' from fun R' T' W' hR' h hl=>by
     subst hR'
     exact lZ c HS.out.1 _ y.f3 (aq _) (HX.out.2.2.2.2.1.e' (.inl hkk)).kind.1 W' _ L T' A9 c9 h HX.out.2.2.1 HS.out.2.1 (HX.out.2.2.2.2.1.e' (.inl hkk)) hl G3.out.2.1.2 G3.out.2.1.1)
    have U:=aa (lU HS.out.1 HX.out.2.2.1 HS.out.2.1 _ y.f3 (aq _) (HX.out.2.2.2.2.1.e' (.inl hkk)));have N:=aa (gU c.wd c.ln c.ds R1 L y.f3);have SZ:=aa (show T1.length+aM y.f3<1073741824 by have h1:=HX.out.2.2.2.2.2.2.1;rw[fX,if_pos hkk]at h1;omega)
    have HSK:=aa (show ∀R' T' w1,MAt c R' L T' w1->Kt [84,101,74] ak X w1->w1.cell? ⟨c.mb,5,ak⟩=ag (.map (ag c.ab))/\w1.cell? ⟨c.mb,6,ak⟩=ag (.slice (ag A0) RN cp)/\(iw 88 (.map (ag c.ab)) (.string y.f1) ac).run au w1=.ok (.int .i64 (d:Int)) w1/\w1.cell? (A0.add d)=ag (.slice (ag ⟨bb,0,ak⟩) nr c0)/\w1.cell? ⟨W2.heap.size,1,ak⟩=ag (.string y.f1)/\w1.cell? ⟨W2.heap.size,6,ak⟩=ag (.int .i64 y.f3.f0)/\w1.cell? ⟨W2.heap.size,7,ak⟩=ag (.int .u64 y.f3.f1)/\w1.cell? ⟨W2.heap.size,8,ak⟩=ag (.string y.f3.f2)/\w1.cell? ⟨W2.heap.size,9,ak⟩=ag (.slice A9 y.f3.f3.length c9) from fun R' T' w1 h hk=>by
     obtain⟨g1,g2,g3,g4,g5⟩:=HR.out.cells hk h;have g6:=hk.blk _ _ _ _ HX.out.2.2.2.1 (by simp)
     exact⟨g1,g2,g4,g5,(aA g6 1).trans rfl,(aA g6 6).trans rfl,(aA g6 7).trans rfl,(aA g6 8).trans rfl,(aA g6 9).trans rfl⟩)
    have HMD:=aa (show MAt c R1 L T1 X.drew/\Kt [84,101] ak X X.drew/\Kt [84,101,74] ak X X.drew from⟨HX.out.1.below (ar _ _).drew,Kt.of_below (ar _ _).drew _ _,Kt.of_below (ar _ _).drew _ _⟩);obtain⟨s5,s6,sl,sa,sn,t6,t7,t8,t9⟩:=HSK.out _ _ _ HMD.out.1 HMD.out.2.2
    have d0:(0:Int)<=(d:Int):=by omega
    have d1:(d:Int)<(RN:Int):=by have:=HR.out.lt;have:=HR.out.rn;omega
    have n1:(0:Int)<(nr:Int):=by have:=HR.out.n1;omega
    have n2:0<nr:=by have:=HR.out.n1;omega
    obtain⟨v,hv⟩:∃v,v=(evE c.wd c.ln c.ds R1 L y.f3).1:=⟨_,rfl⟩;rw[←hv]at E U;have HV:=aa hv;clear hv;rw[hkk]at hX
    go_upto_region 5 with (fail)
    rw[←hX];clear hX p0 p1 p2 p3 p4 p5 p6 p7 p8 p9 p10 p11 p12 p13
    go_region_held3 (fun w'=>w'.cell? ⟨c.mb,5,ak⟩=ag (.map (ag c.ab))/\w'.cell? ⟨c.mb,6,ak⟩=ag (.slice (ag A0) RN cp)/\(iw 88 (.map (ag c.ab)) (.string y.f1) ac).run au w'=.ok (.int .i64 (d:Int)) w'/\w'.cell? (A0.add d)=ag (.slice (ag ⟨bb,0,ak⟩) nr c0)/\w'.cell? ⟨W2.heap.size,1,ak⟩=ag (.string y.f1)/\w'.cell? ⟨W2.heap.size,6,ak⟩=ag (.int .i64 y.f3.f0)/\w'.cell? ⟨W2.heap.size,7,ak⟩=ag (.int .u64 y.f3.f1)/\w'.cell? ⟨W2.heap.size,8,ak⟩=ag (.string y.f3.f2)/\w'.cell? ⟨W2.heap.size,9,ak⟩=ag (.slice A9 y.f3.f3.length c9))
     (first | exact HSK.out _ _ _ HMD.out.1 HMD.out.2.2 | exact HSK.out _ _ _ hm2 hk2 | exact HSK.out _ _ _ hm1 hk3 | go_keep)
     (first | (go_at_call 115;refine(E.out R1 T1 X.drew rfl HMD.out.1 SZ.out).mono ?_;rintro _ w1 ⟨rfl,hm1,hk1⟩;have hk1:=hk1.undrew;have hk3:Kt [84,101,74] ak X w1:=hk1.more (by simp) (fun _ h=>h);obtain⟨q1,⟨cs1,q2⟩,q3⟩:=HR.out.word hk1 hm1 (j:=0) (by have:=HR.out.n1;omega);have q4:=aH q2 0;have hm2:=q3 v;have hk2:Kt [84,101,74] ak X (w1.setCell ⟨bb,0,ak⟩ (.int .u64 v)):=hk3.set q2 (by simp) 0 _;clear q3 q2))
    all_goals(
     have HE:=aa (show Got c L (eO c.wd c.ln c.ds (l.take (j+1)) L (R,T)) W (w1.setCell ⟨bb,0,ak⟩ (.int .u64 v)) from by
      rw[HX.out.2.2.2.2.2.2.2,jB,if_pos hkk,←HR.out.no];rw[←HV.out]
      exact⟨hm2,HX.out.2.1.trans (hk2.more (fun _ h=>h) (by simp)),HX.out.2.2.1.put d 0 U.out⟩)
     clear hm1 hk1 hm2 hk2 hk3 q1 q4 s5 s6 sl sa sn t6 t7 t8 t9 d0 d1 n1 n2
     first
     | (refine⟨⟨j+1,_,show bh .i64 ((j:Int)+1)=bh .i64 ((j+1:Nat):Int) from by rw[kz];rfl,rfl,by omega,HE⟩,by simp[intOf];omega⟩)
     | (go_wp2_with fail
        go_roundw
        case measure=>simp[intOf];omega
        case rel=>exact⟨j+1,_,show _ =bh .i64 ((j+1:Nat):Int) from by go_num,rfl,by omega,HE⟩))
   ·obtain⟨d,bb,nr,A0,RN,cp,c0,HR⟩:=row_at HS.out.1 HX.out.2.2.1 HX.out.1 HX.out.2.2.2.2.2.1.2.2.1 (HX.out.2.2.2.2.1.use (.inr (.inl hkk)));have HR:=aa HR;have EOKa:=HX.out.2.2.2.2.1.at' hkk;have EOKx:=HX.out.2.2.2.2.1.e' (.inr (.inl hkk))
    have Ea:=aa (show ∀(R':List (List Int)) T' W',R'=R1->MAt c R' L T' W'->T'.length+aM y.f2<1073741824->Calls au 115 #[.pointer (ag ⟨c.mb,0,ak⟩),.agg #[.int .i64 y.f2.f0,.int .u64 y.f2.f1,.string y.f2.f2,.slice A5 y.f2.f3.length c5]] W' fun r W''=>r=.returned (.int .u64 (evE c.wd c.ln c.ds R1 L y.f2).1)/\MAt c R1 L (T'++(evE c.wd c.ln c.ds R1 L y.f2).2) W''/\Kt [84,101] ak W' W'' from fun R' T' W' hR' h hl=>by
     subst hR'
     exact lZ c HS.out.1 _ y.f2 (aq _) (EOKa).kind.1 W' _ L T' A5 c5 h HX.out.2.2.1 HS.out.2.1 (EOKa) hl G3.out.1.2 G3.out.1.1)
    have Ua:=aa (lU HS.out.1 HX.out.2.2.1 HS.out.2.1 _ y.f2 (aq _) (EOKa));have Na:=aa (gU c.wd c.ln c.ds R1 L y.f2)
    have Ex:=aa (show ∀(R':List (List Int)) T' W',R'=R1->MAt c R' L T' W'->T'.length+aM y.f3<1073741824->Calls au 115 #[.pointer (ag ⟨c.mb,0,ak⟩),.agg #[.int .i64 y.f3.f0,.int .u64 y.f3.f1,.string y.f3.f2,.slice A9 y.f3.f3.length c9]] W' fun r W''=>r=.returned (.int .u64 (evE c.wd c.ln c.ds R1 L y.f3).1)/\MAt c R1 L (T'++(evE c.wd c.ln c.ds R1 L y.f3).2) W''/\Kt [84,101] ak W' W'' from fun R' T' W' hR' h hl=>by
     subst hR'
     exact lZ c HS.out.1 _ y.f3 (aq _) (EOKx).kind.1 W' _ L T' A9 c9 h HX.out.2.2.1 HS.out.2.1 (EOKx) hl G3.out.2.1.2 G3.out.2.1.1)
    have Ux:=aa (lU HS.out.1 HX.out.2.2.1 HS.out.2.1 _ y.f3 (aq _) (EOKx));have Nx:=aa (gU c.wd c.ln c.ds R1 L y.f3);have SZ:=aa (show T1.length+(1+(aM y.f2+aM y.f3))<1073741824 by have h1:=HX.out.2.2.2.2.2.2.1;rw[fX,if_neg (by omega),if_pos hkk]at h1;omega)
    have HSK:=aa (show ∀R' T' w1,MAt c R' L T' w1->Kt [84,101,74] ak X w1->w1.cell? ⟨c.mb,5,ak⟩=ag (.map (ag c.ab))/\(iw 88 (.map (ag c.ab)) (.string y.f1) ac).run au w1=.ok (.int .i64 (d:Int)) w1/\w1.cell? ⟨W2.heap.size,1,ak⟩=ag (.string y.f1) from fun R' T' w1 h hk=>by
     obtain⟨g1,g2,g3,g4,g5⟩:=HR.out.cells hk h;have g6:=hk.blk _ _ _ _ HX.out.2.2.2.1 (by simp)
     exact⟨g1,g4,(aA g6 1).trans rfl⟩)
    have t2:X.cell? ⟨W2.heap.size,2,ak⟩=ag (.int .i64 y.f2.f0):=(aA HX.out.2.2.2.1 2).trans rfl;have t3:X.cell? ⟨W2.heap.size,3,ak⟩=ag (.int .u64 y.f2.f1):=(aA HX.out.2.2.2.1 3).trans rfl;have t4:X.cell? ⟨W2.heap.size,4,ak⟩=ag (.string y.f2.f2):=(aA HX.out.2.2.2.1 4).trans rfl;have t5:X.cell? ⟨W2.heap.size,5,ak⟩=ag (.slice A5 y.f2.f3.length c5):=(aA HX.out.2.2.2.1 5).trans rfl;obtain⟨x,hx⟩:∃v,v=(evE c.wd c.ln c.ds R1 L y.f2).1:=⟨_,rfl⟩;obtain⟨v,hv⟩:∃v,v=(evE c.wd c.ln c.ds R1 L y.f3).1:=⟨_,rfl⟩;obtain⟨ta,hta⟩:∃v,v=(evE c.wd c.ln c.ds R1 L y.f2).2:=⟨_,rfl⟩;obtain⟨tx,htx⟩:∃v,v=(evE c.wd c.ln c.ds R1 L y.f3).2:=⟨_,rfl⟩;rw[←hx]at Ea Ua;rw[←hta]at Ea Na;rw[←hv]at Ex Ux;rw[←htx]at Ex Nx;obtain⟨j2,hj2⟩:=ew (Int.emod_nonneg x (show(nr:Int)≠0 by have:=HR.out.n1;omega))
    have hj2n:j2<nr:=by have:=HR.out.n1;have:=kp x (show(0:Int)<(nr:Int) by omega);omega
    have HV:=aa (aj hx (aj hv (aj hta (aj htx (aj hj2 (aj hj2n hkk))))));clear hx hv hta htx hj2 hj2n EOKa EOKx;rw[hkk]at hX
    go_upto_region 7 with (fail)
    rw[←hX];clear hX p0 p1 p2 p3 p4 p5 p6 p7 p8 p9 p10 p11 p12 p13;go_wp2_with fail;refine(Ea.out R1 T1 X rfl HX.out.1 (by have:=SZ.out;omega)).mono ?_;rintro _ w1 ⟨rfl,hm1,hk1⟩;have hbx:=hk1.blk _ _ _ _ HX.out.2.2.2.1 (by simp);have t6:w1.cell? ⟨W2.heap.size,6,ak⟩=ag (.int .i64 y.f3.f0):=(aA hbx 6).trans rfl;have t7:w1.cell? ⟨W2.heap.size,7,ak⟩=ag (.int .u64 y.f3.f1):=(aA hbx 7).trans rfl;have t8:w1.cell? ⟨W2.heap.size,8,ak⟩=ag (.string y.f3.f2):=(aA hbx 8).trans rfl;have t9:w1.cell? ⟨W2.heap.size,9,ak⟩=ag (.slice A9 y.f3.f3.length c9):=(aA hbx 9).trans rfl;have H1:=aa (aj hm1 hk1);clear hm1 hk1 hbx t2 t3 t4 t5;go_wp2_with fail;refine(Ex.out R1 (T1++ta) w1 rfl H1.out.1 (by rw[ba];have:=SZ.out;have:=Na.out;omega)).mono ?_;rintro _ w2 ⟨rfl,hm2,hk2⟩;have H2:=aa (aj hm2 (H1.out.2.trans hk2));clear hm2 hk2 t6 t7 t8 t9;have HMD:=aa (show MAt c R1 L (T1++ta++tx) w2.drew/\Kt [84,101] ak X w2.drew/\Kt [84,101,74] ak X w2.drew from⟨H2.out.1.below (ar _ _).drew,H2.out.2.trans (Kt.of_below (ar _ _).drew _ _),(H2.out.2.trans (Kt.of_below (ar _ _).drew _ _)).more (by simp) (fun _ h=>h)⟩);obtain⟨s5,sl,sn⟩:=HSK.out _ _ _ HMD.out.1 HMD.out.2.2;obtain⟨ts,hts1,hts2,hts3⟩:=HR.out.m;have HTS:=aa (aj (HMD.out.2.1.blk _ _ _ _ hts1 (by simp)) (aj (hts2.kt HMD.out.2.1 (by simp) (by simp)) hts3));clear hts1 hts2 hts3;go_wp2_with fail
    go_region_held3 (fun w'=>w'.cell? ⟨c.mb,5,ak⟩=ag (.map (ag c.ab))/\(iw 88 (.map (ag c.ab)) (.string y.f1) ac).run au w'=.ok (.int .i64 (d:Int)) w'/\w'.cell? ⟨W2.heap.size,1,ak⟩=ag (.string y.f1))
     (first | exact HSK.out _ _ _ HMD.out.1 HMD.out.2.2 | exact HSK.out _ _ _ hm4 hk4 | exact HSK.out _ _ _ hm3 hk5 | go_keep)
     (first | (go_at_call 116;refine(sB c w2.drew HMD.out.1 HTS.out.1 HTS.out.2.1 3 x d nr j2 bb HTS.out.2.2 HR.out.lt HR.out.len.symm HR.out.n1.1 HR.out.n1.2 Ua.out.1 HV.out.2.2.2.2.1 (by have:=HR.out.rn;omega) HS.out.1.ln.1 (by have:=HS.out.1.ln.2;omega) (by simp only[ba];have:=SZ.out;have:=Na.out;have:=Nx.out;omega)).mono ?_;rintro _ w3 ⟨rfl,hm3,hk3,q1,⟨cs1,q2⟩,q3⟩;have hk3:=HMD.out.2.1.trans hk3;have hk5:Kt [84,101,74] ak X w3:=hk3.more (by simp) (fun _ h=>h);have q4:=aH q2 j2;have hm4:=q3 v;have hk4:Kt [84,101,74] ak X (w3.setCell ⟨bb,j2,ak⟩ (.int .u64 v)):=hk5.set q2 (by simp) j2 _;clear q3 q2))
    all_goals(
     have HE:=aa (show Got c L (eO c.wd c.ln c.ds (l.take (j+1)) L (R,T)) W (w3.setCell ⟨bb,j2,ak⟩ (.int .u64 v)) from by
      rw[HX.out.2.2.2.2.2.2.2,jB,if_neg (by have:=HV.out.2.2.2.2.2.2;omega),if_pos HV.out.2.2.2.2.2.2,←HR.out.no];rw[←HV.out.1,←HV.out.2.1,←HV.out.2.2.1,←HV.out.2.2.2.1,←HR.out.len,HV.out.2.2.2.2.1,ax]
      exact⟨hm4,HX.out.2.1.trans (hk4.more (fun _ h=>h) (by simp)),HX.out.2.2.1.put d j2 Ux.out⟩)
     clear hm3 hk3 hm4 hk4 hk5 q1 q4 s5 sl sn
     first
     | (refine⟨⟨j+1,_,show bh .i64 ((j:Int)+1)=bh .i64 ((j+1:Nat):Int) from by rw[kz];rfl,rfl,by omega,HE⟩,by simp[intOf];omega⟩)
     | (go_wp2_with fail
        go_roundw
        case measure=>simp[intOf];omega
        case rel=>exact⟨j+1,_,show _ =bh .i64 ((j+1:Nat):Int) from by go_num,rfl,by omega,HE⟩))
   ·have EOKx:=HX.out.2.2.2.2.1.e' (.inr (.inr hkk))
    have E:=aa (show ∀(R':List (List Int)) T' W',R'=R1->MAt c R' L T' W'->T'.length+aM y.f3<1073741824->Calls au 115 #[.pointer (ag ⟨c.mb,0,ak⟩),.agg #[.int .i64 y.f3.f0,.int .u64 y.f3.f1,.string y.f3.f2,.slice A9 y.f3.f3.length c9]] W' fun r W''=>r=.returned (.int .u64 (evE c.wd c.ln c.ds R1 L y.f3).1)/\MAt c R1 L (T'++(evE c.wd c.ln c.ds R1 L y.f3).2) W''/\Kt [84,101] ak W' W'' from fun R' T' W' hR' h hl=>by
     subst hR'
     exact lZ c HS.out.1 _ y.f3 (aq _) (EOKx).kind.1 W' _ L T' A9 c9 h HX.out.2.2.1 HS.out.2.1 (EOKx) hl G3.out.2.1.2 G3.out.2.1.1)
    have U:=aa (lU HS.out.1 HX.out.2.2.1 HS.out.2.1 _ y.f3 (aq _) (EOKx));have N:=aa (gU c.wd c.ln c.ds R1 L y.f3);have SZ:=aa (show T1.length+(1+(aM y.f3+bS y.f6+bS y.f7))<1073741824 by have h1:=HX.out.2.2.2.2.2.2.1;rw[fX,if_neg (by omega),if_neg (by omega),if_pos hkk]at h1;omega);have t6:X.cell? ⟨W2.heap.size,6,ak⟩=ag (.int .i64 y.f3.f0):=(aA HX.out.2.2.2.1 6).trans rfl;have t7:X.cell? ⟨W2.heap.size,7,ak⟩=ag (.int .u64 y.f3.f1):=(aA HX.out.2.2.2.1 7).trans rfl;have t8:X.cell? ⟨W2.heap.size,8,ak⟩=ag (.string y.f3.f2):=(aA HX.out.2.2.2.1 8).trans rfl;have t9:X.cell? ⟨W2.heap.size,9,ak⟩=ag (.slice A9 y.f3.f3.length c9):=(aA HX.out.2.2.2.1 9).trans rfl;obtain⟨v,hv⟩:∃v,v=(evE c.wd c.ln c.ds R1 L y.f3).1:=⟨_,rfl⟩;obtain⟨tr,htr⟩:∃v,v=(evE c.wd c.ln c.ds R1 L y.f3).2:=⟨_,rfl⟩;rw[←hv]at E U;rw[←htr]at E N;have HV:=aa (aj hv htr);have HK3:=aa hkk;clear hv htr EOKx;rw[hkk]at hX
    go_upto_region 13 with (fail)
    rw[←hX];clear hX p0 p1 p2 p3 p4 p5 p6 p7 p8 p9 p10 p11 p12 p13;go_wp2_with fail;refine(E.out R1 T1 X rfl HX.out.1 (by have:=SZ.out;omega)).mono ?_;rintro _ w1 ⟨rfl,hm1,hk1⟩;have hmt:=l7 c.eb;obtain⟨vr,hmb,_⟩:=hm1.hm;have hbx:=hk1.blk _ _ _ _ HX.out.2.2.2.1 (by simp);have m8:w1.cell? ⟨c.mb,8,ak⟩=ag (.iface 80 (.pointer (ag ⟨c.eb,0,ak⟩))):=(aA hmb 8).trans rfl;have H1:=aa (aj hm1 (aj hk1 hbx));clear hm1 hk1 hbx hmb t6 t7 t8 t9
    by_cases hv0:v=0
    ·have hv1:(v==0)=af:=beq_iff_eq.2 hv0;have HV0:=aa hv0;clear hv0;go_wp2_with fail;refine(lH c w1 1 0 0 H1.out.1.he H1.out.1.low H1.out.1.base.2.1 (by rw[ba];have:=SZ.out;have:=N.out;omega)).mono ?_;rintro _ w2 ⟨rfl,he2,hk2,hb2⟩;have hm2:=H1.out.1.seen hk2 (by simp) (by simp) (by simp) hb2 he2;have hbx:=hk2.blk _ _ _ _ H1.out.2.2 (by simp);have t13:w2.cell? ⟨W2.heap.size,13,ak⟩=ag (.slice A13 y.f7.length c13):=(aA hbx 13).trans rfl;have H2:=aa (aj hm2 (H1.out.2.1.trans hk2));clear he2 hk2 hb2 hm2 hbx m8 hmt;go_wp2_with fail;refine((IH.out y MEM.out).2 w2 R1 L (T1++tr++[⟨1,0,0⟩]) A13 c13 H2.out.1 HX.out.2.2.1 HS.out.2.1 (fun z hz=>HX.out.2.2.2.2.1.inner (.inr hz) (by have:=HK3.out;omega)) (by simp only[ba,bq];have:=SZ.out;have:=N.out;omega) G3.out.2.2.2.2 G3.out.2.2.2.1).mono ?_;rintro _ w3 ⟨rfl,h3⟩
     have HE:=aa (show Got c L (eO c.wd c.ln c.ds (l.take (j+1)) L (R,T)) W w3 from by
      rw[HX.out.2.2.2.2.2.2.2,jB,if_neg (by have:=HK3.out;omega),if_neg (by have:=HK3.out;omega),if_pos HK3.out];rw[←HV.out.1,←HV.out.2,if_neg (fun h=>h HV0.out)]
      exact⟨h3.1,HX.out.2.1.trans ((H2.out.2.more (by simp) (by simp)).trans h3.2.1),h3.2.2⟩)
     clear h3 t13;go_wp2_with fail;go_roundw
     case measure=>simp[intOf];omega
     case rel=>exact⟨j+1,_,show _ =bh .i64 ((j+1:Nat):Int) from by go_num,rfl,by omega,HE⟩
    ·have hv1:(v==0)=ac:=beq_eq_false_iff_ne.2 hv0;have HV0:=aa hv0;clear hv0;go_wp2_with fail;refine(lH c w1 1 1 0 H1.out.1.he H1.out.1.low H1.out.1.base.2.1 (by rw[ba];have:=SZ.out;have:=N.out;omega)).mono ?_;rintro _ w2 ⟨rfl,he2,hk2,hb2⟩;have hm2:=H1.out.1.seen hk2 (by simp) (by simp) (by simp) hb2 he2;have hbx:=hk2.blk _ _ _ _ H1.out.2.2 (by simp);have t12:w2.cell? ⟨W2.heap.size,12,ak⟩=ag (.slice A12 y.f6.length c12):=(aA hbx 12).trans rfl;have H2:=aa (aj hm2 (H1.out.2.1.trans hk2));clear he2 hk2 hb2 hm2 hbx m8 hmt;go_wp2_with fail;refine((IH.out y MEM.out).1 w2 R1 L (T1++tr++[⟨1,1,0⟩]) A12 c12 H2.out.1 HX.out.2.2.1 HS.out.2.1 (fun z hz=>HX.out.2.2.2.2.1.inner (.inl hz) (by have:=HK3.out;omega)) (by simp only[ba,bq];have:=SZ.out;have:=N.out;omega) G3.out.2.2.1.2 G3.out.2.2.1.1).mono ?_;rintro _ w3 ⟨rfl,h3⟩
     have HE:=aa (show Got c L (eO c.wd c.ln c.ds (l.take (j+1)) L (R,T)) W w3 from by
      rw[HX.out.2.2.2.2.2.2.2,jB,if_neg (by have:=HK3.out;omega),if_neg (by have:=HK3.out;omega),if_pos HK3.out];rw[←HV.out.1,←HV.out.2,if_pos HV0.out]
      exact⟨h3.1,HX.out.2.1.trans ((H2.out.2.more (by simp) (by simp)).trans h3.2.1),h3.2.2⟩)
     clear h3 t12;go_wp2_with fail;go_roundw
     case measure=>simp[intOf];omega
     case rel=>exact⟨j+1,_,show _ =bh .i64 ((j+1:Nat):Int) from by go_num,rfl,by omega,HE⟩
   ·have HNW:=aa (aj (HX.out.2.2.2.2.1.new hkk) (aj HX.out.2.2.2.2.2.1.2.2.1 (aj HX.out.2.2.2.2.2.1.2.2.2.1 (aj HX.out.2.2.2.2.2.1.2.2.2.2 (HX.out.2.2.2.2.1.bounds hkk)))));obtain⟨N,hNN⟩:∃N:Nat,N=(y.f5 - y.f4).toNat:=⟨_,rfl⟩
    have hNi:y.f5 - y.f4=(N:Int):=by have:=HNW.out.2.2.2.2;omega
    have hNw:IntKind.u64.wrap (y.f5 - y.f4)=(N:Int):=by rw[kC (by omega) (by have:=HNW.out.2.2.2.1.2.2;have:=HNW.out.2.2.2.1.1.1;omega),hNi]
    have SZ:=aa (show T1.length+(1+N*(1+bS y.f6))<1073741824 by have h1:=HX.out.2.2.2.2.2.2.1;rw[fX,if_neg (by omega),if_neg (by omega),if_neg (by omega),if_pos hkk,←hNN]at h1;exact h1);have HN:=aa (aj hNN (aj hNi hkk));obtain⟨vr,hmb,_⟩:=HX.out.1.hm;have HMB:=aa hmb
    have HSK:=aa (show ∀w1,Kt [84,101,74] (ag c.lb) X w1->w1.cell? ⟨c.mb,7,ak⟩=ag (.map (ag c.lb))/\w1.cell? ⟨W2.heap.size,1,ak⟩=ag (.string y.f1)/\w1.cell? ⟨W2.heap.size,10,ak⟩=ag (.int .u64 y.f4) from fun w1 hk=>by
     have g6:=hk.blk _ _ _ _ HX.out.2.2.2.1 (by simp)
     exact⟨(hk.cell HMB.out (by simp) 7).trans rfl,(aA g6 1).trans rfl,(aA g6 10).trans rfl⟩)
    have t10:X.cell? ⟨W2.heap.size,10,ak⟩=ag (.int .u64 y.f4):=(aA HX.out.2.2.2.1 10).trans rfl;have t11:X.cell? ⟨W2.heap.size,11,ak⟩=ag (.int .u64 y.f5):=(aA HX.out.2.2.2.1 11).trans rfl;have HQ0:=aa (show ∃L',(L'=L\/∃u,L'=L++[(y.f1,u)])/\MAt c ((bu 0).foldl (fun s (i:Nat)=>eO c.wd c.ln c.ds y.f6 (L++[(y.f1,y.f4+(i:Int))]) s) (R1,T1)).1 L' ((bu 0).foldl (fun s (i:Nat)=>eO c.wd c.ln c.ds y.f6 (L++[(y.f1,y.f4+(i:Int))]) s) (R1,T1)).2 X/\Kt [84,101,74] (ag c.lb) X X/\ROK c.ds ((bu 0).foldl (fun s (i:Nat)=>eO c.wd c.ln c.ds y.f6 (L++[(y.f1,y.f4+(i:Int))]) s) (R1,T1)).1 from⟨L,.inl rfl,HX.out.1,Kt.refl _ _ _,HX.out.2.2.1⟩);rw[hkk]at hX;clear hNN hNi hmb
    go_upto_region 19 with (fail)
    rw[←hX];clear hX p0 p1 p2 p3 p4 p5 p6 p7 p8 p9 p10 p11 p12 p13;go_wp2_with fail;clear t10 t11 hNw
    go_loopw [118] (fun i W'=>∃(q:Nat) (W3:World),i=.int .u64 q/\W3=W'/\q<=N/\Aside0 (∃L',(L'=L\/∃u,L'=L++[(y.f1,u)])/\MAt c ((bu q).foldl (fun s (i:Nat)=>eO c.wd c.ln c.ds y.f6 (L++[(y.f1,y.f4+(i:Int))]) s) (R1,T1)).1 L' ((bu q).foldl (fun s (i:Nat)=>eO c.wd c.ln c.ds y.f6 (L++[(y.f1,y.f4+(i:Int))]) s) (R1,T1)).2 W3/\Kt [84,101,74] (ag c.lb) X W3/\ROK c.ds ((bu q).foldl (fun s (i:Nat)=>eO c.wd c.ln c.ds y.f6 (L++[(y.f1,y.f4+(i:Int))]) s) (R1,T1)).1)) (fun i _=>N - (intOf i).toNat)
    case atStart=>exact⟨0,_,rfl,rfl,bk _,HQ0⟩
    case round=>
     obtain⟨q,W3,rfl,rfl,hq,HQ⟩:=hrel;have hnm:=HNW.out.2.1;obtain⟨s2,hs2⟩:∃s,s=(bu q).foldl (fun s (i:Nat)=>eO c.wd c.ln c.ds y.f6 (L++[(y.f1,y.f4+(i:Int))]) s) (R1,T1):=⟨_,rfl⟩;have hsn:s2.2.length<=T1.length+q*bS y.f6:=hs2 ▸ qV (f:=fun s (i:Nat)=>eO c.wd c.ln c.ds y.f6 (L++[(y.f1,y.f4+(i:Int))]) s) (fun s i=>gZ _ _ _ _ _ _) q (R1,T1)
     by_cases hqN:q<N
     ·have hqi:(q:Int)<(N:Int):=by omega
      have HS2:=aa (show(bu (q+1)).foldl (fun s (i:Nat)=>eO c.wd c.ln c.ds y.f6 (L++[(y.f1,y.f4+(i:Int))]) s) (R1,T1)=eO c.wd c.ln c.ds y.f6 (L++[(y.f1,y.f4+(q:Int))]) s2 from by rw[jz,List.foldl_append,List.foldl_cons,List.foldl_nil,←hs2]);rw[←hs2]at HQ;obtain⟨v,hv⟩:∃v,v=y.f4+(q:Int):=⟨_,rfl⟩
      have hvu:U64 v:=by have:=HN.out.2.1;have:=HNW.out.2.2.2.1.2.2;have:=HNW.out.2.2.2.1.1.1;constructor <;> omega
      have hvw:IntKind.u64.wrap (y.f4+(q:Int))=v:=by rw[kC (by omega) (by omega),hv]
      obtain⟨L',hX',hm,hk,hR'⟩:=HQ.out;obtain⟨w5,hr5,hm5,hk5⟩:=(hm.below (ar W3.heap.size W3).drew).setLoop hX' HNW.out.1 hnm HNW.out.2.2.1 hvu;have hk6:Kt [84,101,74] (ag c.lb) X w5:=(hk.trans (Kt.of_below (ar W3.heap.size W3).drew _ _)).trans (hk5.more (by simp) (fun _ h=>h));have HKD:=aa (hk.trans (Kt.of_below (ar W3.heap.size W3).drew [84,101,74] (ag c.lb)));have hb6:=hk6.blk _ _ _ _ HX.out.2.2.2.1 (by simp);have t12:w5.cell? ⟨W2.heap.size,12,ak⟩=ag (.slice A12 y.f6.length c12):=(aA hb6 12).trans rfl
      have SZ2:=aa (show s2.2.length+bS y.f6<1073741824 from by
       have h1:=SZ.out;have h2:(q+1)*bS y.f6<=N*(1+bS y.f6):=Nat.mul_le_mul hqN (by omega);rw[Nat.succ_mul]at h2
       omega)
      have H5:=aa (aj hm5 (aj hk6 (aj hR' (aj hv hvu))));obtain⟨s7,s1,s10⟩:=HSK.out _ HKD.out;clear hm hk hX' hm5 hk5 hR' hb6 hsn hs2 hnm hv hvu
      have hcast:IntKind.u64.wrap ((q:Int)+1)=((q+1:Nat):Int):=by have:=HNW.out.2.2.2.1.2.2;have:=HNW.out.2.2.2.1.1.1;have:=HN.out.2.1;rw[kC (by omega) (by omega)];rfl
      have HCA:=aa hcast;clear hcast;go_wp2_with fail
      go_region_held3 (fun w'=>w'.cell? ⟨c.mb,7,ak⟩=ag (.map (ag c.lb))/\w'.cell? ⟨W2.heap.size,1,ak⟩=ag (.string y.f1)/\w'.cell? ⟨W2.heap.size,10,ak⟩=ag (.int .u64 y.f4))
       (first | exact HSK.out _ HKD.out | exact HSK.out _ hk6 | go_keep)
       (fail)
      go_wp2_with fail
      refine((IH.out y MEM.out).1 w5 s2.1 (L++[(y.f1,v)]) s2.2 A12 c12 H5.out.1 H5.out.2.2.1 (fun p hp=>by
       rcases fk.1 hp with hp | hp
       ·exact HS.out.2.1 p hp
       ·rw[List.mem_singleton.1 hp];exact H5.out.2.2.2.2) (fun z hz=>HX.out.2.2.2.2.1.loop HN.out.2.2 v hz) SZ2.out G3.out.2.2.1.2 G3.out.2.2.1.1).mono ?_
      rintro _ w6 ⟨rfl,h6⟩
      have HE:=aa (show ∃L',(L'=L\/∃u,L'=L++[(y.f1,u)])/\MAt c ((bu (q+1)).foldl (fun s (i:Nat)=>eO c.wd c.ln c.ds y.f6 (L++[(y.f1,y.f4+(i:Int))]) s) (R1,T1)).1 L' ((bu (q+1)).foldl (fun s (i:Nat)=>eO c.wd c.ln c.ds y.f6 (L++[(y.f1,y.f4+(i:Int))]) s) (R1,T1)).2 w6/\Kt [84,101,74] (ag c.lb) X w6/\ROK c.ds ((bu (q+1)).foldl (fun s (i:Nat)=>eO c.wd c.ln c.ds y.f6 (L++[(y.f1,y.f4+(i:Int))]) s) (R1,T1)).1 from by
       rw[HS2.out,←H5.out.2.2.2.1]
       exact⟨_,.inr ⟨v,rfl⟩,h6.1,H5.out.2.1.trans h6.2.1,h6.2.2⟩)
      clear h6 t12 s7 s1 s10 hr5 hvw;go_wp2_with fail;exact⟨⟨q+1,_,by rw[HCA.out],rfl,by omega,HE⟩,by rw[HCA.out];simp[intOf];omega⟩
     ·have hqi:¬(q:Int)<(N:Int):=by omega
      have hqN':q=N:=by omega
      have HQ1:=HQ.out;rw[hqN']at HQ1;obtain⟨L',hX',hm,hk,hR'⟩:=HQ1;obtain⟨w5,hr5,hm5,hk5⟩:=(hm.below (ar W3.heap.size W3).drew).endLoop hX' HNW.out.1 hnm 0;have HKD:=aa (hk.trans (Kt.of_below (ar W3.heap.size W3).drew [84,101,74] (ag c.lb)));have hk6:Kt [84,101,74] (ag c.lb) X w5:=HKD.out.trans (hk5.more (by simp) (fun _ h=>h))
      have HE:=aa (show Got c L (eO c.wd c.ln c.ds (l.take (j+1)) L (R,T)) W w5 from by
       rw[HX.out.2.2.2.2.2.2.2,jB,if_neg (by have:=HN.out.2.2;omega),if_neg (by have:=HN.out.2.2;omega),if_neg (by have:=HN.out.2.2;omega),if_pos HN.out.2.2,←HN.out.1]
       exact⟨hm5,HX.out.2.1.trans hk6,hR'⟩)
      obtain⟨s7,s1,s10⟩:=HSK.out _ HKD.out;clear hm hk hX' hm5 hk5 hR' hsn hs2 hnm hqN';go_wp2_with fail
      go_region_held3 (fun w'=>w'.cell? ⟨c.mb,7,ak⟩=ag (.map (ag c.lb))/\w'.cell? ⟨W2.heap.size,1,ak⟩=ag (.string y.f1)/\w'.cell? ⟨W2.heap.size,10,ak⟩=ag (.int .u64 y.f4))
       (first | exact HSK.out _ HKD.out | exact HSK.out _ hk6 | go_keep)
       (fail)
      clear s7 s1 s10 hr5 hk6;go_wp2_with fail
      first
      | (refine⟨⟨j+1,_,show bh .i64 ((j:Int)+1)=bh .i64 ((j+1:Nat):Int) from by rw[kz];rfl,rfl,by omega,HE⟩,by simp[intOf];omega⟩)
      | (go_roundw
         case measure=>simp[intOf];omega
         case rel=>exact⟨j+1,_,show _ =bh .i64 ((j+1:Nat):Int) from by go_num,rfl,by omega,HE⟩)
   ·obtain⟨d,bb,nr,A0,RN,cp,c0,HR⟩:=row_at HS.out.1 HX.out.2.2.1 HX.out.1 HX.out.2.2.2.2.2.1.2.2.1 (HX.out.2.2.2.2.1.use (.inr (.inr hkk)));have HR:=aa HR
    have HSK:=aa (show ∀T' w1,MAt c R1 L T' w1->Kt [84,101] ak X w1->w1.cell? ⟨c.mb,5,ak⟩=ag (.map (ag c.ab))/\w1.cell? ⟨c.mb,6,ak⟩=ag (.slice (ag A0) RN cp)/\w1.cell? ⟨c.mb,8,ak⟩=ag (.iface 80 (.pointer (ag ⟨c.eb,0,ak⟩)))/\(iw 88 (.map (ag c.ab)) (.string y.f1) ac).run au w1=.ok (.int .i64 (d:Int)) w1/\w1.cell? (A0.add d)=ag (.slice (ag ⟨bb,0,ak⟩) nr c0)/\w1.cell? ⟨W2.heap.size,1,ak⟩=ag (.string y.f1)/\w1.cell? ⟨bb,0,ak⟩=ag (.int .u64 (dM R1 d 0)) from fun T' w1 h hk=>by
     obtain⟨g1,g2,g3,g4,g5⟩:=HR.out.cells (hk.more (by simp) (fun _ h=>h)) h
     exact⟨g1,g2,g3,g4,g5,(hk.cell HX.out.2.2.2.1 (by simp) 1).trans rfl,(HR.out.word hk h (by have:=HR.out.n1;omega)).1⟩)
    have HMD:=aa (show MAt c R1 L T1 X.drew/\Kt [84,101] ak X X.drew from⟨HX.out.1.below (ar _ _).drew,Kt.of_below (ar _ _).drew _ _⟩);obtain⟨s5,s6,s8,sl,sa,sn,sw⟩:=HSK.out _ _ HMD.out.1 HMD.out.2;have hmt:=l7 c.eb
    have d0:(0:Int)<=(d:Int):=by omega
    have d1:(d:Int)<(RN:Int):=by have:=HR.out.lt;have:=HR.out.rn;omega
    have n1:(0:Int)<(nr:Int):=by have:=HR.out.n1;omega
    have n2:0<nr:=by have:=HR.out.n1;omega
    rw[hkk]at hX
    go_upto_region 11 with (fail)
    rw[←hX];clear hX p0 p1 p2 p3 p4 p5 p6 p7 p8 p9 p10 p11 p12 p13
    go_region_held3 (fun w'=>w'.cell? ⟨c.mb,5,ak⟩=ag (.map (ag c.ab))/\w'.cell? ⟨c.mb,6,ak⟩=ag (.slice (ag A0) RN cp)/\w'.cell? ⟨c.mb,8,ak⟩=ag (.iface 80 (.pointer (ag ⟨c.eb,0,ak⟩)))/\(iw 88 (.map (ag c.ab)) (.string y.f1) ac).run au w'=.ok (.int .i64 (d:Int)) w'/\w'.cell? (A0.add d)=ag (.slice (ag ⟨bb,0,ak⟩) nr c0)/\w'.cell? ⟨W2.heap.size,1,ak⟩=ag (.string y.f1)/\w'.cell? ⟨bb,0,ak⟩=ag (.int .u64 (dM R1 d 0)))
     (first | exact HSK.out _ _ HMD.out.1 HMD.out.2 | exact HSK.out _ _ hm1 hk1 | go_keep)
     (first | (go_at_call 310;refine(lH c X.drew 5 (dM R1 d 0) 0 HMD.out.1.he HMD.out.1.low HMD.out.1.base.2.1 (by have:=HX.out.2.2.2.2.2.2.1;omega)).mono ?_;rintro _ w1 ⟨rfl,he1,hk1,hb1⟩;have hm1:=HMD.out.1.seen hk1 (by simp) (by simp) (by simp) hb1 he1;have hk1:=hk1.undrew))
    have HE:=aa (show Got c L (eO c.wd c.ln c.ds (l.take (j+1)) L (R,T)) W w1 from by
     rw[HX.out.2.2.2.2.2.2.2,jB,if_neg (by omega),if_neg (by omega),if_neg (by omega),if_neg (by omega),←HR.out.no]
     exact⟨hm1,HX.out.2.1.trans (hk1.more (by simp) (by simp)),HX.out.2.2.1⟩)
    clear hm1 hk1 he1 hb1 s5 s6 s8 sl sa sn sw hmt d0 d1 n1 n2;go_wp2_with fail;go_roundw
    case measure=>simp[intOf];omega
    case rel=>exact⟨j+1,_,show _ =bh .i64 ((j+1:Nat):Int) from by go_num,rfl,by omega,HE⟩
  ·have hjn:j=l.length:=by have:=HS.out.2.2.2.2.2;omega
   have hK:=HK.out;rw[hjn,eu]at hK;have HE:=aa hK;clear hK;go_wp2_with fail
   first | go_end0 | skip
   exact⟨rfl,HE.out⟩
theorem body_calls (c:Cfg)(hs:SOK c.wd c.ln c.ds):∀(n:Nat) (l:List S119),cz l<=n->BodyM c l:=by
 intro n
 induction n with
 |zero=>
  intro l h
  cases l with
  |nil=>exact body_walk c hs [] (fun x hx=>by cases hx)
  |cons x r=>simp at h
 |succ n ih=>
  intro l h;refine body_walk c hs l fun x hx=> ?_;have h1:=gq hx;obtain⟨a,s,e,f,lo,hi,th,el⟩:=x;simp only[S119.mk.sizeOf_spec]at h1;exact⟨ih th (by omega),ih el (by omega)⟩
section
set_option maxRecDepth 100000
variable {c:Cfg}{vr vl:Value}{ts:List (Nat × Nat × Nat)}{R:List (List Int)}{L:List (ByteArray × Int)}{T:List S101}{x:S119}{A5 A9 A12 A13:Option Addr}{c5 c9 c12 c13:Nat}{W W':World}
theorem rexpr_calls (hs:SOK c.wd c.ln c.ds):∀(n:Nat) (e:S116),cz e<=n->1<=e.f0->ExprR c vr ts e:=by
 intro n
 induction n with
 |zero=>intro e h;obtain⟨a,b,s,l⟩:=e;simp at h
 |succ n ih=>
  intro e h h1;refine rexpr hs e h1 fun y hy=> ?_;intro W vl R L T A cap hM hR hL hD hL64 hE hT hC hcap;exact ih y (eV rfl hy h) hE.kind.1 W vl R L T A cap hM hR hL hD hL64 hE hT hC hcap
def RGot (c:Cfg)(vr:Value)(ts:List (Nat × Nat × Nat))(L:List (ByteArray × Int))(s:Sta)(W W':World):Prop:=(∃vl',RAt c vr ts vl' s.1 L s.2 W')/\Kt [98,101,74,227] ak W W'/\ROK c.ds s.1
structure StIn (c:Cfg)(vr:Value)(ts:List (Nat × Nat × Nat))(vl:Value)(R:List (List Int))(L:List (ByteArray × Int))(T:List S101)(x:S119)(A5 A9 A12 A13:Option Addr)(c5 c9 c12 c13:Nat)(W:World):Prop where
 m:RAt c vr ts vl R L T W
 rok:ROK c.ds R
 lok:LOK L
 ld:LD L
 tok:TOK c.ds L x
 len:T.length+sizeT x<1073741824
 a5:x.f2.f3.length<=c5/\dC.C c.w0 A5 x.f2.f3.length x.f2.f3
 a9:x.f3.f3.length<=c9/\dC.C c.w0 A9 x.f3.f3.length x.f3.f3
 a12:x.f6.length<=c12/\dN.C c.w0 A12 x.f6.length x.f6
 a13:x.f7.length<=c13/\dN.C c.w0 A13 x.f7.length x.f7
def lC (c:Cfg)(vr:Value)(ts:List (Nat × Nat × Nat))(R:List (List Int))(L:List (ByteArray × Int))(T:List S101)(x:S119)(A5 A9 A12 A13:Option Addr)(c5 c9 c12 c13:Nat)(W:World):Prop:=
 Calls au 117 #[.pointer (ag ⟨c.mb,0,ak⟩),.agg #[.int .i64 x.f0,.string x.f1,.int .i64 x.f2.f0,.int .u64 x.f2.f1,.string x.f2.f2,.slice A5 x.f2.f3.length c5,.int .i64 x.f3.f0,.int .u64 x.f3.f1,.string x.f3.f2,.slice A9 x.f3.f3.length c9,.int .u64 x.f4,.int .u64 x.f5,.slice A12 x.f6.length c12,.slice A13 x.f7.length c13]] W fun r W'=>r=.returned (.tuple #[])/\RGot c vr ts L (exS c.wd c.ln c.ds x L (R,T)) W W'
theorem StIn.word (hs:SOK c.wd c.ln c.ds)(H:StIn c vr ts vl R L T x A5 A9 A12 A13 c5 c9 c12 c13 W){e:S116}{A:Option Addr}{cap:Nat}(hE:EOK c.ds (L.map (·.1)) e)(ha:e.f3.length<=cap/\dC.C c.w0 A e.f3.length e.f3){T':List S101}(hl:T'.length+aM e<1073741824){v:Int}{te:List S101}(hv:v=(evE c.wd c.ln c.ds R L e).1)(ht:te=(evE c.wd c.ln c.ds R L e).2){W':World}(hM:RAt c vr ts vl R L T' W'):
 Calls au 162 #[.pointer (ag ⟨c.mb,0,ak⟩),.agg #[.int .i64 e.f0,.int .u64 e.f1,.string e.f2,.slice A e.f3.length cap]] W' fun r W''=>r=.returned (.int .u64 v)/\RAt c vr ts vl R L (T'++te) W''/\Kt [98,101] ak W' W'':=by
 rw[hv,ht];exact rexpr_calls hs _ e (aq _) hE.kind.1 W' vl R L T' A cap hM H.rok H.lok H.ld (by have:=H.tok.own.2.2.2.1;omega) hE hl ha.2 ha.1
theorem st1 (hs:SOK c.wd c.ln c.ds)(hk:x.f0=1)(H:StIn c vr ts vl R L T x A5 A9 A12 A13 c5 c9 c12 c13 W):lC c vr ts R L T x A5 A9 A12 A13 c5 c9 c12 c13 W:=by
 unfold lC;rw[hk];have HH:=aa (aj hs (aj hk H));obtain⟨X,hX⟩:∃X,X=W.alloc (.cells #[.int .i64 1,.string x.f1,.int .i64 x.f2.f0,.int .u64 x.f2.f1,.string x.f2.f2,.slice A5 x.f2.f3.length c5,.int .i64 x.f3.f0,.int .u64 x.f3.f1,.string x.f3.f2,.slice A9 x.f3.f3.length c9,.int .u64 x.f4,.int .u64 x.f5,.slice A12 x.f6.length c12,.slice A13 x.f7.length c13] 119):=⟨_,rfl⟩
 have hXB:Below W.heap.size W X:=by rw[hX];exact(ar _ _).alloc (aq _) _
 have hbx:X.heap[W.heap.size]? =ag (.cells #[.int .i64 1,.string x.f1,.int .i64 x.f2.f0,.int .u64 x.f2.f1,.string x.f2.f2,.slice A5 x.f2.f3.length c5,.int .i64 x.f3.f0,.int .u64 x.f3.f1,.string x.f3.f2,.slice A9 x.f3.f3.length c9,.int .u64 x.f4,.int .u64 x.f5,.slice A12 x.f6.length c12,.slice A13 x.f7.length c13] 119 (0,0)):=by rw[hX];exact aW _ _
 have HX:=aa (aj (H.m.below hXB) (aj (Kt.of_below hXB [98,101,74,227] ak) hbx));obtain⟨d,bb,nr,A0,RN,cp,c0,hrow⟩:=rF hs H.rok HX.out.1 (H.tok.use (.inl hk));have HF:=aa (H.tok.use (.inl hk));have HR:=aa hrow
 have d0:(0:Int)<=(d:Int):=by omega
 have d1:(d:Int)<(RN:Int):=by have:=HR.out.lt;have:=HR.out.rn;omega
 have n1:(0:Int)<(nr:Int):=by have:=HR.out.n1;omega
 have n2:0<nr:=by have:=HR.out.n1;omega
 obtain⟨v,hv⟩:∃v,v=(evE c.wd c.ln c.ds R L x.f3).1:=⟨_,rfl⟩;obtain⟨te,hte⟩:∃v,v=(evE c.wd c.ln c.ds R L x.f3).2:=⟨_,rfl⟩;have E:=aa (show ∀W',RAt c vr ts vl R L T W'->_ from fun W' h=>H.word hs (H.tok.e' (.inl hk)) H.a9 (by have h1:=H.len;rw[fX,if_pos hk]at h1;omega) hv hte h);have U:=aa (show U64 v from hv ▸ lU hs H.rok H.lok _ x.f3 (aq _) (H.tok.e' (.inl hk)));have HV:=aa (aj hv hte)
 have HSK:=aa (show ∀R' T' w1,RAt c vr ts vl R' L T' w1->Kt [98,101,74] ak X w1->w1.cell? ⟨c.mb,5,ak⟩=ag (.slice (ag A0) RN cp)/\w1.cell? (A0.add d)=ag (.slice (ag ⟨bb,0,ak⟩) nr c0)/\w1.cell? ⟨W.heap.size,1,ak⟩=ag (.string x.f1)/\w1.cell? ⟨W.heap.size,6,ak⟩=ag (.int .i64 x.f3.f0)/\w1.cell? ⟨W.heap.size,7,ak⟩=ag (.int .u64 x.f3.f1)/\w1.cell? ⟨W.heap.size,8,ak⟩=ag (.string x.f3.f2)/\w1.cell? ⟨W.heap.size,9,ak⟩=ag (.slice A9 x.f3.f3.length c9) from fun R' T' w1 h hk=>by
  have g6:=hk.blk _ _ _ _ HX.out.2.2 (by simp)
  exact⟨by rw[←HR.out.v];exact h.cells.2.2.2.1,HR.out.cells hk (by simp),(aA g6 1).trans rfl,(aA g6 6).trans rfl,(aA g6 7).trans rfl,(aA g6 8).trans rfl,(aA g6 9).trans rfl⟩)
 have HMD:=aa (show RAt c vr ts vl R L T X.drew/\Kt [98,101,74] ak X X.drew from⟨HX.out.1.below (ar _ _).drew,Kt.of_below (ar _ _).drew _ _⟩);obtain⟨s5,sa,sn,t6,t7,t8,t9⟩:=HSK.out _ _ _ HMD.out.1 HMD.out.2;clear hrow hv hte;clear hs hk H hXB hbx;go_enter Tryz.func117,Tryz.ntmps117
 go_upto_region 3 with (fail)
 rw[←hX];clear hX
 go_region_held3 (fun w'=>w'.cell? ⟨c.mb,5,ak⟩=ag (.slice (ag A0) RN cp)/\w'.cell? (A0.add d)=ag (.slice (ag ⟨bb,0,ak⟩) nr c0)/\w'.cell? ⟨W.heap.size,1,ak⟩=ag (.string x.f1)/\w'.cell? ⟨W.heap.size,6,ak⟩=ag (.int .i64 x.f3.f0)/\w'.cell? ⟨W.heap.size,7,ak⟩=ag (.int .u64 x.f3.f1)/\w'.cell? ⟨W.heap.size,8,ak⟩=ag (.string x.f3.f2)/\w'.cell? ⟨W.heap.size,9,ak⟩=ag (.slice A9 x.f3.f3.length c9))
  (first | exact HSK.out _ _ _ HMD.out.1 HMD.out.2 | exact HSK.out _ _ _ hm2 hk2 | exact HSK.out _ _ _ hm1 hk3 | exact HSK.out _ _ _ hm9 hk9 | go_keep)
  (first | (go_at_call 163;refine(iZ HMD.out.1 HR.out.no.1 HF.out).mono ?_;rintro _ w9 ⟨rfl,hb9⟩;have hm9:=HMD.out.1.below hb9;have hk9:=HMD.out.2.trans (Kt.of_below hb9 [98,101,74] ak)) | (go_at_call 162;refine(E.out _ hm9).mono ?_;rintro _ w1 ⟨rfl,hm1,hk1⟩;have hk3:Kt [98,101,74] ak X w1:=hk9.trans (hk1.more (by simp) (fun _ h=>h));obtain⟨q1,⟨cs1,q2⟩,q3⟩:=hm1.word HR.out.lt HR.out.len (j:=0) (by have:=HR.out.n1;omega);rw[←HR.out.at']at q1 q2 q3;have q4:=aH q2 0;have hm2:=q3 v;have hk2:Kt [98,101,74] ak X (w1.setCell ⟨bb,0,ak⟩ (.int .u64 v)):=hk3.set q2 (by simp) 0 _;clear q3 q2))
 all_goals(
  go_wp2_with fail;go_end0;refine⟨rfl,⟨vl,?_⟩,HX.out.2.1.trans (hk2.more (by simp) (fun _ h=>h)),?_⟩
  ·rw[jB,if_pos HH.out.2.1,←HR.out.no.1,←HV.out.1,←HV.out.2];exact hm2
  ·rw[jB,if_pos HH.out.2.1,←HR.out.no.1,←HV.out.1]
   exact HH.out.2.2.rok.put d 0 U.out)
end
end Go.Proofs.YtfigjpehecibeaaGreat.L
