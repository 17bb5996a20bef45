/- Texts joined by a program of mine: WWords WLast WApart WShare WN WMore WTab WEqStruct WRepsOne WInv WGuard. -/
import Derived.Below
import Derived.Deep.Draws
import Derived.Deep.AppendLies
import Derived.Maps.AppendAt
import Derived.OwnWalk
import Derived.Laws.BytesArg
import Derived.Laws.MakeOwn
import Derived.Laws.OwnMore
import Derived.Deep.OwnRows
import Derived.Tactics
import Derived.Lib.ConvBytes
import Derived.Laws.Slices
import Derived.WalkKit
import Derived.KernelRfl
import Derived.RowKit3
import Derived.Deep.LoopGhost
import Derived.Deep.QuietTactic
import Derived.BigQuiet
import Derived.WideLaws
import Derived.Deep.DeepCutAuto
import Derived.Deep.CutBlock
import Derived.Deep.RegionHeld3
import Derived.Laws.Rows
import Derived.Lib.AppendStr
import Derived.ArgAppend
import Derived.Laws.IdiomCopy
import Derived.RowKit
import Derived.OrdersHeld
import Derived.Laws.BitsLemmas
import Derived.Laws.StructEq
set_option maxRecDepth 100000
open Array renaming getElem?_eq_some_iff -> ck
open Bool renaming true -> af, false -> ac, and_eq_true -> cb
open ByteArray renaming empty -> gi
open Go.Oper renaming wp -> jm
open Go.Region renaming wanted -> dq, Mode -> kx, ready -> je
open Go.RowKit.Below renaming refl -> ar, heap_setCell -> dn, heap_alloc -> ic
open Go.Value renaming ownBlock -> ee, int -> bh, bool -> iu
open Go.World renaming block_lt_of_cell? -> av, setCell -> ji
open Int renaming eq_ofNat_of_zero_le -> ew, toNat_natCast -> ax, natCast_mul -> iy
open List renaming length_append -> ba, length_singleton -> bq, getElem?_append_left -> jq, length_drop -> fj, getElem?_eq_some_iff -> fe, take_length -> eu, getElem?_eq_getElem -> az, getD_eq_getElem?_getD -> aw, length_take -> dm, getElem?_take -> ke, map_toArray -> cd, map_cons -> cg, map_nil -> db, eq_nil_of_length_eq_zero -> cw, getElem?_eq_none -> dg, mem_cons_self -> ig, mem_append -> fk, drop_eq_getElem_cons -> jd, mem_cons -> iv, replicate -> bg, length_cons -> jn, drop_eq_nil_of_le -> jw, take_zero -> jx, append_nil -> ed, range -> bu, all_eq_true -> fw, mem_range -> jg
open Nat renaming lt_of_lt_of_le -> br, lt_or_ge -> gu, mul_le_mul_right -> fq, eq_zero_or_pos -> cq, ne_of_gt -> fo, add_assoc -> ja, le_trans -> bi, le_mul_of_pos_right -> fu, le_refl -> aq, min_eq_left -> di, mul_one -> ib, not_lt_zero -> da, mod_eq_of_lt -> fp, mod_lt -> ij
open Option renaming some -> ag, none -> ak, map_eq_some_iff -> iq
open Option.some renaming inj -> cf
set_option linter.unusedVariables false
set_option linter.unusedSimpArgs false
set_option maxHeartbeats 8000000
section
namespace Go.Proofs.YtfigjpehecibeaaGreatW.PrintWords
open Go.RowKit
structure Aside0 (p:Prop):Prop where mk::(out:p)
structure Drawn0 (w w':World):Prop where mk::(out:∃n,w'=w.drewN n)
theorem Drawn0.refl (w:World):Drawn0 w w:=⟨⟨0,rfl⟩⟩
theorem Drawn0.step {w w':World}(h:Drawn0 w w')(n:Nat):Drawn0 w (w'.drewN n):=by
 obtain⟨m,rfl⟩:=h;exact⟨⟨m+n,World.drewN_drewN ..⟩⟩
theorem Drawn0.below {w w':World}(h:Drawn0 w w'):Below w.heap.size w w':=by
 obtain⟨n,rfl⟩:=h
 induction n with
 |zero=>exact ar _ _
 |succ n ih=>rw[←World.drew_drewN];exact ih.drew
def rd (xs:List Int)(i:Int):Int:=xs.getD i.toNat 0
def bt (s:ByteArray)(i:Int):Int:=if h:i.toNat<s.size then((s[i.toNat]'h).toNat:Int)else 0
theorem bt_at (s:ByteArray)(i:Int):∀h:i.toNat<s.size,((s[i.toNat]'h).toNat:Int)=bt s i:=fun h=>by simp[bt,h]
def nums (k:IntKind)(xs:List Int):List Value:=xs.map fun x=>.int k x
theorem aT {w W:World}(h:Below w.heap.size w W)(o:Obj):Below w.heap.size w (W.alloc o):=h.alloc h.size o
theorem below_drew {B:Nat}{w W:World}(h:Below B w W):Below B w W.drew:=⟨h.os,h.tape,h.output,h.size,h.block⟩
theorem aO {B:Nat}{w W:World}(h:Below B w W)(n:Nat):Below B w (W.drewN n):=⟨h.os,h.tape,h.output,h.size,h.block⟩
theorem below_then {B:Nat}{w w1 w2:World}(h:Below B w w1)(hB:B<=w1.heap.size)(k:Below w1.heap.size w1 w2):Below B w w2:=
 h.trans ⟨k.os,k.tape,k.output,k.size,fun i hi=>k.block i (br hi hB)⟩
theorem pw_cell_below {w w1:World}(h:Below w.heap.size w w1){a:Addr}{v:Value}(hc:w.cell? a=ag v):w1.cell? a=ag v:=(h.cell (av w a hc)).trans hc
theorem add_plain (g j:Nat):(⟨g,0,ak⟩:Addr).add j=⟨g,j,ak⟩:=by unfold Addr.add;split <;> simp_all
def ReadsInt (w:World)(k:IntKind)(A:Option Addr)(n:Nat)(xs:List Int):Prop:=
 xs.length=n/\n<=9223372036854775807/\(0<n->∃ad,A=ag ad/\∀j,j<n->w.cell? (ad.add j)=ag (.int k (xs.getD j 0)))
theorem ReadsInt.at_ {w:World}{k:IntKind}{A:Option Addr}{n:Nat}{xs:List Int}(h:ReadsInt w k A n xs)(i:Int)(h0:0<=i)(h1:i<n):∃ad,A=ag ad/\w.cell? (ad.add i.toNat)=ag (.int k (rd xs i)):=by
 obtain⟨ad,e,hc⟩:=h.2.2 (by omega);exact⟨ad,e,hc _ (by omega)⟩
theorem own_nil (W:World)(base:Nat)(e:TypeId)(size:Nat):W.ownsRow base e size (.slice ak 0 0) 0 []:=⟨by simp,.inl ⟨rfl,rfl⟩⟩
theorem kY {w:World}{base:Nat}{e:TypeId}{size n:Nat}{v:Value}{xs:List Value}(h:w.ownsRow base e size v n xs)(k:Nat)(hk:v.ownBlock=ag k):base<=k:=by
 rcases h.2 with ⟨rfl,_⟩ | ⟨g,cap,cur,rfl,hb,_⟩
 ·simp[ee]at hk
 ·have:g=k:=by simpa[ee]using hk
  omega
theorem rK {w:World}{base:Nat}{e:TypeId}{size n:Nat}{v:Value}{xs:List Value}(h:w.ownsRow base e size v n xs)(k:Nat)(hk:v.ownBlock=ag k):k<w.heap.size:=by
 rcases h.2 with ⟨rfl,_⟩ | ⟨g,cap,cur,rfl,hb,hh,_⟩
 ·simp[ee]at hk
 ·have:g=k:=by simpa[ee]using hk
  subst this;exact(ck.1 hh).1
theorem own_slice {w:World}{base n:Nat}{e:TypeId}{size:Nat}{v:Value}{xs:List Value}(h:w.ownsRow base e size v n xs):∃A c,v=.slice A n c:=by
 rcases h.2 with ⟨rfl,rfl⟩ | ⟨g,cap,cur,rfl,_⟩
 ·exact⟨ak,0,rfl⟩
 ·exact⟨_,cap,rfl⟩
theorem own_lit (W:World)(base:Nat)(e:TypeId)(k:IntKind)(xs:List Int)(hb:base<=W.heap.size)(hm:xs.length<=9223372036854775807):
 (W.alloc (.cells (nums k xs).toArray e)).ownsRow base e 1 (.slice (ag ⟨W.heap.size,0,ak⟩) xs.length xs.length) xs.length (nums k xs):=by
 have h:=World.ownsRow_lit (base:=base) (e:=e) (size:=1) W (nums k xs).toArray xs.length hb (by simpa[maxLen]using hm) (by simp[nums])
 simpa using h
def bytesOf (s:ByteArray):List Int:=s.data.toList.map fun b=>(b.toNat:Int)
def gQ {α:Type}(R:α->List Value->Prop)(size:Nat)(ps:List α)(cs:List Value):Prop:=
 cs.length=ps.length*size/\∀j p,ps[j]? =ag p->R p ((cs.drop (j*size)).take size)
theorem gQ.none {α:Type}(R:α->List Value->Prop)(size:Nat):gQ R size [] []:=⟨by simp,fun j p h=>by simp at h⟩
theorem gQ.snoc {α:Type}{R:α->List Value->Prop}{size:Nat}{ps:List α}{cs c:List Value}{p:α}(h:gQ R size ps cs)(hp:R p c)(hc:c.length=size):gQ R size (ps++[p]) (cs++c):=by
 refine⟨by rw[ba,h.1,hc,ba,bq,Nat.add_mul,Nat.one_mul],fun j q hq=> ?_⟩
 rcases gu j ps.length with hj | hj
 ·rw[jq hj]at hq
  have h1:j*size+size<=cs.length:=by rw[h.1,←Nat.succ_mul];exact fq _ hj
  have h2:=h.2 j q hq;rw[List.drop_append_of_le_length (by omega),List.take_append_of_le_length (by rw[fj];omega)];exact h2
 ·have hj':j=ps.length:=by
   have:=(fe.1 hq).1;rw[ba,bq]at this;omega
  subst hj'
  have hq':p=q:=by simpa using hq
  subst hq';rw[←h.1,List.drop_left,←hc,eu];exact hp
theorem gQ.imp_ {α:Type}{R R':α->List Value->Prop}{size:Nat}{ps:List α}{cs:List Value}(h:gQ R size ps cs)(hR:∀p c,R p c->R' p c):gQ R' size ps cs:=⟨h.1,fun j p hj=>hR _ _ (h.2 j p hj)⟩
def eQ {α:Type}(R:α->List Value->Prop)(size:Nat)(w:World)(A:Option Addr)(n:Nat)(ps:List α):Prop:=
 ps.length=n/\n<=9223372036854775807/\(0<n->∃ad,A=ag ad/\∀j p,ps[j]? =ag p->∃c,c.length=size/\R p c/\∀i u,c[i]? =ag u->w.cell? (ad.add (j*size+i))=ag u)
theorem eQ.get_ {α:Type}{R:α->List Value->Prop}{size:Nat}{w:World}{A:Option Addr}{n:Nat}{ps:List α}(h:eQ R size w A n ps)(d:α)(i:Int)(h0:0<=i)(h1:i<n):
 ∃ad c,A=ag ad/\c.length=size/\R (ps.getD i.toNat d) c/\∀j u,c[j]? =ag u->w.cell? (ad.add (i.toNat*size+j))=ag u:=by
 obtain⟨ad,e,hc⟩:=h.2.2 (by omega)
 have hl:i.toNat<ps.length:=by have:=h.1;omega
 obtain⟨c,hs,hr,hcell⟩:=hc i.toNat _ (az hl);refine⟨ad,c,e,hs,?_,hcell⟩;rw[aw,az hl];exact hr
theorem eQ.imp_ {α:Type}{R R':α->List Value->Prop}{size:Nat}{w w1:World}{A:Option Addr}{n:Nat}{ps:List α}(h:eQ R size w A n ps)(hb:Below w.heap.size w w1)(hR:∀p c,R p c->R' p c):eQ R' size w1 A n ps:=
 ⟨h.1,h.2.1,fun hn=>by
   obtain⟨ad,e,hc⟩:=h.2.2 hn;refine⟨ad,e,fun j p hj=> ?_⟩;obtain⟨c,hs,hr,hcell⟩:=hc j p hj
   exact⟨c,hs,hR _ _ hr,fun i u hu=>pw_cell_below hb (hcell i u hu)⟩⟩
theorem own_reads_row {α:Type}{R:α->List Value->Prop}{w:World}{base n size:Nat}{e:TypeId}{v:Value}{ps:List α}{cs:List Value}(h:w.ownsRow base e size v n cs)(hR:gQ R size ps cs)(hn:ps.length=n):
 ∃A c,v=.slice A n c/\eQ R size w A n ps:=by
 rcases cq n with h0 | h0
 ·rcases h.2 with ⟨rfl,rfl⟩ | ⟨g,cap,cur,rfl,_⟩
  ·exact⟨ak,0,rfl,hn,by omega,fun hp=>absurd hp (by omega)⟩
  ·exact⟨_,cap,rfl,hn,by omega,fun hp=>absurd hp (by omega)⟩
 ·obtain⟨g,cap,rfl,_,_⟩:=h.form h0
  have hm:n<=9223372036854775807:=by
   rcases h.2 with ⟨_,h1⟩ | ⟨g',cap',cur,he,_,_,h1,h2,_⟩
   ·omega
   ·simp only[maxLen]at h2;omega
  refine⟨_,cap,rfl,hn,hm,fun _=>⟨_,rfl,fun j p hj=>⟨(cs.drop (j*size)).take size,?_,hR.2 j p hj,fun i u hu=> ?_⟩⟩⟩
  ·have hjl:=(fe.1 hj).1
   have h1:j*size+size<=cs.length:=by rw[hR.1,←Nat.succ_mul];exact fq _ hjl
   rw[dm,fj];omega
  ·refine h.cells (g:=g) rfl _ u ?_;rw[ke]at hu
   split at hu
   ·rw[List.getElem?_drop]at hu;exact hu
   ·cases hu
theorem cC (ad:Addr)(m j:Nat)(hj:0<j):ad.add (m+j)=⟨(ad.add m).block,(ad.add m).off+j,ak⟩:=by
 unfold Addr.add
 by_cases hm:m=0
 ·subst hm;simp[fo hj]
 ·simp[hm,ja]
section
variable {P:Program}{ops:Array Oper}{rest:List Oper}{o:Oper}{a:Act}{Q:Exit->Act->World->Prop}
theorem oB {w0 W:World}(base:Nat)(hgd:o.guard=ak)(s x:Operand)(t e:TypeId)(z:Value)(size bytes:Nat)
 (ho:o.op=.call { callee:=.builtin .append,args:= #[s,x],argTypes:= #[t,t] })
 (ht:P.underlying t=ag (.slice e)) (hinfo:(P.info? e).map (fun i=>(i.zero,i.size,i.bytes))=ag (ag z,size,bytes)) (hz:z.cells.size=size) (hs0:0<size) (hb0:0<bytes)
 (v:Value) (n:Nat) (xs ys:List Value) (hs:a.eval s=v) (hx:a.eval x=.slice (ag ⟨W.heap.size,0,ak⟩) 1 1) (hys:ys.length=size) (h1:∀u∈ys,u.oneCell'=af)
 (HO:W.ownsRow base e size v n xs) (HB:Below base w0 W) (hbase:base<=W.heap.size) (hl:(n+1)*bytes<=140737488355328)
 (h:∀v1 w1,w1.ownsRow base e size v1 (n+1) (xs++ys)->Below base w0 w1->W.grownBy w1 v.ownBlock->(v1.ownBlock=v.ownBlock\/∃b,v1.ownBlock=ag b/\W.heap.size<=b)->wpList P ops Q rest (a.put o.dst v1) w1):
 wpList P ops Q (o::rest) a (W.alloc (.cells ys.toArray e)):=by
 obtain⟨i0,hi,hzz⟩:=iq.1 hinfo;simp only[Prod.mk.injEq]at hzz;obtain⟨hz0,hz1,hz2⟩:=hzz;have hlen:n+1<=140737488355328:=bi (fu _ hb0) hl
 refine wpList_append_own_at (W.alloc (.cells ys.toArray e)) hgd s x t ho base e i0 z size bytes ht hi hz0 hz1 hz2 hz hs0 v n xs hs (HO.alloc _) ⟨W.heap.size,0,ak⟩ 1 1 ys hx (by rw[hys];simp)
  (by simpa using World.news_of_block (cs:=ys.toArray) (t:=e) (fr:=(0,0)) (heap_alloc_new W (.cells ys.toArray e))) h1 (by simp only[maxLen];omega) hl (by simp;omega) ?_
 intro v1 w1 hown hg _ hat;refine h v1 w1 hown ((HB.alloc hbase _).grown hg (by simp;omega) (kY HO)) (World.grownBy.trans (World.grownBy_alloc W _ _) hg) ?_
 rcases hat with hat | hat
 ·exact .inl hat
 ·exact .inr ⟨_,hat,by simp⟩
end
theorem own_ne {w:World}{base:Nat}{e t:TypeId}{size n g:Nat}{v:Value}{xs:List Value}{cs:Array Value}(h:w.ownsRow base e size v n xs)(hg:w.heap[g]? =ag (.cells cs t (0,0)))(hne:e≠t):ag g≠v.ownBlock:=by
 rcases h.2 with ⟨rfl,_⟩ | ⟨g',cap,cur,rfl,_,hh,_⟩
 ·simp[ee]
 ·intro he
  have:g=g':=by simpa[ee]using he
  subst this;rw[hg]at hh;injection hh with hh;injection hh with _ ht;exact hne ht.symm
theorem bU {w:World}{g:Nat}{t:TypeId}{cs:Array Value}(h:w.heap[g]? =ag (.cells cs t (0,0)))(i:Nat)(u:Value):(w.setCell ⟨g,i,ak⟩ u).heap[g]? =ag (.cells (cs.setIfInBounds i u) t (0,0)):=by
 simp[ji,Array.getElem?_modify,h]
theorem blk_far {w:World}{g:Nat}{t:TypeId}{cs:Array Value}(h:w.heap[g]? =ag (.cells cs t (0,0))){p:Addr}(hp:g≠p.block)(u:Value):(w.setCell p u).heap[g]? =ag (.cells cs t (0,0)):=(dn w p u g hp).trans h
theorem aX {w:World}{g:Nat}{o:Obj}(h:w.heap[g]? =ag o):g<w.heap.size:=(ck.1 h).1
theorem aA {w:World}{g:Nat}{t:TypeId}{cs:Array Value}(h:w.heap[g]? =ag (.cells cs t (0,0)))(i:Nat):w.cell? ⟨g,i,ak⟩=cs[i]? :=cell_of_row w g i cs t (0,0) h
theorem aH {w:World}{g:Nat}{t:TypeId}{cs:Array Value}(h:w.heap[g]? =ag (.cells cs t (0,0)))(i:Nat):w.frozen? ⟨g,i,ak⟩=ac:=by simp[World.frozen?,h]
theorem fV {w w1:World}{g:Nat}{o:Obj}{row:Option Nat}(h:w.heap[g]? =ag o)(hg:w.grownBy w1 row)(hne:ag g≠row):w1.heap[g]? =ag o:=(hg.block g (aX h) hne).trans h
theorem pL {w:World}{g g':Nat}{t t':TypeId}{cs cs':Array Value}(h:w.heap[g]? =ag (.cells cs t (0,0)))(h':w.heap[g']? =ag (.cells cs' t' (0,0)))(hne:t≠t'):g≠g':=by
 rintro rfl;rw[h]at h';injection h' with h';injection h' with _ ht;exact hne ht
def KeepBut (w w':World)(g:Nat)(row:Option Nat):Prop:=w.heap.size<=w'.heap.size/\∀i,i<w.heap.size->i≠g->ag i≠row->w'.heap[i]? =w.heap[i]?
theorem KeepBut.trans {w w1 w2:World}{g:Nat}{row row1:Option Nat}(h:KeepBut w w1 g row)(k:KeepBut w1 w2 g row1)(hr:row1=row\/∃b,row1=ag b/\w.heap.size<=b):KeepBut w w2 g row:=
 ⟨bi h.1 k.1,fun i hi hg hn=>by
   refine(k.2 i (br hi h.1) hg ?_).trans (h.2 i hi hg hn)
   rcases hr with rfl | ⟨b,rfl,hb⟩
   ·exact hn
   ·intro e;injection e with e
    omega⟩
section
variable {P:Program}{ops:Array Oper}{o:Oper}{a:Act}{Q:Exit->Act->World->Prop}{K:Act->World->Prop}
theorem oQ {w0 W:World}(base:Nat)(hw:dq o (yielded ops a.tmps)=af)(s x:Operand)(t e:TypeId)(z:Value)(size bytes:Nat)
 (ho:o.op=.call { callee:=.builtin .append,args:= #[s,x],argTypes:= #[t,t] })
 (ht:P.underlying t=ag (.slice e)) (hinfo:(P.info? e).map (fun i=>(i.zero,i.size,i.bytes))=ag (ag z,size,bytes)) (hz:z.cells.size=size) (hs0:0<size) (hb0:0<bytes)
 (v:Value) (n:Nat) (xs ys:List Value) (hs:a.eval s=v) (hx:a.eval x=.slice (ag ⟨W.heap.size,0,ak⟩) 1 1) (hys:ys.length=size) (h1:∀u∈ys,u.oneCell'=af)
 (HO:W.ownsRow base e size v n xs) (HB:Below base w0 W) (hbase:base<=W.heap.size) (hl:(n+1)*bytes<=140737488355328)
 (h:∀v1 w1,w1.ownsRow base e size v1 (n+1) (xs++ys)->Below base w0 w1->W.grownBy w1 v.ownBlock->(v1.ownBlock=v.ownBlock\/∃b,v1.ownBlock=ag b/\W.heap.size<=b)->K (a.put o.dst v1) w1):
 if dq o (yielded ops a.tmps)=af then jm P o a (W.alloc (.cells ys.toArray e)) K Q else K (a.put o.dst undef) (W.alloc (.cells ys.toArray e)):=by
 obtain⟨i0,hi,hzz⟩:=iq.1 hinfo;simp only[Prod.mk.injEq]at hzz;obtain⟨hz0,hz1,hz2⟩:=hzz;have hlen:n+1<=140737488355328:=bi (fu _ hb0) hl;rw[if_pos hw]
 obtain⟨v1,w1,hr,hown,hg,_,hat⟩:=run_append_own_at (P:=P) (W.alloc (.cells ys.toArray e)) base t o.type e i0 z size bytes ht hi hz0 hz1 hz2 hz hs0 v n xs (HO.alloc _) ⟨W.heap.size,0,ak⟩ 1 1 ys (by rw[hys];simp)
  (by simpa using World.news_of_block (cs:=ys.toArray) (t:=e) (fr:=(0,0)) (heap_alloc_new W (.cells ys.toArray e))) h1 (by simp only[maxLen];omega) hl (by simp;omega)
 unfold jm execOp;simp only[ho,resolve,invoke,builtin,Sem.run_bind,Sem.run_pure,Result.andThen_ok,cd,cg,db,hs,hx,hr];refine h v1 w1 hown ((HB.alloc hbase _).grown hg (by simp;omega) (kY HO)) (World.grownBy.trans (World.grownBy_alloc W _ _) hg) ?_
 rcases hat with hat | hat
 ·exact .inl hat
 ·exact .inr ⟨_,hat,by simp⟩
end
theorem own_weaken {w:World}{base base':Nat}{e:TypeId}{size n:Nat}{v:Value}{xs:List Value}(h:w.ownsRow base e size v n xs)(hb:base'<=base):w.ownsRow base' e size v n xs:=by
 obtain⟨h1,h2⟩:=h;refine⟨h1,?_⟩
 rcases h2 with h2 | ⟨g,cap,cur,rfl,hg,r⟩
 ·exact .inl h2
 ·exact .inr ⟨g,cap,cur,rfl,bi hb hg,r⟩
section
variable {α:Type}{enc:α->Value}{d:α}
def encs (enc:α->Value)(xs:List α):List Value:=xs.map enc
def rdOf (d:α)(xs:List α)(i:Int):α:=xs.getD i.toNat d
theorem jE (xs:List α):(encs enc xs).length=xs.length:=by simp[encs]
theorem encs_append (xs ys:List α):encs enc (xs++ys)=encs enc xs++encs enc ys:=by simp[encs]
theorem encs_get (xs:List α)(j:Nat)(h:j<xs.length):(encs enc xs)[j]? =ag (enc (xs.getD j d)):=by
 simp[encs,az h,aw]
def oF (enc:α->Value)(d:α)(w:World)(A:Option Addr)(n:Nat)(xs:List α):Prop:=
 xs.length=n/\n<=9223372036854775807/\(0<n->∃ad,A=ag ad/\∀j,j<n->w.cell? (ad.add j)=ag (enc (xs.getD j d)))
theorem oF.at_ {w:World}{A:Option Addr}{n:Nat}{xs:List α}(h:oF enc d w A n xs)(i:Int)(h0:0<=i)(h1:i<n):∃ad,A=ag ad/\w.cell? (ad.add i.toNat)=ag (enc (rdOf d xs i)):=by
 obtain⟨ad,e,hc⟩:=h.2.2 (by omega);exact⟨ad,e,hc _ (by omega)⟩
theorem own_lit_of (W:World)(base:Nat)(e:TypeId)(xs:List α)(hb:base<=W.heap.size)(hm:xs.length<=9223372036854775807):
 (W.alloc (.cells (encs enc xs).toArray e)).ownsRow base e 1 (.slice (ag ⟨W.heap.size,0,ak⟩) xs.length xs.length) xs.length (encs enc xs):=by
 have h:=World.ownsRow_lit (base:=base) (e:=e) (size:=1) W (encs enc xs).toArray xs.length hb (by simpa[maxLen]using hm) (by simp[encs])
 simpa using h
theorem own_at_of {W:World}{base g n cap:Nat}{e:TypeId}{xs:List α}(h:W.ownsRow base e 1 (.slice (ag ⟨g,0,ak⟩) n cap) n (encs enc xs))(i:Int)(h0:0<=i)(h1:i<n):
 W.cell? ⟨g,i.toNat,ak⟩=ag (enc (rdOf d xs i))/\W.frozen? ⟨g,i.toNat,ak⟩=ac:=by
 have hl:xs.length=n:=by have:=h.1;simp[encs]at this;exact this
 constructor
 ·have hc:=h.cells (g:=g) rfl i.toNat _ (encs_get (d:=d) xs i.toNat (by omega))
  rwa [add_plain]at hc
 ·rcases h.2 with ⟨h',_⟩ | ⟨g',cap',cur,h',_,hh,_⟩
  ·cases h'
  ·have:g=g':=by injection h' with h';injection h' with h';injection h' with h'
   subst this;simp[World.frozen?,hh]
theorem own_store_of {W:World}{base g n cap:Nat}{e:TypeId}{xs:List α}(h:W.ownsRow base e 1 (.slice (ag ⟨g,0,ak⟩) n cap) n (encs enc xs))(i:Int)(x:α):
 (W.setCell ⟨g,i.toNat,ak⟩ (enc x)).ownsRow base e 1 (.slice (ag ⟨g,0,ak⟩) n cap) n (encs enc (xs.set i.toNat x))/\W.grownBy (W.setCell ⟨g,i.toNat,ak⟩ (enc x)) (ag g):=by
 have hs:=h.stored i.toNat (enc x)
 have he:(encs enc xs).set i.toNat (enc x)=encs enc (xs.set i.toNat x):=by simp[encs,List.map_set]
 rwa [he]at hs
end
section
variable {α:Type}{P:Program}{ops:Array Oper}{rest:List Oper}{o:Oper}{a:Act}{Q:Exit->Act->World->Prop}
theorem mV {w0 W:World}(enc:α->Value)(d:α)(base:Nat)(hgd:o.guard=ak)(s x:Operand)(t e:TypeId)(z:Value)(bytes:Nat)
 (ho:o.op=.call { callee:=.builtin .append,args:= #[s,x],argTypes:= #[t,t] })
 (ht:P.underlying t=ag (.slice e)) (hinfo:(P.info? e).map (fun i=>(i.zero,i.size,i.bytes))=ag (ag z,1,bytes)) (hz:z.cells.size=1) (hb0:0<bytes) (h1:∀x:α,(enc x).oneCell'=af)
 (v:Value) (xs ys:List α) (A:Option Addr) (m c:Nat) (hs:a.eval s=v) (hx:a.eval x=.slice A m c)
 (HO:W.ownsRow base e 1 v xs.length (encs enc xs)) (HR:oF enc d W A m ys) (HB:Below base w0 W) (hbase:base<=W.heap.size) (hl:(xs.length+m)*bytes<=140737488355328)
 (h:∀v1 w1,w1.ownsRow base e 1 v1 (xs++ys).length (encs enc (xs++ys))->Below base w0 w1->W.grownBy w1 v.ownBlock->(v1.ownBlock=v.ownBlock\/∃b,v1.ownBlock=ag b/\W.heap.size<=b)->wpList P ops Q rest (a.put o.dst v1) w1):
 wpList P ops Q (o::rest) a W:=by
 obtain⟨i0,hi,hzz⟩:=iq.1 hinfo;simp only[Prod.mk.injEq]at hzz;obtain⟨hz0,hz1,hz2⟩:=hzz;have hm:ys.length=m:=HR.1;have hlen:xs.length+m<=140737488355328:=bi (fu _ hb0) hl
 have hrun:∃v1 w1,(Builtin.append_ #[t,t] o.type #[v,.slice A m c]).run P W=.ok v1 w1/\w1.ownsRow base e 1 v1 (xs++ys).length (encs enc (xs++ys))/\W.grownBy w1 v.ownBlock/\(v1.ownBlock=v.ownBlock\/v1.ownBlock=ag W.heap.size):=by
  rcases A with _ | ad
  ·have h0:m=0:=by
    rcases cq m with h0 | h0
    ·exact h0
    ·obtain⟨ad,h,_⟩:=HR.2.2 h0;cases h
   subst h0;obtain rfl:ys=[]:=cw hm;refine⟨v,W,?_,by simpa using HO,World.grownBy.refl W _,.inl rfl⟩
   rcases HO.2 with ⟨rfl,hn⟩ | ⟨g,cap,cur,rfl,_,_,hnc,_⟩
   ·simp[Builtin.append_,run_underlying ht,sizeOf,typeInfo,hi,Builtin.lenOf,Builtin.firstCells]
   ·simp[Builtin.append_,run_underlying ht,sizeOf,typeInfo,hi,Builtin.lenOf,Builtin.firstCells,hnc,storeCells]
  ·have hcells:∀j u,(encs enc ys)[j]? =ag u->W.cell? (ad.add j)=ag u:=by
    intro j u hu
    have hj:j<ys.length:=by
     rcases gu j ys.length with h | h
     ·exact h
     ·simp[encs,dg h]at hu
    obtain⟨ad',h',hc⟩:=HR.2.2 (by omega);injection h' with h';subst h';rw[encs_get (d:=d) ys j hj]at hu;rw[←hu];exact hc j (by omega)
   obtain⟨v1,w1,hr,h2,h3,_,h5⟩:=run_append_own_at (P:=P) W base t o.type e i0 z 1 bytes ht hi hz0 hz1 hz2 hz (by omega) v xs.length (encs enc xs) HO ad m c (encs enc ys) (by simp[encs,hm]) hcells
    (by intro u hu;simp only[encs,List.mem_map]at hu;obtain⟨q,_,rfl⟩:=hu;exact h1 q) (by simp only[maxLen];omega) hl hbase
   exact⟨v1,w1,hr,by simpa[encs,hm]using h2,h3,h5⟩
 obtain⟨v1,w1,hr,hown,hg,hat⟩:=hrun;refine wpList_plain hgd fun K hK=> ?_;unfold jm execOp;simp only[ho,resolve,invoke,builtin,Sem.run_bind,Sem.run_pure,Result.andThen_ok,cd,cg,db,hs,hx,hr];refine hK _ _ (h v1 w1 hown (HB.grown hg hbase (kY HO)) hg ?_)
 rcases hat with hat | hat
 ·exact .inl hat
 ·exact .inr ⟨_,hat,aq _⟩
end
theorem eR {w:World}{g:Nat}{o:Obj}(h:w.heap[g]? =ag o)(o':Obj):(w.alloc o').heap[g]? =ag o:=(ic w o' g (aX h)).trans h
theorem blk_drew {w:World}{g:Nat}{o:Obj}(h:w.heap[g]? =ag o):w.drew.heap[g]? =ag o:=h
theorem blk_drewN {w:World}{g:Nat}{o:Obj}(h:w.heap[g]? =ag o)(n:Nat):(w.drewN n).heap[g]? =ag o:=h
theorem aB {w w1:World}{g:Nat}{o:Obj}(h:w.heap[g]? =ag o)(hb:Below w.heap.size w w1):w1.heap[g]? =ag o:=(hb.block g (aX h)).trans h
theorem aW (w:World)(o:Obj):(w.alloc o).heap[w.heap.size]? =ag o:=heap_alloc_new w o
theorem own_le {w:World}{base n m c size:Nat}{e:TypeId}{A:Option Addr}{xs:List Value}(h:w.ownsRow base e size (.slice A m c) n xs):m<=c:=by
 rcases h.2 with ⟨he,_⟩ | ⟨g,cap,cur,he,_,_,hnc,_⟩
 ·injection he with _ h2 h3;omega
 ·injection he with _ h2 h3;omega
def kG {α:Type}(R:α->List Value->Prop)(e:TypeId)(size:Nat)(w:World)(base:Nat)(v:Value)(ps:List α):Prop:=
 ∃inner,w.ownsRow base e size v ps.length inner/\gQ R size ps inner
section
variable {α:Type}{R R':α->List Value->Prop}{e:TypeId}{size:Nat}{w w1:World}{base:Nat}{v:Value}{ps:List α}
theorem kG.none_ (R:α->List Value->Prop)(e:TypeId)(size:Nat)(w:World)(base:Nat):kG R e size w base (.slice ak 0 0) []:=⟨[],own_nil _ _ _ _,gQ.none _ _⟩
theorem kG.imp_ (h:kG R e size w base v ps)(hR:∀p c,R p c->R' p c):kG R' e size w base v ps:=by
 obtain⟨inner,ho,hr⟩:=h;exact⟨inner,ho,hr.imp_ hR⟩
theorem kG.reads (h:kG R e size w base v ps):∃A c,v=.slice A ps.length c/\ps.length<=c/\eQ R size w A ps.length ps:=by
 obtain⟨inner,ho,hr⟩:=h;obtain⟨A,c,rfl,hrow⟩:=own_reads_row ho hr rfl;exact⟨A,c,rfl,own_le ho,hrow⟩
theorem kG.ne_block (h:kG R e size w base v ps){g:Nat}{t:TypeId}{cells:Array Value}(hb:w.heap[g]? =ag (.cells cells t (0,0)))(ht:e≠t):ag g≠v.ownBlock:=by
 obtain⟨inner,ho,hr⟩:=h;exact own_ne ho hb ht
end
theorem eQ.inner_ {α:Type}{R:α->List Value->Prop}{size:Nat}{w:World}{ad:Addr}{n:Nat}{ps:List α}(h:eQ R size w (ag ad) n ps):
 ∃inner,gQ R size ps inner/\∀j u,inner[j]? =ag u->w.cell? (ad.add j)=ag u:=by
 have key:∀m,m<=ps.length->∃inner,gQ R size (ps.take m) inner/\∀j u,inner[j]? =ag u->w.cell? (ad.add j)=ag u:=by
  intro m
  induction m with
  |zero=>exact fun _=>⟨[],gQ.none _ _,fun j u hu=>by simp at hu⟩
  |succ m ih=>
   intro hm;obtain⟨inner,hr,hc⟩:=ih (by omega);obtain⟨ad',he,hcell⟩:=h.2.2 (by have:=h.1;omega);injection he with he;subst he;obtain⟨c,hcl,hp,hcc⟩:=hcell m _ (az (show m<ps.length by omega));refine⟨inner++c,?_,fun j u hu=> ?_⟩
   ·rw[List.take_succ_eq_append_getElem (show m<ps.length by omega)];exact hr.snoc hp hcl
   ·have hil:inner.length=m*size:=by rw[hr.1,dm,di (by omega)]
    rcases gu j inner.length with hj | hj
    ·rw[jq hj]at hu;exact hc j u hu
    ·rw[List.getElem?_append_right hj]at hu;have:=hcc (j - inner.length) u hu
     rwa [hil,Nat.add_sub_cancel' (by omega)]at this
 obtain⟨inner,hr,hc⟩:=key ps.length (aq _);rw[eu]at hr;exact⟨inner,hr,hc⟩
structure Kd (α:Type) where
 sz:Nat
 E:List Nat
 K:World->α->List Value->Prop
 M:World->Nat->(Nat->Prop)->α->List Value->Prop
 K_len:∀{w x cs},K w x cs->cs.length=sz
 K_one:∀{w x cs},K w x cs->∀u∈cs,u.oneCell'=af
 K_below:∀{w w1:World} {x cs},Below w.heap.size w w1->K w x cs->K w1 x cs
 K_of_M:∀{w base ok x cs},M w base ok x cs->K w x cs
 M_mono:∀{w base ok ok' x cs},(∀k,ok k->ok' k)->M w base ok x cs->M w base ok' x cs
 M_bound:∀{w:World} {base ok x cs},M w base ok x cs->M w base (fun k=>ok k/\base<=k/\k<w.heap.size/\∃q,q∈E/\∃cells,w.heap[k]? =ag (.cells cells q (0,0))) x cs
 M_move:∀{w w1:World} {base ok x cs},(∀k,ok k->w1.heap[k]? =w.heap[k]?)->M w base ok x cs->M w1 base ok x cs
 M_lower:∀{w base base' ok x cs},base'<=base->M w base ok x cs->M w base' ok x cs
theorem own_move {w w1:World}{base:Nat}{e:TypeId}{size n:Nat}{v:Value}{xs:List Value}(h:w.ownsRow base e size v n xs)(hm:∀k,v.ownBlock=ag k->w1.heap[k]? =w.heap[k]?):w1.ownsRow base e size v n xs:=by
 obtain⟨h1,h2⟩:=h;refine⟨h1,?_⟩
 rcases h2 with h2 | ⟨g,cap,cur,rfl,hg,hh,r⟩
 ·exact .inl h2
 ·exact .inr ⟨g,cap,cur,rfl,hg,(hm g (by simp[ee])).trans hh,r⟩
theorem dO {w:World}{base:Nat}{e:TypeId}{size n:Nat}{v:Value}{xs:List Value}(h:w.ownsRow base e size v n xs)(k:Nat)(hk:v.ownBlock=ag k):∃cells,w.heap[k]? =ag (.cells cells e (0,0)):=by
 rcases h.2 with ⟨rfl,_⟩ | ⟨g,cap,cur,rfl,hg,hh,r⟩
 ·simp[ee]at hk
 ·have:g=k:=by simpa[ee]using hk
  subst this;exact⟨cur,hh⟩
namespace Kd
def C {α:Type}(d:Kd α)(w:World)(A:Option Addr)(n:Nat)(xs:List α):Prop:=eQ (d.K w) d.sz w A n xs
def R {α:Type}(d:Kd α)(e:Nat)(w:World)(base:Nat)(ok:Nat->Prop)(v:Value)(xs:List α):Prop:=
 (∀k,v.ownBlock=ag k->ok k)/\kG (d.M w base (fun k=>ok k/\ag k≠v.ownBlock)) e d.sz w base v xs
section
variable {α:Type}{d:Kd α}{e:Nat}{w w1:World}{base:Nat}{ok ok':Nat->Prop}{v:Value}{xs:List α}
theorem aF {A:Option Addr}{n:Nat}(h:d.C w A n xs)(hb:Below w.heap.size w w1):d.C w1 A n xs:=eQ.imp_ h hb (fun _ _ hp=>d.K_below hb hp)
theorem iG (d:Kd α)(e:Nat)(w:World)(base:Nat)(ok:Nat->Prop):d.R e w base ok (.slice ak 0 0) []:=⟨fun k hk=>by simp[ee]at hk,kG.none_ _ _ _ _ _⟩
theorem dW (h:d.R e w base ok v xs)(hok:∀k,ok k->ok' k):d.R e w base ok' v xs:=⟨fun k hk=>hok k (h.1 k hk),h.2.imp_ (fun _ _ hp=>d.M_mono (fun k hk=>⟨hok k hk.1,hk.2⟩) hp)⟩
theorem d7 (h:d.R e w base ok v xs):d.R e w base (fun k=>ok k/\base<=k/\k<w.heap.size/\∃q,q∈e::d.E/\∃cells,w.heap[k]? =ag (.cells cells q (0,0))) v xs:=by
 obtain⟨h0,inner,ho,hr⟩:=h;refine⟨fun k hk=> ?_,inner,ho,hr.imp_ (fun _ _ hp=>d.M_mono (fun k hk=> ?_) (d.M_bound hp))⟩
 ·obtain⟨cells,hc⟩:=dO ho k hk;exact⟨h0 k hk,kY ho k hk,rK ho k hk,e,ig,cells,hc⟩
 ·obtain⟨⟨h1,h2⟩,h3,h4,q,hq,hc⟩:=hk;exact⟨⟨h1,h3,h4,q,List.mem_cons_of_mem _ hq,hc⟩,h2⟩
theorem R_move (h:d.R e w base ok v xs)(hm:∀k,ok k->w1.heap[k]? =w.heap[k]?):d.R e w1 base ok v xs:=by
 obtain⟨h0,inner,ho,hr⟩:=h;exact⟨h0,inner,own_move ho (fun k hk=>hm k (h0 k hk)),hr.imp_ (fun _ _ hp=>d.M_move (fun k hk=>hm k hk.1) hp)⟩
theorem fK {base':Nat}(h:d.R e w base ok v xs)(hb:base'<=base):d.R e w base' ok v xs:=by
 obtain⟨h0,inner,ho,hr⟩:=h;exact⟨h0,inner,own_weaken ho hb,hr.imp_ (fun _ _ hp=>d.M_lower hb hp)⟩
theorem R_step (h:d.R e w base ok v xs)(hm:∀k,ok k->k<w.heap.size->w1.heap[k]? =w.heap[k]?):d.R e w1 base ok v xs:=
 dW (R_move (d7 h) (fun k hk=>hm k hk.1 hk.2.2.1)) (fun _ hk=>hk.1)
theorem M_step {x:α}{cs:List Value}(h:d.M w base ok x cs)(hm:∀k,ok k->k<w.heap.size->w1.heap[k]? =w.heap[k]?):d.M w1 base ok x cs:=
 d.M_mono (fun _ hk=>hk.1) (d.M_move (fun k hk=>hm k hk.1 hk.2.2.1) (d.M_bound h))
theorem bF (h:d.R e w base ok v xs)(hb:Below w.heap.size w w1):d.R e w1 base ok v xs:=R_step h (fun k _ hk=>hb.block k hk)
theorem M_below {x:α}{cs:List Value}(h:d.M w base ok x cs)(hb:Below w.heap.size w w1):d.M w1 base ok x cs:=M_step h (fun k _ hk=>hb.block k hk)
theorem lQ (h:d.R e w base ok v xs){row:Option Nat}(hg:w.grownBy w1 row)(hok:∀k,ok k->ag k≠row):d.R e w1 base ok v xs:=R_step h (fun k ho hk=>hg.block k hk (hok k ho))
theorem cP (h:d.R e w base ok v xs){p:Addr}(hok:∀k,ok k->k≠p.block)(u:Value):d.R e (w.setCell p u) base ok v xs:=R_step h (fun k ho _=>dn w p u k (hok k ho))
theorem R_types (h:d.R e w base ok v xs){g t:Nat}{cells:Array Value}(hb:w.heap[g]? =ag (.cells cells t (0,0)))(ht:∀q,q∈e::d.E->q≠t):d.R e w base (fun k=>ok k/\k≠g) v xs:=
 dW (d7 h) (fun k hk=>⟨hk.1,by
  obtain⟨_,_,_,q,hq,cells',hc⟩:=hk;rintro rfl;rw[hc]at hb;injection hb with hb;injection hb with _ hb
  exact ht q hq hb⟩)
theorem R_set (h:d.R e w base ok v xs){g t:Nat}{cells:Array Value}(hb:w.heap[g]? =ag (.cells cells t (0,0)))(ht:∀q,q∈e::d.E->q≠t)(j:Nat)(u:Value):d.R e (w.setCell ⟨g,j,ak⟩ u) base ok v xs:=
 dW (cP (p:=⟨g,j,ak⟩) (R_types h hb ht) (fun _ hk=>hk.2) u) (fun _ hk=>hk.1)
theorem cO (h:d.R e w base ok v xs):∃A c,v=.slice A xs.length c/\xs.length<=c/\d.C w A xs.length xs:=by
 obtain⟨A,c,he,hl,hr⟩:=kG.reads h.2;exact⟨A,c,he,hl,hr.imp_ (ar _ _) (fun _ _ hp=>d.K_of_M hp)⟩
theorem bN (h:d.R e w base ok v xs):∃A c,v=.slice A xs.length c:=by
 obtain⟨A,c,he,_⟩:=cO h;exact⟨A,c,he⟩
theorem mH (h:d.R e w base ok v xs):∃inner,w.ownsRow base e d.sz v xs.length inner:=by
 obtain⟨_,inner,ho,_⟩:=h;exact⟨inner,ho⟩
theorem R_ne (h:d.R e w base ok v xs){g t:Nat}{cells:Array Value}(hb:w.heap[g]? =ag (.cells cells t (0,0)))(ht:e≠t):ag g≠v.ownBlock:=kG.ne_block h.2 hb ht
end
def scalar {α:Type}(enc:α->Value)(h1:∀x,(enc x).oneCell'=af):Kd α where
 sz:=1
 E:=[]
 K:=fun _ x cs=>cs=[enc x]
 M:=fun _ _ _ x cs=>cs=[enc x]
 K_len:=fun h=>by rw[h];rfl
 K_one:=fun h u hu=>by
  rw[h]at hu;rw[List.mem_singleton.1 hu];exact h1 _
 K_below:=fun _ h=>h
 K_of_M:=fun h=>h
 M_mono:=fun _ h=>h
 M_bound:=fun h=>h
 M_move:=fun _ h=>h
 M_lower:=fun _ h=>h
def int (k:IntKind):Kd Int:=scalar (bh k) (fun _=>rfl)
def bool:Kd Bool:=scalar iu (fun _=>rfl)
def string:Kd ByteArray:=scalar Value.string (fun _=>rfl)
def slice {α:Type}(e:Nat)(d:Kd α):Kd (List α) where
 sz:=1
 E:=e::d.E
 K:=fun w xs cs=>∃A c,cs=[.slice A xs.length c]/\xs.length<=c/\d.C w A xs.length xs
 M:=fun w base ok xs cs=>∃v,cs=[v]/\d.R e w base ok v xs
 K_len:=by
  rintro w x cs ⟨A,c,rfl,_⟩;rfl
 K_one:=by
  rintro w x cs ⟨A,c,rfl,_⟩ u hu;rw[List.mem_singleton.1 hu];rfl
 K_below:=by
  rintro w w1 x cs hb ⟨A,c,rfl,hl,hr⟩;exact⟨A,c,rfl,hl,aF hr hb⟩
 K_of_M:=by
  rintro w base ok x cs ⟨v,rfl,h⟩;obtain⟨A,c,rfl,hl,hr⟩:=cO h;exact⟨A,c,rfl,hl,hr⟩
 M_mono:=by
  rintro w base ok ok' x cs hok ⟨v,rfl,h⟩;exact⟨v,rfl,dW h hok⟩
 M_bound:=by
  rintro w base ok x cs ⟨v,rfl,h⟩;exact⟨v,rfl,d7 h⟩
 M_move:=by
  rintro w w1 base ok x cs hm ⟨v,rfl,h⟩;exact⟨v,rfl,R_move h hm⟩
 M_lower:=by
  rintro w base base' ok x cs hb ⟨v,rfl,h⟩;exact⟨v,rfl,fK h hb⟩
def pair {α β:Type}(a:Kd α)(b:Kd β):Kd (α × β) where
 sz:=a.sz+b.sz
 E:=a.E++b.E
 K:=fun w x cs=>∃c0 c1,cs=c0++c1/\a.K w x.1 c0/\b.K w x.2 c1
 M:=fun w base ok x cs=>∃c0 c1,cs=c0++c1/\a.M w base ok x.1 c0/\b.M w base ok x.2 c1
 K_len:=by
  rintro w x cs ⟨c0,c1,rfl,h0,h1⟩;rw[ba,a.K_len h0,b.K_len h1]
 K_one:=by
  rintro w x cs ⟨c0,c1,rfl,h0,h1⟩ u hu
  rcases fk.1 hu with hu | hu
  ·exact a.K_one h0 u hu
  ·exact b.K_one h1 u hu
 K_below:=by
  rintro w w1 x cs hb ⟨c0,c1,rfl,h0,h1⟩;exact⟨c0,c1,rfl,a.K_below hb h0,b.K_below hb h1⟩
 K_of_M:=by
  rintro w base ok x cs ⟨c0,c1,rfl,h0,h1⟩;exact⟨c0,c1,rfl,a.K_of_M h0,b.K_of_M h1⟩
 M_mono:=by
  rintro w base ok ok' x cs hok ⟨c0,c1,rfl,h0,h1⟩;exact⟨c0,c1,rfl,a.M_mono hok h0,b.M_mono hok h1⟩
 M_bound:=by
  rintro w base ok x cs ⟨c0,c1,rfl,h0,h1⟩;refine⟨c0,c1,rfl,a.M_mono ?_ (a.M_bound h0),b.M_mono ?_ (b.M_bound h1)⟩
  ·rintro k ⟨h2,h3,h4,q,hq,hc⟩;exact⟨h2,h3,h4,q,List.mem_append_left _ hq,hc⟩
  ·rintro k ⟨h2,h3,h4,q,hq,hc⟩;exact⟨h2,h3,h4,q,List.mem_append_right _ hq,hc⟩
 M_move:=by
  rintro w w1 base ok x cs hm ⟨c0,c1,rfl,h0,h1⟩;exact⟨c0,c1,rfl,a.M_move hm h0,b.M_move hm h1⟩
 M_lower:=by
  rintro w base base' ok x cs hb ⟨c0,c1,rfl,h0,h1⟩;exact⟨c0,c1,rfl,a.M_lower hb h0,b.M_lower hb h1⟩
def iso {α β:Type}(d:Kd α)(f:β->α):Kd β where
 sz:=d.sz
 E:=d.E
 K:=fun w x cs=>d.K w (f x) cs
 M:=fun w base ok x cs=>d.M w base ok (f x) cs
 K_len:=d.K_len
 K_one:=d.K_one
 K_below:=d.K_below
 K_of_M:=d.K_of_M
 M_mono:=d.M_mono
 M_bound:=d.M_bound
 M_move:=d.M_move
 M_lower:=d.M_lower
def bot {α:Type}(sz:Nat)(E:List Nat):Kd α where
 sz:=sz
 E:=E
 K:=fun _ _ _=>False
 M:=fun _ _ _ _ _=>False
 K_len:=fun h=>h.elim
 K_one:=fun h=>h.elim
 K_below:=fun _ h=>h
 K_of_M:=fun h=>h
 M_mono:=fun _ h=>h
 M_bound:=fun h=>h
 M_move:=fun _ h=>h
 M_lower:=fun _ h=>h
def upto {α:Type}(F:Kd α->Kd α)(sz:Nat)(E:List Nat):Nat->Kd α
 |0=>bot sz E
 |n+1=>F (upto F sz E n)
def fix {α:Type}(F:Kd α->Kd α)(sz:Nat)(E:List Nat)(hs:∀n,(upto F sz E n).sz=sz)(hE:∀n q,q∈(upto F sz E n).E->q∈E):Kd α where
 sz:=sz
 E:=E
 K:=fun w x cs=>∃n,(upto F sz E n).K w x cs
 M:=fun w base ok x cs=>∃n,(upto F sz E n).M w base ok x cs
 K_len:=by
  rintro w x cs ⟨n,h⟩;rw[(upto F sz E n).K_len h,hs n]
 K_one:=by
  rintro w x cs ⟨n,h⟩;exact(upto F sz E n).K_one h
 K_below:=by
  rintro w w1 x cs hb ⟨n,h⟩;exact⟨n,(upto F sz E n).K_below hb h⟩
 K_of_M:=by
  rintro w base ok x cs ⟨n,h⟩;exact⟨n,(upto F sz E n).K_of_M h⟩
 M_mono:=by
  rintro w base ok ok' x cs hok ⟨n,h⟩;exact⟨n,(upto F sz E n).M_mono hok h⟩
 M_bound:=by
  rintro w base ok x cs ⟨n,h⟩;refine⟨n,(upto F sz E n).M_mono ?_ ((upto F sz E n).M_bound h)⟩;rintro k ⟨h2,h3,h4,q,hq,hc⟩;exact⟨h2,h3,h4,q,hE n q hq,hc⟩
 M_move:=by
  rintro w w1 base ok x cs hm ⟨n,h⟩;exact⟨n,(upto F sz E n).M_move hm h⟩
 M_lower:=by
  rintro w base base' ok x cs hb ⟨n,h⟩;exact⟨n,(upto F sz E n).M_lower hb h⟩
theorem oZ {α:Type}{d:Kd α}{w:World}{A:Option Addr}{n:Nat}{xs:List α}(h:d.C w A n xs)(z:α)(i:Int)(h0:0<=i)(h1:i<n):
 ∃ad c,A=ag ad/\c.length=d.sz/\d.K w (xs.getD i.toNat z) c/\∀j u,c[j]? =ag u->w.cell? (ad.add (i.toNat*d.sz+j))=ag u:=eQ.get_ h z i h0 h1
theorem R_appended {α:Type}{d:Kd α}{e base:Nat}{ok okp:Nat->Prop}{W w1:World}{v v1:Value}{xs:List α}{p:α}{inner cs:List Value}(h0:∀k,v.ownBlock=ag k->ok k)(hr:gQ (d.M W base (fun k=>ok k/\ag k≠v.ownBlock)) d.sz xs inner)(hp:d.M W base okp p cs)(hokp:∀k,okp k->ok k/\ag k≠v.ownBlock)(hfresh:∀k,W.heap.size<=k->ok k)
 (hown:w1.ownsRow base e d.sz v1 (xs.length+1) (inner++cs)) (hg:W.grownBy w1 v.ownBlock) (hat:v1.ownBlock=v.ownBlock\/∃b,v1.ownBlock=ag b/\W.heap.size<=b):d.R e w1 base ok v1 (xs++[p]):=by
 have hne:∀k,ag k≠v.ownBlock->k<W.heap.size->ag k≠v1.ownBlock:=by
  intro k hk hlt
  rcases hat with hat | ⟨b,hb,hle⟩
  ·rw[hat];exact hk
  ·rw[hb];intro he;injection he with he;omega
 have step:∀{q:α} {c:List Value} {o:Nat->Prop},d.M W base o q c->(∀k,o k->ok k/\ag k≠v.ownBlock)->d.M w1 base (fun k=>ok k/\ag k≠v1.ownBlock) q c:=by
  intro q c o hq ho;have h1:=d.M_move (w1:=w1) (fun k hk=>hg.block k hk.2.2.1 (ho k hk.1).2) (d.M_bound hq);exact d.M_mono (fun k hk=>⟨(ho k hk.1).1,hne k (ho k hk.1).2 hk.2.2.1⟩) h1
 refine⟨fun k hk=> ?_,inner++cs,by rw[ba,bq];exact hown,?_⟩
 ·rcases hat with hat | ⟨b,hb,hle⟩
  ·exact h0 k (hat ▸ hk)
  ·rw[hb]at hk;injection hk with hk;exact hfresh k (by omega)
 ·exact(hr.imp_ (fun _ _ hq=>step hq (fun _ hk=>hk))).snoc (step hp hokp) (d.K_len (d.K_of_M hp))
section
variable {P:Program}{ops:Array Oper}{rest:List Oper}{o:Oper}{a:Act}{Q:Exit->Act->World->Prop}{α:Type}
theorem cX (d:Kd α){w0 W:World}(base:Nat)(hgd:o.guard=ak)(s x:Operand)(t e:TypeId)(z:Value)(bytes:Nat)
 (ho:o.op=.call { callee:=.builtin .append,args:= #[s,x],argTypes:= #[t,t] })
 (ht:P.underlying t=ag (.slice e)) (hinfo:(P.info? e).map (fun i=>(i.zero,i.size,i.bytes))=ag (ag z,d.sz,bytes)) (hz:z.cells.size=d.sz) (hs0:0<d.sz) (hb0:0<bytes)
 (v:Value) (xs:List α) (p:α) (cs:List Value) (ok okp:Nat->Prop) (hs:a.eval s=v) (hx:a.eval x=.slice (ag ⟨W.heap.size,0,ak⟩) 1 1) (hp:d.M W base okp p cs) (hokp:∀k,okp k->ok k/\ag k≠v.ownBlock) (hfresh:∀k,W.heap.size<=k->ok k)
 (HO:d.R e W base ok v xs) (HB:Below base w0 W) (hbase:base<=W.heap.size) (hl:(xs.length+1)*bytes<=140737488355328)
 (h:∀v1 w1,d.R e w1 base ok v1 (xs++[p])->Below base w0 w1->W.grownBy w1 v.ownBlock->(v1.ownBlock=v.ownBlock\/∃b,v1.ownBlock=ag b/\W.heap.size<=b)->wpList P ops Q rest (a.put o.dst v1) w1):
 wpList P ops Q (o::rest) a (W.alloc (.cells cs.toArray e)):=by
 obtain⟨h0,inner,hown,hr⟩:=HO;refine oB base hgd s x t e z d.sz bytes ho ht hinfo hz hs0 hb0 v xs.length inner cs hs hx (d.K_len (d.K_of_M hp)) (d.K_one (d.K_of_M hp)) hown HB hbase hl ?_;intro v1 w1 hown1 hb1 hg1 hat1;exact h v1 w1 (R_appended h0 hr hp hokp hfresh hown1 hg1 hat1) hb1 hg1 hat1
end
section
variable {P:Program}{ops:Array Oper}{o:Oper}{a:Act}{Q:Exit->Act->World->Prop}{Kc:Act->World->Prop}{α:Type}
theorem iJ (d:Kd α){w0 W:World}(base:Nat)(hw:dq o (yielded ops a.tmps)=af)(s x:Operand)(t e:TypeId)(z:Value)(bytes:Nat)
 (ho:o.op=.call { callee:=.builtin .append,args:= #[s,x],argTypes:= #[t,t] })
 (ht:P.underlying t=ag (.slice e)) (hinfo:(P.info? e).map (fun i=>(i.zero,i.size,i.bytes))=ag (ag z,d.sz,bytes)) (hz:z.cells.size=d.sz) (hs0:0<d.sz) (hb0:0<bytes)
 (v:Value) (xs:List α) (p:α) (cs:List Value) (ok okp:Nat->Prop) (hs:a.eval s=v) (hx:a.eval x=.slice (ag ⟨W.heap.size,0,ak⟩) 1 1) (hp:d.M W base okp p cs) (hokp:∀k,okp k->ok k/\ag k≠v.ownBlock) (hfresh:∀k,W.heap.size<=k->ok k)
 (HO:d.R e W base ok v xs) (HB:Below base w0 W) (hbase:base<=W.heap.size) (hl:(xs.length+1)*bytes<=140737488355328)
 (h:∀v1 w1,d.R e w1 base ok v1 (xs++[p])->Below base w0 w1->W.grownBy w1 v.ownBlock->(v1.ownBlock=v.ownBlock\/∃b,v1.ownBlock=ag b/\W.heap.size<=b)->Kc (a.put o.dst v1) w1):
 if dq o (yielded ops a.tmps)=af then jm P o a (W.alloc (.cells cs.toArray e)) Kc Q else Kc (a.put o.dst undef) (W.alloc (.cells cs.toArray e)):=by
 obtain⟨h0,inner,hown,hr⟩:=HO;refine oQ base hw s x t e z d.sz bytes ho ht hinfo hz hs0 hb0 v xs.length inner cs hs hx (d.K_len (d.K_of_M hp)) (d.K_one (d.K_of_M hp)) hown HB hbase hl ?_;intro v1 w1 hown1 hb1 hg1 hat1;exact h v1 w1 (R_appended h0 hr hp hokp hfresh hown1 hg1 hat1) hb1 hg1 hat1
end
theorem kO {α:Type}{enc:α->Value}(xs:List α):gQ (fun(x:α) (cs:List Value)=>cs=[enc x]) 1 xs (encs enc xs):=by
 refine⟨by simp[encs],fun j p hj=> ?_⟩;obtain⟨hl,hp⟩:=fe.1 hj
 have hl':j<(encs enc xs).length:=by rw[jE];exact hl
 rw[ib,jd hl'];simp[encs,hp]
theorem nL {α:Type}{enc:α->Value}{h1:∀x,(enc x).oneCell'=af}{e:Nat}{w:World}{base:Nat}{ok:Nat->Prop}{v:Value}{xs:List α}(ho:w.ownsRow base e 1 v xs.length (encs enc xs))(hok:∀k,v.ownBlock=ag k->ok k):(scalar enc h1).R e w base ok v xs:=⟨hok,encs enc xs,ho,kO xs⟩
theorem mC {α:Type}{enc:α->Value}{h1:∀x,(enc x).oneCell'=af}{e:Nat}{w:World}{base:Nat}{ok:Nat->Prop}{v:Value}{xs:List α}(h:(scalar enc h1).R e w base ok v xs):w.ownsRow base e 1 v xs.length (encs enc xs):=by
 obtain⟨_,inner,ho,hr⟩:=h
 have:inner=encs enc xs:=by
  apply List.ext_getElem?;intro j
  rcases gu j xs.length with hj | hj
  ·have h2:=hr.2 j _ (az hj)
   have hl:j<inner.length:=by have:=hr.1;simp[scalar]at this;omega
   have h3:(inner.drop (j*1)).take 1=[enc xs[j]]:=h2;rw[ib,jd hl]at h3
   have h4:inner[j]=enc xs[j]:=by
    have h5:=congrArg List.head? h3;rw[List.take_succ_cons]at h5;exact cf h5
   rw[az hl,h4];simp[encs,az hj]
  ·have h3:inner.length=xs.length:=by have:=hr.1;simp[scalar]at this;omega
   rw[dg (by omega),dg (by rw[jE];omega)]
 rw[←this];exact ho
theorem mD {α:Type}{enc:α->Value}{d:α}{h1:∀x,(enc x).oneCell'=af}{w:World}{A:Option Addr}{n:Nat}{xs:List α}(h:(scalar enc h1).C w A n xs):oF enc d w A n xs:=by
 refine⟨h.1,h.2.1,fun hn=> ?_⟩;obtain⟨ad,e,hc⟩:=h.2.2 hn;refine⟨ad,e,fun j hj=> ?_⟩
 have hl:j<xs.length:=by have:=h.1;omega
 obtain⟨c,_,hK,hcell⟩:=hc j _ (az hl);have hK':c=[enc xs[j]]:=hK;subst hK';have:=hcell 0 _ rfl
 simpa[scalar,aw,az hl]using this
end Kd
namespace Kd
structure Mono {α β:Type}(F:Kd α->Kd β):Prop where
 sz:∀d d':Kd α,d.sz=d'.sz->(F d).sz=(F d').sz
 K:∀d d':Kd α,d.sz=d'.sz->(∀w x cs,d.K w x cs->d'.K w x cs)->∀w x cs,(F d).K w x cs->(F d').K w x cs
 M:∀d d':Kd α,d.sz=d'.sz->(∀w base ok x cs,d.M w base ok x cs->d'.M w base ok x cs)->∀w base ok x cs,(F d).M w base ok x cs->(F d').M w base ok x cs
theorem eZ {α β:Type}(k:Kd β):Mono (fun _:Kd α=>k):=⟨fun _ _ _=>rfl,fun _ _ _ _ _ _ _ h=>h,fun _ _ _ _ _ _ _ _ _ h=>h⟩
theorem mono_id {α:Type}:Mono (fun d:Kd α=>d):=⟨fun _ _ h=>h,fun _ _ _ h=>h,fun _ _ _ h=>h⟩
theorem C_imp {α:Type}{d d':Kd α}(hs:d.sz=d'.sz)(h:∀w x cs,d.K w x cs->d'.K w x cs){w:World}{A:Option Addr}{n:Nat}{xs:List α}(hc:d.C w A n xs):d'.C w A n xs:=by
 unfold C at hc ⊢;rw[←hs];exact hc.imp_ (ar _ _) (fun _ _ hp=>h _ _ _ hp)
theorem R_imp {α:Type}{d d':Kd α}(hs:d.sz=d'.sz)(h:∀w base ok x cs,d.M w base ok x cs->d'.M w base ok x cs){e:Nat}{w:World}{base:Nat}{ok:Nat->Prop}{v:Value}{xs:List α}(hr:d.R e w base ok v xs):d'.R e w base ok v xs:=by
 unfold R at hr ⊢;rw[←hs];exact⟨hr.1,hr.2.imp_ (fun _ _ hp=>h _ _ _ _ _ hp)⟩
theorem oX {α β:Type}(e:Nat){G:Kd α->Kd β}(hG:Mono G):Mono (fun d=>slice e (G d)):=by
 refine⟨fun _ _ _=>rfl,?_,?_⟩
 ·rintro d d' hs h w x cs ⟨A,c,rfl,hl,hr⟩;exact⟨A,c,rfl,hl,C_imp (hG.sz d d' hs) (hG.K d d' hs h) hr⟩
 ·rintro d d' hs h w base ok x cs ⟨v,rfl,hr⟩;exact⟨v,rfl,R_imp (hG.sz d d' hs) (hG.M d d' hs h) hr⟩
theorem fE {α β γ:Type}{G:Kd α->Kd β}{H:Kd α->Kd γ}(hG:Mono G)(hH:Mono H):Mono (fun d=>pair (G d) (H d)):=by
 refine⟨fun d d' hs=> ?_,?_,?_⟩
 ·show(G d).sz+(H d).sz=(G d').sz+(H d').sz
  rw[hG.sz d d' hs,hH.sz d d' hs]
 ·rintro d d' hs h w x cs ⟨c0,c1,rfl,h0,h1⟩;exact⟨c0,c1,rfl,hG.K d d' hs h _ _ _ h0,hH.K d d' hs h _ _ _ h1⟩
 ·rintro d d' hs h w base ok x cs ⟨c0,c1,rfl,h0,h1⟩;exact⟨c0,c1,rfl,hG.M d d' hs h _ _ _ _ _ h0,hH.M d d' hs h _ _ _ _ _ h1⟩
theorem mono_iso {α β γ:Type}{G:Kd α->Kd β}(f:γ->β)(hG:Mono G):Mono (fun d=>iso (G d) f):=
 ⟨hG.sz,fun d d' hs h w x cs=>hG.K d d' hs h w (f x) cs,fun d d' hs h w base ok x cs=>hG.M d d' hs h w base ok (f x) cs⟩
def Sub {α β:Type}(F:Kd α->Kd β)(E:List Nat):Prop:=∀d:Kd α,(∀q,q∈d.E->q∈E)->∀q,q∈(F d).E->q∈E
theorem gD {α β:Type}{E:List Nat}(k:Kd β)(h:∀q,q∈k.E->q∈E):Sub (fun _:Kd α=>k) E:=fun _ _=>h
theorem sub_id {α:Type}{E:List Nat}:Sub (fun d:Kd α=>d) E:=fun _ h=>h
theorem rW {α β:Type}{E:List Nat}(e:Nat){G:Kd α->Kd β}(he:e∈E)(hG:Sub G E):Sub (fun d=>slice e (G d)) E:=fun d h q hq=>by
 rcases iv.1 hq with rfl | hq
 ·exact he
 ·exact hG d h q hq
theorem gX {α β γ:Type}{E:List Nat}{G:Kd α->Kd β}{H:Kd α->Kd γ}(hG:Sub G E)(hH:Sub H E):Sub (fun d=>pair (G d) (H d)) E:=fun d h q hq=>by
 rcases fk.1 hq with hq | hq
 ·exact hG d h q hq
 ·exact hH d h q hq
theorem sub_iso {α β γ:Type}{E:List Nat}{G:Kd α->Kd β}(f:γ->β)(hG:Sub G E):Sub (fun d=>iso (G d) f) E:=hG
theorem upto_E {α:Type}{F:Kd α->Kd α}{sz:Nat}{E:List Nat}(h:Sub F E):∀n q,q∈(upto F sz E n).E->q∈E
 |0,_,hq=>hq
 |n+1,q,hq=>h _ (upto_E h n) q hq
theorem upto_sz {α:Type}{F:Kd α->Kd α}{sz:Nat}{E:List Nat}(h:∀d:Kd α,(F d).sz=sz):∀n,(upto F sz E n).sz=sz
 |0=>rfl
 |_+1=>h _
section
variable {α:Type}{F:Kd α->Kd α}{sz:Nat}{E:List Nat}{hs:∀n,(upto F sz E n).sz=sz}{hE:∀n q,q∈(upto F sz E n).E->q∈E}
theorem upto_K (hm:Mono F)(hs:∀n,(upto F sz E n).sz=sz):∀n {w x cs},(upto F sz E n).K w x cs->(upto F sz E (n+1)).K w x cs
 |0,_,_,_,h=>h.elim
 |n+1,_,_,_,h=>hm.K _ _ (by rw[hs n,hs (n+1)]) (fun _ _ _ hk=>upto_K hm hs n hk) _ _ _ h
theorem upto_M (hm:Mono F)(hs:∀n,(upto F sz E n).sz=sz):∀n {w base ok x cs},(upto F sz E n).M w base ok x cs->(upto F sz E (n+1)).M w base ok x cs
 |0,_,_,_,_,_,h=>h.elim
 |n+1,_,_,_,_,_,h=>hm.M _ _ (by rw[hs n,hs (n+1)]) (fun _ _ _ _ _ hk=>upto_M hm hs n hk) _ _ _ _ _ h
theorem upto_K_le (hm:Mono F)(hs:∀n,(upto F sz E n).sz=sz){n m:Nat}(hnm:n<=m){w x cs}(h:(upto F sz E n).K w x cs):(upto F sz E m).K w x cs:=by
 obtain⟨j,rfl⟩:=Nat.exists_eq_add_of_le hnm
 induction j with
 |zero=>exact h
 |succ j ih=>exact upto_K hm hs _ (ih (by omega))
theorem upto_M_le (hm:Mono F)(hs:∀n,(upto F sz E n).sz=sz){n m:Nat}(hnm:n<=m){w base ok x cs}(h:(upto F sz E n).M w base ok x cs):(upto F sz E m).M w base ok x cs:=by
 obtain⟨j,rfl⟩:=Nat.exists_eq_add_of_le hnm
 induction j with
 |zero=>exact h
 |succ j ih=>exact upto_M hm hs _ (ih (by omega))
theorem fix_C {n:Nat}{w:World}{A:Option Addr}{m:Nat}{xs:List α}(h:(upto F sz E n).C w A m xs):(fix F sz E hs hE).C w A m xs:=C_imp (d':=fix F sz E hs hE) (hs n) (fun w x cs hp=>(⟨n,hp⟩:∃n,(upto F sz E n).K w x cs)) h
theorem bounded {P:Nat->Nat->Prop}(hP:∀n m j,n<=m->P n j->P m j):∀m,(∀j,j<m->∃n,P n j)->∃N,∀j,j<m->P N j
 |0,_=>⟨0,fun j hj=>absurd hj (da j)⟩
 |m+1,h=>by
  obtain⟨N,hN⟩:=bounded hP m (fun j hj=>h j (by omega));obtain⟨n,hn⟩:=h m (by omega);refine⟨max N n,fun j hj=> ?_⟩
  rcases gu j m with hj' | hj'
  ·exact hP N _ j (Nat.le_max_left _ _) (hN j hj')
  ·have:j=m:=by omega
   subst this;exact hP n _ j (Nat.le_max_right _ _) hn
theorem reps_bounded {α:Type}{R:Nat->α->List Value->Prop}(hR:∀n m p c,n<=m->R n p c->R m p c){size:Nat}{ps:List α}{cs:List Value}(h:gQ (fun p c=>∃n,R n p c) size ps cs):∃N,gQ (R N) size ps cs:=by
 obtain⟨N,hN⟩:=bounded (P:=fun n j=>∀p,ps[j]? =ag p->R n p ((cs.drop (j*size)).take size)) (fun n m j hnm hp p hj=>hR n m p _ hnm (hp p hj)) ps.length
  (fun j hj=>by
    obtain⟨n,hn⟩:=h.2 j _ (az hj);refine⟨n,fun p hp=> ?_⟩;rw[az hj]at hp;injection hp with hp;rw[←hp]
    exact hn)
 exact⟨N,h.1,fun j p hj=>hN j (fe.1 hj).1 p hj⟩
theorem o7 (hm:Mono F){e:Nat}{w:World}{base:Nat}{ok:Nat->Prop}{v:Value}{xs:List α}(h:(fix F sz E hs hE).R e w base ok v xs):∃n,(upto F sz E n).R e w base ok v xs:=by
 obtain⟨h0,inner,ho,hr⟩:=h;obtain⟨N,hN⟩:=reps_bounded (R:=fun n p c=>(upto F sz E n).M w base (fun k=>ok k/\ag k≠v.ownBlock) p c) (fun n m p c hnm hp=>upto_M_le hm hs hnm hp) hr;refine⟨N,h0,inner,?_,?_⟩
 ·rw[hs N];exact ho
 ·rw[hs N];exact hN
theorem oK (hm:Mono F){w:World}{A:Option Addr}{m:Nat}{xs:List α}(h:(fix F sz E hs hE).C w A m xs):∃n,(upto F sz E n).C w A m xs:=by
 rcases cq m with hz | hpos
 ·subst hz;exact⟨0,h.1,h.2.1,fun hp=>absurd hp (Nat.lt_irrefl 0)⟩
 ·obtain⟨ad,e,hc⟩:=h.2.2 hpos
  obtain⟨N,hN⟩:=bounded (P:=fun n j=>∀p,xs[j]? =ag p->∃c,c.length=sz/\(upto F sz E n).K w p c/\∀i u,c[i]? =ag u->w.cell? (ad.add (j*sz+i))=ag u)
   (fun n n' j hnm hp p hj=>by
     obtain⟨c,h1,h2,h3⟩:=hp p hj
     exact⟨c,h1,upto_K_le hm hs hnm h2,h3⟩) xs.length
   (fun j hj=>by
     obtain⟨c,h1,⟨n,h2⟩,h3⟩:=hc j _ (az hj);refine⟨n,fun p hp=> ?_⟩;rw[az hj]at hp;injection hp with hp;rw[←hp]
     exact⟨c,h1,h2,h3⟩)
  refine⟨N,h.1,h.2.1,fun _=>⟨ad,e,fun j p hj=> ?_⟩⟩;rw[hs N];exact hN j (fe.1 hj).1 p hj
theorem sY (hm:Mono F)(hs:∀n,(upto F sz E n).sz=sz){n m:Nat}(hnm:n<=m){e:Nat}{w:World}{base:Nat}{ok:Nat->Prop}{v:Value}{xs:List α}(h:(upto F sz E n).R e w base ok v xs):(upto F sz E m).R e w base ok v xs:=R_imp (by rw[hs n,hs m]) (fun _ _ _ _ _ hp=>upto_M_le hm hs hnm hp) h
theorem sC (hm:Mono F)(hs:∀n,(upto F sz E n).sz=sz){n m:Nat}(hnm:n<=m){w:World}{A:Option Addr}{l:Nat}{xs:List α}(h:(upto F sz E n).C w A l xs):(upto F sz E m).C w A l xs:=C_imp (by rw[hs n,hs m]) (fun _ _ _ hp=>upto_K_le hm hs hnm hp) h
end
end Kd
namespace Kd
theorem R_after {α:Type}{d:Kd α}{e base:Nat}{ok:Nat->Prop}{W w1:World}{u v v1:Value}{xs:List α}(h:d.R e W base (fun k=>ok k/\ag k≠v.ownBlock) u xs)(hg:W.grownBy w1 v.ownBlock)(hat:v1.ownBlock=v.ownBlock\/∃b,v1.ownBlock=ag b/\W.heap.size<=b):d.R e w1 base (fun k=>ok k/\ag k≠v1.ownBlock) u xs:=by
 refine dW (R_move (d7 h) (fun k hk=>hg.block k hk.2.2.1 hk.1.2)) (fun k hk=>⟨hk.1.1,?_⟩)
 rcases hat with hat | ⟨b,hb,hle⟩
 ·rw[hat];exact hk.1.2
 ·rw[hb];intro he;injection he with he;have:=hk.2.2.1;omega
end Kd
namespace Kd
section
variable {α β:Type}{d:Kd α}{d':Kd β}{e e':Nat}{w w1 W:World}{base b b':Nat}{ok ok' okv oku:Nat->Prop}{v u:Value}{xs:List α}{ys:List β}
theorem R_alloc (h:d.R e w base ok v xs)(o:Obj):d.R e (w.alloc o) base ok v xs:=bF h (aT (ar _ _) o)
theorem R_drew (h:d.R e w base ok v xs):d.R e w.drew base ok v xs:=bF h (below_drew (ar _ _))
theorem R_drewN (h:d.R e w base ok v xs)(m:Nat):d.R e (w.drewN m) base ok v xs:=bF h (aO (ar _ _) m)
theorem C_nil (d:Kd α)(w:World):d.C w ak ([]:List α).length []:=⟨rfl,by simp,fun h=>absurd h (Nat.lt_irrefl 0)⟩
theorem qM {A:Option Addr}{n c:Nat}(h:d.R e w base ok (.slice A n c) xs):n=xs.length/\n<=c/\d.C w A xs.length xs:=by
 obtain⟨A',c',he,hl,hr⟩:=cO h;injection he with h1 h2 h3;subst h1;exact⟨h2,by omega,hr⟩
theorem R_lt (h:d.R e w base ok v xs):∀k,v.ownBlock=ag k->k<w.heap.size:=by
 obtain⟨inner,ho⟩:=mH h;exact rK ho
theorem R_base (h:d.R e w base ok v xs):∀k,v.ownBlock=ag k->base<=k:=by
 obtain⟨inner,ho⟩:=mH h;exact kY ho
theorem R_form (h:d.R e w base ok v xs)(hp:0<xs.length):∃g cap,v=.slice (ag ⟨g,0,ak⟩) xs.length cap/\base<=g/\g<w.heap.size/\∃cells,w.heap[g]? =ag (.cells cells e (0,0)):=by
 obtain⟨inner,ho⟩:=mH h;obtain⟨g,cap,he,hb,hl⟩:=ho.form hp;obtain⟨cells,hc⟩:=dO ho g (by rw[he];simp[ee]);exact⟨g,cap,he,hb,hl,cells,hc⟩
end
section
variable {w W:World}{A:Option Addr}{n:Nat}
theorem at_int {k:IntKind}{xs:List Int}(h:(Kd.int k).C w A n xs)(i:Int)(h0:0<=i)(h1:i<n):∃ad,A=ag ad/\w.cell? (ad.add i.toNat)=ag (.int k (rd xs i)):=
 oF.at_ (mD (enc:=bh k) (d:=(0:Int)) (h1:=fun _=>rfl) h) i h0 h1
theorem nU {xs:List ByteArray}(h:Kd.string.C w A n xs)(i:Int)(h0:0<=i)(h1:i<n):∃ad,A=ag ad/\w.cell? (ad.add i.toNat)=ag (.string (rdOf gi xs i)):=
 oF.at_ (mD (enc:=Value.string) (d:=gi) (h1:=fun _=>rfl) h) i h0 h1
variable {α:Type}{enc:α->Value}{h1:∀x,(enc x).oneCell'=af}{e base g cap:Nat}{ok:Nat->Prop}{xs:List α}
theorem R_cell (d:α)(h:(scalar enc h1).R e W base ok (.slice (ag ⟨g,0,ak⟩) xs.length cap) xs)(i:Int)(h0:0<=i)(hi:i<xs.length):W.cell? ⟨g,i.toNat,ak⟩=ag (enc (rdOf d xs i))/\W.frozen? ⟨g,i.toNat,ak⟩=ac:=own_at_of (mC h) i h0 hi
theorem R_put (h:(scalar enc h1).R e W base ok (.slice (ag ⟨g,0,ak⟩) xs.length cap) xs)(i:Int)(x:α):(scalar enc h1).R e (W.setCell ⟨g,i.toNat,ak⟩ (enc x)) base ok (.slice (ag ⟨g,0,ak⟩) xs.length cap) (xs.set i.toNat x)/\W.grownBy (W.setCell ⟨g,i.toNat,ak⟩ (enc x)) (ag g):=by
 obtain⟨ho,hg⟩:=own_store_of (mC h) i x;exact⟨nL (by rw[List.length_set];exact ho) h.1,hg⟩
end
section
variable {P:Program}{ops:Array Oper}{rest:List Oper}{o:Oper}{a:Act}{Q:Exit->Act->World->Prop}
theorem event_run {W w1:World}{v:Value}(hgd:o.guard=ak)(hrun:(execOp a.eval o).run P W=.ok (.value v) w1)(h:wpList P ops Q rest (a.put o.dst v) w1):wpList P ops Q (o::rest) a W:=by
 refine wpList_plain hgd fun K hK=> ?_;unfold jm;rw[hrun];exact hK _ _ h
variable {α:Type}
theorem R_lit (d:Kd α){w0 W:World}(base e:Nat)(hgd:o.guard=ak){N:Tmp}(_hd:o.dst=ag N){xs:List α}{inner:List Value}{ok okp:Nat->Prop}
 (hrun:(execOp a.eval o).run P W=.ok (.value (.slice (ag ⟨W.heap.size,0,ak⟩) xs.length xs.length)) (W.alloc (.cells inner.toArray e)))
 (hrep:gQ (d.M W base okp) d.sz xs inner) (hok:∀k,okp k->ok k) (hfresh:ok W.heap.size) (HB:Below base w0 W) (hbase:base<=W.heap.size) (hm:xs.length<=9223372036854775807)
 (h:∀v1 w1,d.R e w1 base ok v1 xs->Below base w0 w1->W.grownBy w1 ak->(∃b,v1.ownBlock=ag b/\W.heap.size<=b)->wpList P ops Q rest (a.put o.dst v1) w1):wpList P ops Q (o::rest) a W:=by
 refine event_run hgd hrun (h _ _ ⟨fun k hk=> ?_,inner,?_,?_⟩ (HB.alloc hbase _) (World.grownBy_alloc W _ ak) ⟨W.heap.size,by simp[ee],aq _⟩)
 ·have:W.heap.size=k:=by simpa[ee]using hk
  subst this;exact hfresh
 ·have h2:=World.ownsRow_lit (base:=base) (e:=e) (size:=d.sz) W inner.toArray xs.length hbase (by simpa[maxLen]using hm) (by simpa using hrep.1)
  simpa using h2
 ·refine hrep.imp_ (fun p c hp=>d.M_mono (fun k hk=>⟨hok k hk.1,fun he=> ?_⟩) (M_below (d.M_bound hp) (aT (ar _ _) _)))
  have h3:k=W.heap.size:=by simpa[ee]using he
  have:=hk.2.2.1;omega
theorem reps_made {α:Type}{R:α->List Value->Prop}{z:Value}{size:Nat}{z0:α}(hz:z.cells.size=size)(hs:0<size)(h0:R z0 z.cells.toList)(m:Nat):gQ R size (bg m z0) (madeCells z.cells (m*size)).toList:=by
 refine⟨by simp[size_madeCells],fun j p hj=> ?_⟩;obtain⟨hjl,hp⟩:=fe.1 hj
 have hjm:j<m:=by simpa using hjl
 have hp':z0=p:=by simpa using hp
 subst hp'
 have hle:j*size+size<=m*size:=by rw[←Nat.succ_mul];exact fq _ hjm
 have:((madeCells z.cells (m*size)).toList.drop (j*size)).take size=z.cells.toList:=by
  apply List.ext_getElem
  ·simp[size_madeCells,hz];omega
  ·intro i h1 h2
   have hi:i<size:=by rw[Array.length_toList,hz]at h2;exact h2
   have hmod:(j*size+i) % size=i:=by
    rw[Nat.mul_comm,Nat.mul_add_mod];exact fp hi
   simp[madeCells,hz,hmod];rw[getElem!_pos z.cells i (by omega)]
 rw[this];exact h0
theorem R_make (d:Kd α){w0 W:World}(base e:Nat)(hgd:o.guard=ak){N:Tmp}(hd:o.dst=ag N)(t:TypeId)(x y:Operand)(ho:o.op=.makeSlice t x y)(n:Int)(hx:a.eval x=.int .i64 n)(hy:a.eval y=.int .i64 n)
 (ht:P.underlying t=ag (.slice e)) (z:Value) (bytes:Nat) (hinfo:(P.info? e).map (fun i=>(i.zero,i.size,i.bytes))=ag (ag z,d.sz,bytes)) (hz:z.cells.size=d.sz) (hs0:0<d.sz) (hb0:0<bytes)
 (z0:α) {ok okp:Nat->Prop} (hzero:d.M W base okp z0 z.cells.toList) (hok:∀k,okp k->ok k) (hfresh:ok W.heap.size) (h0:0<=n) (hl:n.toNat*bytes<=281474976710656) (HB:Below base w0 W) (hbase:base<=W.heap.size)
 (h:∀v1 w1,d.R e w1 base ok v1 (bg n.toNat z0)->Below base w0 w1->W.grownBy w1 ak->(∃b,v1.ownBlock=ag b/\W.heap.size<=b)->wpList P ops Q rest (a.put o.dst v1) w1):wpList P ops Q (o::rest) a W:=by
 obtain⟨m,rfl⟩:=ew h0;simp only[ax]at hl h;obtain⟨i0,hi,hzz⟩:=iq.1 hinfo;simp only[Prod.mk.injEq]at hzz;obtain⟨hz0,hz1,hz2⟩:=hzz;have hm:m<=281474976710656:=bi (fu _ hb0) hl
 have hr:=run_make (P:=P) W t e i0 z ht hi hz0 .i64 .i64 (m:Int) (m:Int) (by omega) (by omega)
  (by
    have h3:((i0.bytes*m:Nat):Int)<=281474976710656:=by rw[hz2,Nat.mul_comm];omega
    rwa [iy]at h3) (by omega)
 simp only[ax]at hr;rw[hz1]at hr;refine R_lit d base e hgd hd (xs:=bg m z0) (inner:=(madeCells z.cells (m*d.sz)).toList) (okp:=okp) (ok:=ok) ?_ (reps_made hz hs0 hzero m) hok hfresh HB hbase (by simp;omega) h;simp[execOp,ho,hx,hy,hr]
end
end Kd
theorem own_take {w:World}{base n m c size:Nat}{e:TypeId}{A:Option Addr}{xs:List Value}(h:w.ownsRow base e size (.slice A n c) n xs)(hm:m<=n):w.ownsRow base e size (.slice A m c) m (xs.take (m*size)):=by
 obtain⟨h1,h2⟩:=h;refine⟨by rw[dm,h1];exact di (fq _ hm),?_⟩
 rcases h2 with ⟨he,h0⟩ | ⟨g,cap,cur,he,hb,hh,hnc,hcm,hcs,ht⟩
 ·injection he with ha _ hc;subst ha;subst hc;exact .inl ⟨by rw[show m=0 by omega],by omega⟩
 ·injection he with ha _ hc;subst ha;subst hc;refine .inr ⟨g,c,cur,rfl,hb,hh,by omega,hcm,hcs,?_⟩;rw[←ht,List.take_take,di (fq _ hm)]
def QRow (w:World)(base:Nat)(e:TypeId)(size:Nat)(v:Value)(n:Nat)(xs:List Value):Prop:=
 xs.length=n*size/\
 ((n=0/\∃A,v=.slice A 0 0/\∀a,A=ag a->base<=a.block/\∃cur,w.heap[a.block]? =ag (.cells cur e (0,0)))\/
  ∃g off cap cur,v=.slice (ag ⟨g,off*size,ak⟩) n cap/\base<=g/\w.heap[g]? =ag (.cells cur e (0,0))/\n<=cap/\off+cap<=maxLen/\cur.size=(off+cap)*size/\(cur.toList.drop (off*size)).take (n*size)=xs)
section
variable {w w1:World}{base n size:Nat}{e:TypeId}{v:Value}{xs:List Value}
theorem pM {g:Nat}:∀(vs:List Value) (o:Nat) {w:World} (k:Nat),k≠g->(w.setCells g o vs).heap[k]? =w.heap[k]?
 | [],_,_,_,_=>rfl
 |v::r,o,w,k,hk=>by
  rw[World.setCells,pM r (o+1) k hk];exact dn w ⟨g,o,ak⟩ v k hk
theorem nH (g:Nat):∀(vs:List Value) (o:Nat) (w:World),(w.setCells g o vs).os=w.os/\(w.setCells g o vs).tape=w.tape/\(w.setCells g o vs).output=w.output/\(w.setCells g o vs).heap.size=w.heap.size
 | [],_,_=>⟨rfl,rfl,rfl,rfl⟩
 |v::r,o,w=>by
  obtain⟨h1,h2,h3,h4⟩:=nH g r (o+1) (w.setCell ⟨g,o,ak⟩ v);rw[World.setCells];exact⟨h1,h2,h3,by rw[h4];simp[ji]⟩
theorem pJ {g:Nat}{e:TypeId}:∀(vs:List Value) (o:Nat) (w:World) (cur:Array Value),w.heap[g]? =ag (.cells cur e (0,0))->o+vs.length<=cur.size->
 ∃cur',(w.setCells g o vs).heap[g]? =ag (.cells cur' e (0,0))/\cur'.size=cur.size/\cur'.toList=cur.toList.take o++vs++cur.toList.drop (o+vs.length)
 | [],o,w,cur,h,_=>⟨cur,h,rfl,by simp⟩
 |v::r,o,w,cur,h,hl=>by
  have h2:=bU h o v;simp only[jn]at hl;obtain⟨cur',h3,h4,h5⟩:=pJ r (o+1) (w.setCell ⟨g,o,ak⟩ v) _ h2 (by simp;omega);refine⟨cur',h3,by rw[h4];simp,?_⟩;rw[h5,Array.toList_setIfInBounds]
  have ho:o<cur.toList.length:=by rw[Array.length_toList];omega
  rw[List.take_set,List.drop_set_of_lt (by omega)];simp only[jn];rw[show o+1+r.length=o+(r.length+1) by omega]
  congr 1
  rw[List.take_succ_eq_append_getElem ho,List.set_append_right _ _ (by rw[dm];omega)]
  have ho':o<cur.size:=by omega
  simp[di (Nat.le_of_lt ho')]
end
namespace Kd
theorem reps_take {α:Type}{R:α->List Value->Prop}{size m:Nat}{ps:List α}{cs:List Value}(h:gQ R size ps cs)(hm:m<=ps.length):gQ R size (ps.take m) (cs.take (m*size)):=by
 refine⟨by rw[dm,dm,h.1,di hm,di (fq _ hm)],fun j p hj=> ?_⟩;rw[ke]at hj
 split at hj
 ·rename_i hjm;have:=h.2 j p hj
  have hle:j*size+size<=m*size:=by rw[←Nat.succ_mul];exact fq _ hjm
  rw[List.drop_take,List.take_take,di (by omega)];exact this
 ·cases hj
theorem R_take {α:Type}{d:Kd α}{e m n c:Nat}{w:World}{base:Nat}{ok:Nat->Prop}{A:Option Addr}{xs:List α}(h:d.R e w base ok (.slice A n c) xs)(hm:m<=xs.length):d.R e w base ok (.slice A m c) (xs.take m):=by
 obtain⟨h0,inner,ho,hr⟩:=h
 have hn:n=xs.length:=by
  obtain⟨A',c',he⟩:=own_slice ho;injection he
 subst hn
 have hb:∀x y:Nat,(Value.slice A x c).ownBlock=(Value.slice A y c).ownBlock:=by
  intro x y
  cases A <;> rfl
 refine⟨fun k hk=>h0 k (by rw[hb _ m];exact hk),inner.take (m*d.sz),?_,?_⟩
 ·rw[dm,di hm];exact own_take ho hm
 ·rw[hb m xs.length];exact reps_take hr hm
def Q {α:Type}(d:Kd α)(e:Nat)(w:World)(base:Nat)(ok:Nat->Prop)(v:Value)(xs:List α):Prop:=
 (∀k,v.ownBlock=ag k->ok k)/\∃inner,QRow w base e d.sz v xs.length inner/\gQ (d.M w base (fun k=>ok k/\ag k≠v.ownBlock)) d.sz xs inner
end Kd
namespace Kd
theorem reps_append {α:Type}{R:α->List Value->Prop}{size:Nat}{ps qs:List α}{cs ds:List Value}(h:gQ R size ps cs)(h':gQ R size qs ds):gQ R size (ps++qs) (cs++ds):=by
 refine⟨by rw[ba,ba,h.1,h'.1,Nat.add_mul],fun j p hj=> ?_⟩
 rcases gu j ps.length with hlt | hge
 ·rw[jq hlt]at hj
  have hle:j*size+size<=cs.length:=by rw[h.1,←Nat.succ_mul];exact fq _ hlt
  rw[List.drop_append_of_le_length (by omega),List.take_append_of_le_length (by rw[fj];omega)];exact h.2 j p hj
 ·rw[List.getElem?_append_right hge]at hj;have h2:=h'.2 (j - ps.length) p hj;have hle:ps.length*size<=j*size:=fq _ hge;rw[List.drop_append,jw (by rw[h.1];exact hle),List.nil_append,h.1,←Nat.sub_mul];exact h2
section
variable {P:Program}{ops:Array Oper}{rest:List Oper}{o:Oper}{a:Act}{Q:Exit->Act->World->Prop}{α:Type}
theorem R_copy {enc:α->Value}{h1:∀x,(enc x).oneCell'=af}(d:α){w0 W:World}(base:Nat)(hgd:o.guard=ak)(s x:Operand)(t t' e:TypeId)
 (ho:o.op=.call { callee:=.builtin .copy,args:= #[s,x],argTypes:= #[t,t'] }) (ht:P.underlying t=ag (.slice e)) (hinfo:(P.info? e).map (·.size)=ag 1)
 (v:Value) (xs ys:List α) (A:Option Addr) (m c:Nat) (ok:Nat->Prop) (hs:a.eval s=v) (hx:a.eval x=.slice A m c)
 (HO:(scalar enc h1).R e W base ok v xs) (HR:(scalar enc h1).C W A m ys) (HB:Below base w0 W) (hbase:base<=W.heap.size)
 (h:∀w1,(scalar enc h1).R e w1 base ok v (ys.take (min m xs.length)++xs.drop (min m xs.length))->Below base w0 w1->W.grownBy w1 v.ownBlock->wpList P ops Q rest (a.put o.dst (.int .i64 ((min m xs.length:Nat):Int))) w1):
 wpList P ops Q (o::rest) a W:=by
 have hR:=mD (enc:=enc) (d:=d) (h1:=h1) HR;have hm:ys.length=m:=hR.1;have hown:=mC HO
 have fin:∀w1,(Builtin.copy_ #[t,t'] o.type #[v,.slice A m c]).run P W=.ok (goInt ((min m xs.length:Nat):Int)) w1->(scalar enc h1).R e w1 base ok v (ys.take (min m xs.length)++xs.drop (min m xs.length))->W.grownBy w1 v.ownBlock->wpList P ops Q (o::rest) a W:=by
  intro w1 hr hrow hg;refine wpList_plain hgd fun K hK=> ?_;unfold jm execOp;simp only[ho,resolve,invoke,builtin,Sem.run_bind,Sem.run_pure,Result.andThen_ok,cd,cg,db,hs,hx,hr];exact hK _ _ (h w1 hrow (HB.grown hg hbase (kY hown)) hg)
 rcases cq (min m xs.length)with h0 | hp
 ·obtain⟨A',c',hv⟩:=own_slice hown;refine fin W ?_ (by rw[h0,jx,List.drop_zero,List.nil_append];exact HO) (World.grownBy.refl W _);rw[h0,hv];exact run_copy_none W t t' o.type e A' A xs.length c' m c ht hinfo h0
 ·obtain⟨ad,hA,hc⟩:=hR.2.2 (by omega)
  rcases hown.2 with ⟨_,hx0⟩ | ⟨g,cap,cur,hv,hb,hh,hnc,hcm,hcs,htake⟩
  ·omega
  have hcs1:cur.size=cap:=by omega
  have hsrc:∀j u,(encs enc (ys.take (min m xs.length)))[j]? =ag u->W.cell? (ad.add j)=ag u:=by
   intro j u hu
   have hj:j<(ys.take (min m xs.length)).length:=by
    rcases gu j (ys.take (min m xs.length)).length with h | h
    ·exact h
    ·rw[dg (by rw[jE];exact h)]at hu;cases hu
   have hjm:j<min m xs.length:=by rw[dm]at hj;omega
   rw[encs_get (d:=d) _ j hj]at hu;rw[hc j (by omega),←hu];simp[aw,hjm]
  have hkl:(encs enc (ys.take (min m xs.length))).length=min m xs.length:=by rw[jE,dm];omega
  have hr:=run_copy_cells (P:=P) W t t' o.type e g 0 xs.length cap ad m c (encs enc (ys.take (min m xs.length))) ht hinfo (by rw[hkl]) hsrc
   (fun j hj=>by rw[cell_of_row W g _ cur e (0,0) hh];simp;omega) (fun j _=>aH hh _) (by intro u hu;simp only[encs,List.mem_map]at hu;obtain⟨q,_,rfl⟩:=hu;exact h1 q)
  obtain⟨cur',h3,h4,h5⟩:=pJ (encs enc (ys.take (min m xs.length))) 0 W cur hh (by rw[hkl];omega);obtain⟨s1,s2,s3,s4⟩:=nH g (encs enc (ys.take (min m xs.length))) 0 W;refine fin _ (by rw[hv,hA,hr,hkl]) (nL ?_ HO.1) ⟨s1,s2,s3,by rw[s4];exact aq _,fun k _ hk=>pM _ _ k (fun he=>hk (by rw[hv,he];simp[ee]))⟩
  have hln:(ys.take (min m xs.length)++xs.drop (min m xs.length)).length=xs.length:=by
   rw[ba,dm,fj];omega
  rw[hln];refine⟨by rw[jE,hln,ib],.inr ⟨g,cap,cur',hv,hb,h3,hnc,hcm,by rw[h4,hcs],?_⟩⟩;rw[h5,jx,List.nil_append,hkl,Nat.zero_add,encs_append,ib];rw[List.take_append,hkl,List.take_of_length_le (by rw[hkl];omega)]
  congr 1
  have htk:cur.toList.take xs.length=encs enc xs:=by rw[←htake,ib]
  have hd:encs enc (xs.drop (min m xs.length))=(encs enc xs).drop (min m xs.length):=by simp[encs,List.map_drop]
  rw[hd,←htk,List.drop_take]
end
end Kd
theorem add_add (a:Addr)(i j:Nat):(a.add i).add j=a.add (i+j):=by
 unfold Addr.add
 by_cases h1:i=0 <;> by_cases h2:j=0 <;> simp[h1,h2,ja]
namespace Kd
section
variable {α:Type}{k:Kd α}{w:World}{A:Option Addr}{xs:List α}{m c:Nat}
theorem C_take (h:k.C w A xs.length xs)(hm:m<=xs.length):k.C w A (xs.take m).length (xs.take m):=by
 have hl:(xs.take m).length=m:=by rw[dm];omega
 refine⟨rfl,by rw[hl];have:=h.2.1;omega,fun hp=> ?_⟩;obtain⟨ad,e,hc⟩:=h.2.2 (by omega);refine⟨ad,e,fun j p hj=>hc j p ?_⟩;rw[ke]at hj
 split at hj
 ·exact hj
 ·cases hj
end
end Kd
theorem gI {w W:World}(h:Below w.heap.size w W):w.heap.size<=W.heap.size:=h.size
theorem gJ {w W w2:World}(h:Below w.heap.size w W)(k:Below W.heap.size W w2):Below w.heap.size w w2:=below_then h h.size k
theorem kD {w W:World}{g j:Nat}{v:Value}(h:Below w.heap.size w W)(hg:w.heap.size<=g):Below w.heap.size w (W.setCell ⟨g,j,ak⟩ v):=h.setCell hg _
theorem bQ {w:World}{g:Nat}{t:TypeId}{cs cs':Array Value}(h:w.heap[g]? =ag (.cells cs t (0,0)))(i:Nat)(u:Value)(e:cs.setIfInBounds i u=cs'):(w.setCell ⟨g,i,ak⟩ u).heap[g]? =ag (.cells cs' t (0,0)):=e ▸ bU h i u
theorem aU {base:Nat}{w W:World}(h:Below base w W):Below base w W.drew:=h.drew
section
variable {P:Program}{ops:Array Oper}{rest:List Oper}{o:Oper}{a:Act}{Q:Exit->Act->World->Prop}
theorem rX {W:World}(hgd:o.guard=ak){N:Tmp}(_hd:o.dst=ag N){cs:Array Value}{t:TypeId}
 (hrun:(execOp a.eval o).run P W=.ok (.value (.pointer (ag ⟨W.heap.size,0,ak⟩))) (W.alloc (.cells cs t (0,0))))
 (h:∀g,g=W.heap.size->∀w1,w1.heap[g]? =ag (.cells cs t (0,0))->Below W.heap.size W w1->wpList P ops Q rest (a.put o.dst (.pointer (ag ⟨g,0,ak⟩))) w1):wpList P ops Q (o::rest) a W:=
 Kd.event_run hgd hrun (h _ rfl _ (aW W _) (aT (ar _ _) _))
theorem Kd.R_append_row {α:Type}(enc:α->Value)(d:α){h1:∀x:α,(enc x).oneCell'=af}{w0 W:World}(base:Nat)(hgd:o.guard=ak)(s x:Operand)(t e:TypeId)(z:Value)(bytes:Nat)
 (ho:o.op=.call { callee:=.builtin .append,args:= #[s,x],argTypes:= #[t,t] })
 (ht:P.underlying t=ag (.slice e)) (hinfo:(P.info? e).map (fun i=>(i.zero,i.size,i.bytes))=ag (ag z,1,bytes)) (hz:z.cells.size=1) (hb0:0<bytes)
 (v:Value) (xs ys:List α) (A:Option Addr) (m c:Nat) (ok:Nat->Prop) (hs:a.eval s=v) (hx:a.eval x=.slice A m c) (hfresh:∀k,W.heap.size<=k->ok k)
 (HO:(Kd.scalar enc h1).R e W base ok v xs) (HR:(Kd.scalar enc h1).C W A m ys) (HB:Below base w0 W) (hbase:base<=W.heap.size) (hl:(xs.length+m)*bytes<=140737488355328)
 (h:∀v1 w1,(Kd.scalar enc h1).R e w1 base ok v1 (xs++ys)->Below base w0 w1->W.grownBy w1 v.ownBlock->(v1.ownBlock=v.ownBlock\/∃b,v1.ownBlock=ag b/\W.heap.size<=b)->wpList P ops Q rest (a.put o.dst v1) w1):
 wpList P ops Q (o::rest) a W:=by
 refine mV (w0:=w0) enc d base hgd s x t e z bytes ho ht hinfo hz hb0 h1 v xs ys A m c hs hx (Kd.mC HO) (Kd.mD (d:=d) HR) HB hbase hl ?_;intro v1 w1 hown hb hg hat;refine h v1 w1 (Kd.nL hown (fun k hk=> ?_)) hb hg hat
 rcases hat with e1 | ⟨b,e1,hbb⟩
 ·exact HO.1 k (by rw[←e1];exact hk)
 ·rw[e1]at hk;injection hk with hk;subst hk;exact hfresh _ hbb
end
section
variable {P:Program}{ops:Array Oper}{rest:List Oper}{o:Oper}{a:Act}{Q:Exit->Act->World->Prop}{W:World}
theorem qE {N:Tmp}(_hN:o.dst=ag N)(h:wpList P ops Q (o::rest) a W):wpList P ops Q (o::rest) a W:=h
end
section
variable {P:Program}{ops:Array Oper}{o:Oper}{a:Act}{Q:Exit->Act->World->Prop}{Kc:Act->World->Prop}
theorem eC {W w1:World}{v:Value}(hw:dq o (yielded ops a.tmps)=af)(hrun:(execOp a.eval o).run P W=.ok (.value v) w1)(h:Kc (a.put o.dst v) w1):if dq o (yielded ops a.tmps)=af then jm P o a W Kc Q else Kc (a.put o.dst undef) W:=by
 rw[if_pos hw];unfold jm;rw[hrun];exact h
theorem box_step {W:World}(hw:dq o (yielded ops a.tmps)=af){N:Tmp}(_hd:o.dst=ag N){cs:Array Value}{t:TypeId}
 (hrun:(execOp a.eval o).run P W=.ok (.value (.pointer (ag ⟨W.heap.size,0,ak⟩))) (W.alloc (.cells cs t (0,0))))
 (h:∀g,g=W.heap.size->∀w1,w1.heap[g]? =ag (.cells cs t (0,0))->Below W.heap.size W w1->Kc (a.put o.dst (.pointer (ag ⟨g,0,ak⟩))) w1):if dq o (yielded ops a.tmps)=af then jm P o a W Kc Q else Kc (a.put o.dst undef) W:=
 eC hw hrun (h _ rfl _ (aW W _) (aT (ar _ _) _))
namespace Kd
variable {α:Type}
theorem iM (d:Kd α){w0 W:World}(base e:Nat)(hw:dq o (yielded ops a.tmps)=af){N:Tmp}(_hd:o.dst=ag N){xs:List α}{inner:List Value}{ok okp:Nat->Prop}
 (hrun:(execOp a.eval o).run P W=.ok (.value (.slice (ag ⟨W.heap.size,0,ak⟩) xs.length xs.length)) (W.alloc (.cells inner.toArray e)))
 (hrep:gQ (d.M W base okp) d.sz xs inner) (hok:∀k,okp k->ok k) (hfresh:ok W.heap.size) (HB:Below base w0 W) (hbase:base<=W.heap.size) (hm:xs.length<=9223372036854775807)
 (h:∀v1 w1,d.R e w1 base ok v1 xs->Below base w0 w1->W.grownBy w1 ak->(∃b,v1.ownBlock=ag b/\W.heap.size<=b)->Kc (a.put o.dst v1) w1):if dq o (yielded ops a.tmps)=af then jm P o a W Kc Q else Kc (a.put o.dst undef) W:=by
 refine eC hw hrun (h _ _ ⟨fun k hk=> ?_,inner,?_,?_⟩ (HB.alloc hbase _) (World.grownBy_alloc W _ ak) ⟨W.heap.size,by simp[ee],aq _⟩)
 ·have:W.heap.size=k:=by simpa[ee]using hk
  subst this;exact hfresh
 ·have h2:=World.ownsRow_lit (base:=base) (e:=e) (size:=d.sz) W inner.toArray xs.length hbase (by simpa[maxLen]using hm) (by simpa using hrep.1)
  simpa using h2
 ·refine hrep.imp_ (fun p c hp=>d.M_mono (fun k hk=>⟨hok k hk.1,fun he=> ?_⟩) (M_below (d.M_bound hp) (aT (ar _ _) _)))
  have h3:k=W.heap.size:=by simpa[ee]using he
  have:=hk.2.2.1;omega
theorem R_make_step (d:Kd α){w0 W:World}(base e:Nat)(hw:dq o (yielded ops a.tmps)=af){N:Tmp}(hd:o.dst=ag N)(t:TypeId)(x y:Operand)(ho:o.op=.makeSlice t x y)(n:Int)(hx:a.eval x=.int .i64 n)(hy:a.eval y=.int .i64 n)
 (ht:P.underlying t=ag (.slice e)) (z:Value) (bytes:Nat) (hinfo:(P.info? e).map (fun i=>(i.zero,i.size,i.bytes))=ag (ag z,d.sz,bytes)) (hz:z.cells.size=d.sz) (hs0:0<d.sz) (hb0:0<bytes)
 (z0:α) {ok okp:Nat->Prop} (hzero:d.M W base okp z0 z.cells.toList) (hok:∀k,okp k->ok k) (hfresh:ok W.heap.size) (h0:0<=n) (hl:n.toNat*bytes<=281474976710656) (HB:Below base w0 W) (hbase:base<=W.heap.size)
 (h:∀v1 w1,d.R e w1 base ok v1 (bg n.toNat z0)->Below base w0 w1->W.grownBy w1 ak->(∃b,v1.ownBlock=ag b/\W.heap.size<=b)->Kc (a.put o.dst v1) w1):if dq o (yielded ops a.tmps)=af then jm P o a W Kc Q else Kc (a.put o.dst undef) W:=by
 obtain⟨m,rfl⟩:=ew h0;simp only[ax]at hl h;obtain⟨i0,hi,hzz⟩:=iq.1 hinfo;simp only[Prod.mk.injEq]at hzz;obtain⟨hz0,hz1,hz2⟩:=hzz;have hm:m<=281474976710656:=bi (fu _ hb0) hl
 have hr:=run_make (P:=P) W t e i0 z ht hi hz0 .i64 .i64 (m:Int) (m:Int) (by omega) (by omega)
  (by
    have h3:((i0.bytes*m:Nat):Int)<=281474976710656:=by rw[hz2,Nat.mul_comm];omega
    rwa [iy]at h3) (by omega)
 simp only[ax]at hr;rw[hz1]at hr;refine iM d base e hw hd (xs:=bg m z0) (inner:=(madeCells z.cells (m*d.sz)).toList) (okp:=okp) (ok:=ok) ?_ (reps_made hz hs0 hzero m) hok hfresh HB hbase (by simp;omega) h;simp[execOp,ho,hx,hy,hr]
theorem dY (d:Kd α){Rr:α->List Value->Prop}{w0 W:World}(base:Nat)(hw:dq o (yielded ops a.tmps)=af)(s x:Operand)(t e:TypeId)(z:Value)(bytes:Nat)
 (ho:o.op=.call { callee:=.builtin .append,args:= #[s,x],argTypes:= #[t,t] })
 (ht:P.underlying t=ag (.slice e)) (hinfo:(P.info? e).map (fun i=>(i.zero,i.size,i.bytes))=ag (ag z,d.sz,bytes)) (hz:z.cells.size=d.sz) (hs0:0<d.sz) (hb0:0<bytes)
 (v:Value) (xs ys:List α) (A:Option Addr) (m c:Nat) (ok okp:Nat->Prop) (hs:a.eval s=v) (hx:a.eval x=.slice A m c)
 (HO:d.R e W base ok v xs) (HR:eQ Rr d.sz W A m ys) (hKM:∀x cs,Rr x cs->d.M W base okp x cs) (hokp:∀k,okp k->ok k/\ag k≠v.ownBlock) (hfresh:∀k,W.heap.size<=k->ok k)
 (HB:Below base w0 W) (hbase:base<=W.heap.size) (hl:(xs.length+m)*bytes<=140737488355328)
 (h:∀v1 w1,d.R e w1 base ok v1 (xs++ys)->Below base w0 w1->W.grownBy w1 v.ownBlock->(v1.ownBlock=v.ownBlock\/∃b,v1.ownBlock=ag b/\W.heap.size<=b)->Kc (a.put o.dst v1) w1):
 if dq o (yielded ops a.tmps)=af then jm P o a W Kc Q else Kc (a.put o.dst undef) W:=by
 obtain⟨i0,hi,hzz⟩:=iq.1 hinfo;simp only[Prod.mk.injEq]at hzz;obtain⟨hz0,hz1,hz2⟩:=hzz;have hm:ys.length=m:=HR.1;have hlen:xs.length+m<=140737488355328:=bi (fu _ hb0) hl;obtain⟨hok,inner,hown,hr⟩:=HO
 have hrun:∃v1 w1,(Builtin.append_ #[t,t] o.type #[v,.slice A m c]).run P W=.ok v1 w1/\d.R e w1 base ok v1 (xs++ys)/\W.grownBy w1 v.ownBlock/\(v1.ownBlock=v.ownBlock\/∃b,v1.ownBlock=ag b/\W.heap.size<=b):=by
  rcases A with _ | ad
  ·have h0:m=0:=by
    rcases cq m with h0 | h0
    ·exact h0
    ·obtain⟨ad,h,_⟩:=HR.2.2 h0;cases h
   subst h0;obtain rfl:ys=[]:=cw hm;refine⟨v,W,?_,by rw[ed];exact⟨hok,inner,hown,hr⟩,World.grownBy.refl W _,.inl rfl⟩
   rcases hown.2 with ⟨rfl,hn⟩ | ⟨g,cap,cur,rfl,_,_,hnc,_⟩
   ·simp[Builtin.append_,run_underlying ht,sizeOf,typeInfo,hi,Builtin.lenOf,Builtin.firstCells]
   ·simp[Builtin.append_,run_underlying ht,sizeOf,typeInfo,hi,Builtin.lenOf,Builtin.firstCells,hnc,storeCells]
  ·obtain⟨news,hnr,hnc⟩:=eQ.inner_ HR;have hnM:gQ (d.M W base okp) d.sz ys news:=hnr.imp_ (fun p c hp=>hKM p c hp)
   have hone:∀u∈news,u.oneCell'=af:=by
    intro u hu;obtain⟨q,hq,rfl⟩:=List.mem_iff_getElem.1 hu
    have hql:q / d.sz<ys.length:=by
     rw[Nat.div_lt_iff_lt_mul hs0];rw[←hnM.1];exact hq
    have hc:=hnM.2 (q / d.sz) _ (az hql);refine d.K_one (d.K_of_M hc) _ ?_;rw[List.mem_iff_getElem?];refine⟨q % d.sz,?_⟩;rw[ke,if_pos (ij _ hs0),List.getElem?_drop,Nat.mul_comm,Nat.div_add_mod,az hq]
   obtain⟨v1,w1,hrun,h2,hg,_,hat⟩:=run_append_own_at (P:=P) W base t o.type e i0 z d.sz bytes ht hi hz0 hz1 hz2 hz hs0 v xs.length inner hown ad m c news (by rw[hnM.1,hm]) hnc hone (by simp only[maxLen];omega) hl hbase
   have hat':v1.ownBlock=v.ownBlock\/∃b,v1.ownBlock=ag b/\W.heap.size<=b:=by
    rcases hat with hat | hat
    ·exact .inl hat
    ·exact .inr ⟨_,hat,aq _⟩
   have hne:∀k,ag k≠v.ownBlock->k<W.heap.size->ag k≠v1.ownBlock:=by
    intro k hk hlt
    rcases hat' with hat | ⟨b,hb,hle⟩
    ·rw[hat];exact hk
    ·rw[hb];intro he;injection he with he;omega
   have step:∀{q:α} {c:List Value} {o:Nat->Prop},d.M W base o q c->(∀k,o k->ok k/\ag k≠v.ownBlock)->d.M w1 base (fun k=>ok k/\ag k≠v1.ownBlock) q c:=by
    intro q c o hq ho;have h1:=d.M_move (w1:=w1) (fun k hk=>hg.block k hk.2.2.1 (ho k hk.1).2) (d.M_bound hq);exact d.M_mono (fun k hk=>⟨(ho k hk.1).1,hne k (ho k hk.1).2 hk.2.2.1⟩) h1
   refine⟨v1,w1,hrun,⟨fun k hk=> ?_,inner++news,by rw[ba,hm];exact h2,reps_append (hr.imp_ (fun _ _ hq=>step hq (fun _ hk=>hk))) (hnM.imp_ (fun _ _ hq=>step hq hokp))⟩,hg,hat'⟩
   rcases hat' with hat | ⟨b,hb,hle⟩
   ·exact hok k (hat ▸ hk)
   ·rw[hb]at hk;injection hk with hk;exact hfresh k (by omega)
 obtain⟨v1,w1,hr1,h1,hg,hat⟩:=hrun;rw[if_pos hw];unfold jm execOp;simp only[ho,resolve,invoke,builtin,Sem.run_bind,Sem.run_pure,Result.andThen_ok,cd,cg,db,hs,hx,hr1];exact h v1 w1 h1 (HB.grown hg hbase (kY hown)) hg hat
end Kd
end
end Go.Proofs.YtfigjpehecibeaaGreatW.PrintWords
end
namespace Go.Proofs.YtfigjpehecibeaaGreatW.PrintLast
section
variable {P:Program}{ops:Array Oper}{Q:Exit->Act->World->Prop}{md:kx}{S:World->Prop}{ds:List Nat}
def Region.reachB (md:kx)(ops:Array Oper)(i:Nat):Nat->Nat->Bool
 |0,_=>ac
 |fuel+1,d=>match ops[d]? with
  |some o=>o.after.any fun e=>Region.binds md e&&(e.on==i||Region.reachB md ops i fuel e.on)
  |none=>ac
def Region.closedB (md:kx)(ops:Array Oper)(listed:Array Bool):Bool:=
 (bu ops.size).all fun j=> !listed.getD j ac||match ops[j]? with
   |some o=>o.after.all fun e=> !Region.binds md e||listed.getD e.on ac
   |none=>af
def Region.lastB (md:kx)(ops:Array Oper)(listed:Array Bool)(ds:List Nat)(i:Nat):Bool:=
 ds.all fun d=>listed.getD d af||Region.reachB md ops i ops.size d
def eW (md:kx)(ops:Array Oper)(listed:Array Bool):Prop:=
 ∀j oj,ops[j]? =ag oj->listed.getD j ac=af->∀e∈oj.after,Region.binds md e=af->listed.getD e.on ac=af
theorem Region.closedB_spec {listed:Array Bool}(h:Region.closedB md ops listed=af):eW md ops listed:=by
 intro j oj hj hl e he hb;have hlt:j<ops.size:=(ck.1 hj).1;have h1:=fw.1 h j (jg.2 hlt);simp only[hl,hj,Bool.not_true,Bool.false_or]at h1;have h2:=Array.all_eq_true_iff_forall_mem.1 h1 e he
 simpa[hb]using h2
theorem eW.set {listed:Array Bool}{i:Nat}(h:eW md ops listed)(hi:i∈je md ops listed):eW md ops (listed.setIfInBounds i af):=by
 obtain⟨_,oi,hoi,hall⟩:=mem_ready.1 hi;intro j oj hj hl e he hb
 by_cases hij:i=j
 ·subst hij;have:oj=oi:=cf (hj.symm.trans hoi);subst this;exact getD_set_true (hall e he hb)
 ·rw[getD_set_ne ac hij]at hl;exact getD_set_true (h j oj hj hl e he hb)
theorem Region.reach_listed {listed:Array Bool}{i:Nat}(hc:eW md ops listed):∀(fuel d:Nat),Region.reachB md ops i fuel d=af->listed.getD d ac=af->listed.getD i ac=af
 |0,_,h,_=>by simp[Region.reachB]at h
 |fuel+1,d,h,hl=>by
  unfold Region.reachB at h
  cases ho:ops[d]? with
  |none=>rw[ho]at h;simp at h
  |some o=>
   rw[ho]at h;obtain⟨e,he,h1⟩:=Array.any_eq_true'.1 h;simp only[cb,Bool.or_eq_true,beq_iff_eq]at h1;have hle:=hc d o ho hl e he h1.1
   rcases h1.2 with h2 | h2
   ·rw[←h2];exact hle
   ·exact Region.reach_listed hc fuel e.on h2 hle
theorem Region.reach_not_ready {listed:Array Bool}{i d fuel:Nat}(hc:eW md ops listed)(hr:Region.reachB md ops i fuel d=af)(hun:listed.getD i af=ac):d ∉ je md ops listed:=by
 intro hd;obtain⟨_,o,ho,hall⟩:=mem_ready.1 hd
 have hi:listed.getD i ac=af:=by
  cases fuel with
  |zero=>simp[Region.reachB]at hr
  |succ n=>
   unfold Region.reachB at hr;rw[ho]at hr;obtain⟨e,he,h1⟩:=Array.any_eq_true'.1 hr;simp only[cb,Bool.or_eq_true,beq_iff_eq]at h1;have hle:=hall e he h1.1
   rcases h1.2 with h2 | h2
   ·rw[←h2];exact hle
   ·exact Region.reach_listed hc n e.on h2 hle
 rcases gu i listed.size with h' | h'
 ·simp[h']at hun hi;rw[hun]at hi;cases hi
 ·simp[Array.getElem?_eq_none h']at hun
def bD (P:Program)(md:kx)(ops:Array Oper)(Q:Exit->Act->World->Prop)(S:World->Prop)(ds:List Nat):Nat->Array Bool->Act->World->Prop
 |0,listed,a,w=>je md ops listed=[]/\Q .normal a w
 |fuel+1,listed,a,w=>
  (je md ops listed=[]->Q .normal a w)/\
  ∀i∈je md ops listed,wpOp P ops Q i (fun a' w'=>(i ∉ ds->S w->S w')/\bD P md ops Q S ds fuel (listed.setIfInBounds i af) a' w') a w
theorem oD:∀(fuel:Nat) (listed:Array Bool) (a:Act) (w:World),bD P md ops Q S ds fuel listed a w->wpAny P md ops Q fuel listed a w
 |0,_,_,_,h=>h
 |fuel+1,_,_,_,h=>⟨h.1,fun i hi=>wpOp_mono (fun a' w' h'=>oD fuel _ a' w' h'.2) (h.2 i hi)⟩
theorem rO {i:Nat}{oi:Oper}{v:Value}(hi:ops[i]? =ag oi)(hsel:∀(j:Nat) (o:Oper) cs b,ops[j]? =ag o->o.op≠ .select cs b)
 (hQ:∀c a w,Q (.panic c) (a.put oi.dst v) w->Q (.panic c) a w) (n:Nat):
 ∀(fuel:Nat) (listed:Array Bool) (a:Act) (w:World),
  (∀j oj,ops[j]? =ag oj->j≠i->listed.getD j af=ac->(∀e∈oj.after,Region.binds md e=af->e.on≠i)->oi.apart ops oj=af)->
  eW md ops listed->(∀d∈ds,listed.getD d af=ac->Region.reachB md ops i n d=af)->
  i∈je md ops listed->YieldsIf P ops S oi v a->S w->
  bD P md ops Q S ds fuel (listed.setIfInBounds i af) (a.put oi.dst v) w->bD P md ops Q S ds (fuel+1) listed a w:=by
 intro fuel
 induction fuel with
 |zero=>
  intro listed a w _ _ _ hr hy hS H;refine⟨fun h=>(by rw[h]at hr;cases hr),fun j hj=> ?_⟩
  by_cases hji:j=i
  ·subst hji;exact hy.wpOp hi hS ⟨fun _ h=>h,H⟩
  ·have:=ready_mono hj hji;rw[H.1]at this;cases this
 |succ fuel ih=>
  intro listed a w hfree hc hd hr hy hS H;refine⟨fun h=>(by rw[h]at hr;cases hr),fun j hj=> ?_⟩
  by_cases hji:j=i
  ·subst hji;exact hy.wpOp hi hS ⟨fun _ h=>h,H⟩
  ·have h1:=H.2 j (ready_mono hj hji);obtain⟨hjun,oj,hoj,hall⟩:=mem_ready.1 hj;have hiun:=(mem_ready.1 hr).1
   have hnot:∀e∈oj.after,Region.binds md e=af->e.on≠i:=fun e he hb heq=>by
    have h1:=hall e he hb;rw[heq]at h1
    rcases gu i listed.size with h' | h'
    ·simp[h']at hiun h1;rw[hiun]at h1;cases h1
    ·simp[Array.getElem?_eq_none h']at h1
   have hjd:j ∉ ds:=fun hm=>Region.reach_not_ready hc (hd j hm hjun) hiun hj;have h2:=wpOp_putIf hoj (hfree j oj hoj hji hjun hnot) (fun cs b=>hsel i oi cs b hi) (fun cs b=>hsel j oj cs b hoj) hQ hy h1
   have hfree':∀k ok,ops[k]? =ag ok->k≠i->(listed.setIfInBounds j af).getD k af=ac->
    (∀e∈ok.after,Region.binds md e=af->e.on≠i)->oi.apart ops ok=af:=fun k ok hk hki hun hno=>by
    refine hfree k ok hk hki ?_ hno
    by_cases hjk:j=k
    ·subst hjk;exact hjun
    ·rw[getD_set_ne af hjk]at hun;exact hun
   have hd':∀d∈ds,(listed.setIfInBounds j af).getD d af=ac->Region.reachB md ops i n d=af:=fun d hm hun=>by
    refine hd d hm ?_
    by_cases hjk:j=d
    ·subst hjk;exact hjun
    ·rw[getD_set_ne af hjk]at hun;exact hun
   refine wpOp_mono (fun a' w' h3=>⟨h3.2.1,ih (listed.setIfInBounds j af) a' w' hfree' (hc.set hj) hd' (ready_mono hr (Ne.symm hji)) h3.1 (h3.2.1 hjd hS) ?_⟩) h2;rw[Array.setIfInBounds_comm _ _ hji];exact h3.2.2
theorem wpAnyLast_any {i:Nat}{oi:Oper}{v:Value}(hi:ops[i]? =ag oi)(hsel:∀(j:Nat) (o:Oper) cs b,ops[j]? =ag o->o.op≠ .select cs b)
 (hQ:∀c a w,Q (.panic c) (a.put oi.dst v) w->Q (.panic c) a w):
 ∀(fuel:Nat) (listed:Array Bool) (a:Act) (w:World),
  (∀j oj,ops[j]? =ag oj->j≠i->listed.getD j af=ac->(∀e∈oj.after,Region.binds md e=af->e.on≠i)->oi.apart ops oj=af)->
  i∈je md ops listed->Yields P ops oi v a->
  bD P md ops Q S ds fuel (listed.setIfInBounds i af) (a.put oi.dst v) w->bD P md ops Q S ds (fuel+1) listed a w:=by
 intro fuel
 induction fuel with
 |zero=>
  intro listed a w _ hr hy H;refine⟨fun h=>(by rw[h]at hr;cases hr),fun j hj=> ?_⟩
  by_cases hji:j=i
  ·subst hji;exact(hy.yieldsIf (S:=fun _=>True)).wpOp hi trivial ⟨fun _ h=>h,H⟩
  ·have:=ready_mono hj hji;rw[H.1]at this;cases this
 |succ fuel ih=>
  intro listed a w hfree hr hy H;refine⟨fun h=>(by rw[h]at hr;cases hr),fun j hj=> ?_⟩
  by_cases hji:j=i
  ·subst hji;exact(hy.yieldsIf (S:=fun _=>True)).wpOp hi trivial ⟨fun _ h=>h,H⟩
  ·have h1:=H.2 j (ready_mono hj hji);obtain⟨hjun,oj,hoj,hall⟩:=mem_ready.1 hj;have hiun:=(mem_ready.1 hr).1
   have hnot:∀e∈oj.after,Region.binds md e=af->e.on≠i:=fun e he hb heq=>by
    have h1:=hall e he hb;rw[heq]at h1
    rcases gu i listed.size with h' | h'
    ·simp[h']at hiun h1;rw[hiun]at h1;cases h1
    ·simp[Array.getElem?_eq_none h']at h1
   have h2:=wpOp_put hoj (hfree j oj hoj hji hjun hnot) (fun cs b=>hsel i oi cs b hi) (fun cs b=>hsel j oj cs b hoj) hQ hy h1
   have hfree':∀k ok,ops[k]? =ag ok->k≠i->(listed.setIfInBounds j af).getD k af=ac->
    (∀e∈ok.after,Region.binds md e=af->e.on≠i)->oi.apart ops ok=af:=fun k ok hk hki hun hno=>by
    refine hfree k ok hk hki ?_ hno
    by_cases hjk:j=k
    ·subst hjk;exact hjun
    ·rw[getD_set_ne af hjk]at hun;exact hun
   refine wpOp_mono (fun a' w' h3=>⟨h3.2.1,ih (listed.setIfInBounds j af) a' w' hfree' (ready_mono hr (Ne.symm hji)) h3.1 ?_⟩) h2;rw[Array.setIfInBounds_comm _ _ hji];exact h3.2.2
theorem wpAnyLast_take {i:Nat}{oi:Oper}{v:Value}{fuel:Nat}{listed:Array Bool}{a:Act}{w:World}(hi:ops[i]? =ag oi)
 (hs:Region.noSelect ops=af) (hf:Region.free md ops listed i=af) (hr:(je md ops listed).contains i=af)
 (hc:Region.closedB md ops listed=af) (hl:Region.lastB md ops listed ds i=af)
 (hQ:∀c a w,Q (.panic c) (a.put oi.dst v) w->Q (.panic c) a w) (hy:YieldsIf P ops S oi v a) (hS:S w)
 (h:bD P md ops Q S ds fuel (listed.setIfInBounds i af) (a.put oi.dst v) w):bD P md ops Q S ds (fuel+1) listed a w:=
 rO hi (Region.noSelect_spec hs) hQ ops.size fuel listed a w (Region.free_spec hi hf) (Region.closedB_spec hc)
  (fun d hm hun=>by have:=fw.1 hl d hm;rw[hun]at this;simpa using this) (by simpa using hr) hy hS h
theorem wpAnyLast_all {rs:List Nat}{fuel:Nat}{listed:Array Bool}{a:Act}{w:World}(hr:je md ops listed=rs)(hne:rs≠[])
 (h:∀i∈rs,wpOp P ops Q i (fun a' w'=>(i ∉ ds->S w->S w')/\bD P md ops Q S ds fuel (listed.setIfInBounds i af) a' w') a w):bD P md ops Q S ds (fuel+1) listed a w:=
 ⟨fun h0=>absurd (hr ▸ h0) hne,hr ▸ h⟩
theorem wpAnyLast_done {listed:Array Bool}{a:Act}{w:World}(hr:je md ops listed=[])(h:Q .normal a w):
 ∀fuel,bD P md ops Q S ds fuel listed a w
 |0=>⟨hr,h⟩
 |_+1=>⟨fun _=>h,by rw[hr];simp⟩
theorem wp_region_last {id:Nat}{a:Act}{w:World}(hm:P.follows .mixedOrders=af)
 (h:bD P .any ops Q S ds ops.size (Array.replicate ops.size ac) a { w with drawn:=w.drawn+1 }):(Code.region id ops af).wp P Q a w:=
 wp_region_any hm (oD _ _ _ _ h)
end
section
variable {P:Program}{ops:Array Oper}{Q:Exit->Act->World->Prop}{md:kx}{S:World->Prop}{ds:List Nat}
def dD (P:Program)(md:kx)(ops:Array Oper)(Q:Exit->Act->World->Prop)(S:World->Prop)(ds:List Nat)(fuel:Nat)(listed:Array Bool)(a:Act)(w:World)(rs:List Nat):Prop:=
 ∀i∈rs,wpOp P ops Q i (fun a' w'=>(i ∉ ds->S w->S w')/\bD P md ops Q S ds fuel (listed.setIfInBounds i af) a' w') a w
theorem dD.nil {fuel:Nat}{listed:Array Bool}{a:Act}{w:World}:dD P md ops Q S ds fuel listed a w []:=fun _ h=>by cases h
theorem dD.cons {fuel:Nat}{listed:Array Bool}{a:Act}{w:World}{i:Nat}{o:Oper}{rs:List Nat}(ho:ops[i]? =ag o)(hd:i ∉ ds)
 (h:∀K':Act->World->Prop,Shut (∀a w,S w->(S w->bD P md ops Q S ds fuel (listed.setIfInBounds i af) a w)->K' a w)->if dq o (yielded ops a.tmps)=af then jm P o a w K' Q else K' (a.put o.dst undef) w)
 (hs:dD P md ops Q S ds fuel listed a w rs):dD P md ops Q S ds fuel listed a w (i::rs):=fun j hj=>by
 rcases iv.1 hj with rfl | hj
 ·exact wpOp_step ho (fun K' hK=>h K' (fun a w hS hW=>hK a w ⟨fun _ _=>hS,hW hS⟩))
 ·exact hs j hj
theorem dD.cons_last {fuel:Nat}{listed:Array Bool}{a:Act}{w:World}{i:Nat}{o:Oper}{rs:List Nat}(ho:ops[i]? =ag o)(hd:i∈ds)
 (h:∀K':Act->World->Prop,Shut (∀a w,bD P md ops Q S ds fuel (listed.setIfInBounds i af) a w->K' a w)->if dq o (yielded ops a.tmps)=af then jm P o a w K' Q else K' (a.put o.dst undef) w)
 (hs:dD P md ops Q S ds fuel listed a w rs):dD P md ops Q S ds fuel listed a w (i::rs):=fun j hj=>by
 rcases iv.1 hj with rfl | hj
 ·exact wpOp_step ho (fun K' hK=>h K' (fun a w hW=>hK a w ⟨fun hn=>absurd hd hn,hW⟩))
 ·exact hs j hj
theorem jC {rs:List Nat}{fuel:Nat}{listed:Array Bool}{a:Act}{w:World}(hr:je md ops listed=rs)(hne:rs≠[])
 (h:dD P md ops Q S ds fuel listed a w rs):bD P md ops Q S ds (fuel+1) listed a w:=wpAnyLast_all hr hne h
theorem eP {id n:Nat}{a:Act}{w:World}(l:Array Bool)(hm:P.follows .mixedOrders=af)(hn:ops.size=n)(hl:Array.replicate n ac=l)(hS:S w.drew)
 (h:S w.drew->bD P .any ops Q S ds n l a w.drew):(Code.region id ops af).wp P Q a w:=by
 subst hn;subst hl;exact wp_region_last hm (h hS)
def takeB (md:kx)(ops:Array Oper)(ds:List Nat)(l l':Array Bool)(i:Nat):Bool:=
 Region.noSelect ops&&Region.free md ops l i&&(je md ops l).contains i&&Region.closedB md ops l&&Region.lastB md ops l ds i&&(l.setIfInBounds i af==l')
theorem cY {i:Nat}{N:Option Tmp}{oi:Oper}{v:Value}{fuel:Nat}{l:Array Bool}{a:Act}{w:World}(l':Array Bool)(hi:ops[i]? =ag oi)(hN:oi.dst=N)(hc:takeB md ops ds l l' i=af)
 (hQ:∀c a w,Q (.panic c) (a.put oi.dst v) w->Q (.panic c) a w) (hy:YieldsIf P ops S oi v a) (hS:S w) {a':Act} (ha:a.put N v=a')
 (h:bD P md ops Q S ds fuel l' a' w):bD P md ops Q S ds (fuel+1) l a w:=by
 subst ha;subst hN;simp only[takeB,cb,beq_iff_eq]at hc;obtain⟨⟨⟨⟨⟨h1,h2⟩,h3⟩,h4⟩,h5⟩,h6⟩:=hc;subst h6;exact wpAnyLast_take hi h1 h2 h3 h4 h5 hQ hy hS h
def anyB (md:kx)(ops:Array Oper)(l l':Array Bool)(i:Nat):Bool:=
 Region.noSelect ops&&Region.free md ops l i&&(je md ops l).contains i&&(l.setIfInBounds i af==l')
theorem aP {i:Nat}{N:Option Tmp}{oi:Oper}{v:Value}{fuel:Nat}{l:Array Bool}{a:Act}{w:World}(l':Array Bool)(hi:ops[i]? =ag oi)(hN:oi.dst=N)(hc:anyB md ops l l' i=af)
 (hQ:∀c a w,Q (.panic c) (a.put oi.dst v) w->Q (.panic c) a w) (hy:Yields P ops oi v a) {a':Act} (ha:a.put N v=a')
 (h:bD P md ops Q S ds fuel l' a' w):bD P md ops Q S ds (fuel+1) l a w:=by
 subst ha;subst hN;simp only[anyB,cb,beq_iff_eq]at hc;obtain⟨⟨⟨h1,h2⟩,h3⟩,h6⟩:=hc;subst h6;exact wpAnyLast_any hi (Region.noSelect_spec h1) hQ fuel l a w (Region.free_spec hi h2) (by simpa using h3) hy h
def readyB (md:kx)(ops:Array Oper)(l l':Array Bool)(i:Nat):Bool:=(je md ops l==[i])&&(l.setIfInBounds i af==l')
theorem kH {i:Nat}{N:Option Tmp}{oi:Oper}{fuel:Nat}{l:Array Bool}{a:Act}{w:World}(l':Array Bool)(hi:ops[i]? =ag oi)(hN:oi.dst=N)(hc:readyB md ops l l' i=af)(hd:i ∉ ds)
 (h:∀K:Act->World->Prop,Shut (∀a' w',S w'->(S w'->bD P md ops Q S ds fuel l' a' w')->K a' w')->if dq oi (yielded ops a.tmps)=af then jm P oi a w K Q else K (a.put N undef) w):
 bD P md ops Q S ds (fuel+1) l a w:=by
 subst hN;simp only[readyB,cb,beq_iff_eq]at hc;obtain⟨h1,h2⟩:=hc;subst h2;exact jC h1 (by simp) (dD.cons hi hd (fun K hK=>h K hK) dD.nil)
theorem o4 {i:Nat}{N:Option Tmp}{oi:Oper}{fuel:Nat}{l:Array Bool}{a:Act}{w:World}(l':Array Bool)(hi:ops[i]? =ag oi)(hN:oi.dst=N)(hc:readyB md ops l l' i=af)(hd:i∈ds)
 (h:∀K:Act->World->Prop,Shut (∀a' w',bD P md ops Q S ds fuel l' a' w'->K a' w')->if dq oi (yielded ops a.tmps)=af then jm P oi a w K Q else K (a.put N undef) w):
 bD P md ops Q S ds (fuel+1) l a w:=by
 subst hN;simp only[readyB,cb,beq_iff_eq]at hc;obtain⟨h1,h2⟩:=hc;subst h2;exact jC h1 (by simp) (dD.cons_last hi hd (fun K hK=>h K hK) dD.nil)
theorem iF {l:Array Bool}{a:Act}{w:World}{n:Nat}(hr:(je md ops l==[])=af)(h:Q .normal a w):bD P md ops Q S ds n l a w:=wpAnyLast_done (by simpa using hr) h n
theorem two_ {i j:Nat}{Ni Nj:Option Tmp}{oi oj:Oper}{fuel:Nat}{l:Array Bool}{a:Act}{w:World}(li lj:Array Bool)(hi:ops[i]? =ag oi)(hj:ops[j]? =ag oj)(hNi:oi.dst=Ni)(hNj:oj.dst=Nj)
 (hc:(je md ops l==[i,j]&&l.setIfInBounds i af==li&&l.setIfInBounds j af==lj)=af) (hdi:i ∉ ds) (hdj:j ∉ ds)
 (h1:∀K:Act->World->Prop,Shut (∀a' w',S w'->(S w'->bD P md ops Q S ds fuel li a' w')->K a' w')->if dq oi (yielded ops a.tmps)=af then jm P oi a w K Q else K (a.put Ni undef) w)
 (h2:∀K:Act->World->Prop,Shut (∀a' w',S w'->(S w'->bD P md ops Q S ds fuel lj a' w')->K a' w')->if dq oj (yielded ops a.tmps)=af then jm P oj a w K Q else K (a.put Nj undef) w):
 bD P md ops Q S ds (fuel+1) l a w:=by
 subst hNi;subst hNj;simp only[cb,beq_iff_eq]at hc;obtain⟨⟨h3,h4⟩,h5⟩:=hc;subst h4;subst h5;exact jC h3 (by simp) (dD.cons hi hdi (fun K hK=>h1 K hK) (dD.cons hj hdj (fun K hK=>h2 K hK) dD.nil))
def i9:Act->List (Tmp × Value)->Act
 |a,[]=>a
 |a,(n,v)::r=>i9 (a.put (ag n) v) r
theorem join_ {σ:Type}{fuel:Nat}{l:Array Bool}{a:Act}{w:World}(fuel':Nat)(l':Array Bool)(ns:σ->List (Tmp × Value))(F:σ->World->Prop)
 (hcont:∀s w',F s w'->bD P md ops Q S ds fuel' l' (i9 a (ns s)) w')
 (h:(∀s w',F s w'->bD P md ops Q S ds fuel' l' (i9 a (ns s)) w')->bD P md ops Q S ds fuel l a w):bD P md ops Q S ds fuel l a w:=h hcont
theorem cW {fuel:Nat}{l:Array Bool}{a a':Act}{w:World}(ha:a=a')(h:bD P md ops Q S ds fuel l a' w):bD P md ops Q S ds fuel l a w:=by
 subst ha;exact h
theorem call_ {oi:Oper}{N:Option Tmp}{a:Act}{w:World}{K:Act->World->Prop}(f:FuncId)(args:Array Value)(hw:dq oi (yielded ops a.tmps)=af)(hN:oi.dst=N)(hrun:(execOp a.eval oi).run P w=.ok (.enter f args) w)
 (h:Calls P f args w fun e w'=>∃v,e=.returned v/\K (a.put N v) w'):if dq oi (yielded ops a.tmps)=af then jm P oi a w K Q else K (a.put N undef) w:=by
 rw[if_pos hw];subst hN;unfold jm;rw[hrun,Oper.upon_enter];refine h.mono fun e w'' hh=> ?_;obtain⟨v,rfl,hk⟩:=hh;exact hk
theorem enters_ {f:FuncId}{fn:Func}(hf:P.funcs[f]? =ag fn)(hname:(fn.name== "runtime.NumGoroutine")=ac)(hb:fn.body.isSome=af)(args:Array Value)(w:World):(callFunc f args).run P w=.ok (.enter f args) w:=by
 have h1:fn.name≠ "runtime.NumGoroutine" :=by simpa using hname
 obtain⟨c,hc⟩:=Option.isSome_iff_exists.1 hb;simp[callFunc,hf,h1,hc]
theorem iP {oi:Oper}{N:Option Tmp}{a:Act}{w:World}{K:Act->World->Prop}{f:FuncId}{fn:Func}{as:Array Operand}{ts:Array TypeId}(hf:P.funcs[f]? =ag fn)(hname:(fn.name== "runtime.NumGoroutine")=ac)(hb:fn.body.isSome=af)(args:Array Value)
 (hw:dq oi (yielded ops a.tmps)=af) (hN:oi.dst=N) (hop:oi.op=.call { callee:=.value (.func f),args:=as,argTypes:=ts }) (hargs:as.map a.eval=args)
 (h:Calls P f args w fun e w'=>∃v,e=.returned v/\K (a.put N v) w'):if dq oi (yielded ops a.tmps)=af then jm P oi a w K Q else K (a.put N undef) w:=by
 refine call_ f args hw hN ?_ h;have he:=enters_ hf hname hb args w;unfold execOp;simp[hop,resolve,Deferred.ofValue,invoke,Act.eval,hargs,he]
theorem nY {rest:List Oper}{oi:Oper}{a:Act}{w:World}(N:Option Tmp)(hd:oi.dst=N)(hg:oi.guard=ak){f:FuncId}{fn:Func}{as:Array Operand}{ts:Array TypeId}(hf:P.funcs[f]? =ag fn)(hname:(fn.name== "runtime.NumGoroutine")=ac)(hb:fn.body.isSome=af)(args:Array Value)
 (hop:oi.op=.call { callee:=.value (.func f),args:=as,argTypes:=ts }) (hargs:as.map a.eval=args)
 (h:Calls P f args w fun e w'=>∃v,e=.returned v/\wpList P ops Q rest (a.put N v) w'):wpList P ops Q (oi::rest) a w:=by
 refine wpList_plain hg fun K hK=> ?_;have he:=enters_ hf hname hb args w
 have hrun:(execOp a.eval oi).run P w=.ok (.enter f args) w:=by
  unfold execOp;simp[hop,resolve,Deferred.ofValue,invoke,Act.eval,hargs,he]
 unfold jm;rw[hrun,Oper.upon_enter];refine h.mono fun e w'' hh=> ?_;obtain⟨v,rfl,hk⟩:=hh;subst hd;exact hK _ _ hk
theorem skip_ {oi:Oper}{a:Act}{w w1:World}{K:Act->World->Prop}(hw:dq oi (yielded ops a.tmps)=af)(hN:oi.dst=ak)(hrun:(execOp a.eval oi).run P w=.ok .skip w1)
 (h:K a w1):if dq oi (yielded ops a.tmps)=af then jm P oi a w K Q else K (a.put ak undef) w:=by
 rw[if_pos hw];unfold jm;rw[hrun]
 show K (a.put oi.dst undef) w1
 rw[hN];exact h
theorem aJ (n:Int):IntKind.i64.wrap n=Go.RowKit.wrap64 n:=by unfold Go.RowKit.wrap64;exact IntKind.wrap_i64 n
theorem aK (n:Int):IntKind.i32.wrap n=Go.RowKit.wrap32 n:=by unfold Go.RowKit.wrap32;exact IntKind.wrap_i32 n
end
end Go.Proofs.YtfigjpehecibeaaGreatW.PrintLast
section
namespace Go.Proofs.YtfigjpehecibeaaGreatW.PrintWords
open Go.RowKit
namespace Kd
def tag {α:Type}(f:Nat->Nat)(d:Kd α):Kd (α × Nat) where
 sz:=d.sz
 E:=d.E
 K:=fun w x cs=>d.K w x.1 cs
 M:=fun w base ok x cs=>d.M w base (fun k=>ok k/\f k=x.2) x.1 cs
 K_len:=fun h=>d.K_len h
 K_one:=fun h=>d.K_one h
 K_below:=fun hb h=>d.K_below hb h
 K_of_M:=fun h=>d.K_of_M h
 M_mono:=fun hok h=>d.M_mono (fun k hk=>⟨hok k hk.1,hk.2⟩) h
 M_bound:=fun h=>d.M_mono (fun _ hk=>⟨⟨hk.1.1,hk.2⟩,hk.1.2⟩) (d.M_bound h)
 M_move:=fun hm h=>d.M_move (fun k hk=>hm k hk.1) h
 M_lower:=fun hb h=>d.M_lower hb h
def raw (sz:Nat):Kd (List Value) where
 sz:=sz
 E:=[]
 K:=fun _ x cs=>cs=x/\cs.length=sz/\∀u∈cs,u.oneCell'=af
 M:=fun _ _ _ x cs=>cs=x/\cs.length=sz/\∀u∈cs,u.oneCell'=af
 K_len:=fun h=>h.2.1
 K_one:=fun h=>h.2.2
 K_below:=fun _ h=>h
 K_of_M:=fun h=>h
 M_mono:=fun _ h=>h
 M_bound:=fun h=>h
 M_move:=fun _ h=>h
 M_lower:=fun _ h=>h
def S {α:Type}(d:Kd α)(e:Nat)(w:World)(base:Nat)(ok:Nat->Prop)(v:Value)(xs:List α):Prop:=∃f,(tag f d).R e w base ok v xs.zipIdx
def gap {α:Type}(f:Nat->Nat)(d:Kd α)(i:Nat)(c:List Value):Kd (α × Nat) where
 sz:=d.sz
 E:=d.E
 K:=fun w x cs=>(x.2=i->cs=c/\cs.length=d.sz/\∀u∈cs,u.oneCell'=af)/\(x.2≠i->d.K w x.1 cs)
 M:=fun w base ok x cs=>(x.2=i->cs=c/\cs.length=d.sz/\∀u∈cs,u.oneCell'=af)/\(x.2≠i->d.M w base (fun k=>ok k/\f k=x.2) x.1 cs)
 K_len:=fun{w x cs} h=>by
  by_cases hx:x.2=i
  ·exact(h.1 hx).2.1
  ·exact d.K_len (h.2 hx)
 K_one:=fun{w x cs} h=>by
  by_cases hx:x.2=i
  ·exact(h.1 hx).2.2
  ·exact d.K_one (h.2 hx)
 K_below:=fun hb h=>⟨h.1,fun hx=>d.K_below hb (h.2 hx)⟩
 K_of_M:=fun h=>⟨h.1,fun hx=>d.K_of_M (h.2 hx)⟩
 M_mono:=fun hok h=>⟨h.1,fun hx=>d.M_mono (fun k hk=>⟨hok k hk.1,hk.2⟩) (h.2 hx)⟩
 M_bound:=fun h=>⟨h.1,fun hx=>d.M_mono (fun _ hk=>⟨⟨hk.1.1,hk.2⟩,hk.1.2⟩) (d.M_bound (h.2 hx))⟩
 M_move:=fun hm h=>⟨h.1,fun hx=>d.M_move (fun k hk=>hm k hk.1) (h.2 hx)⟩
 M_lower:=fun hb h=>⟨h.1,fun hx=>d.M_lower hb (h.2 hx)⟩
def H {α:Type}(d:Kd α)(e:Nat)(w:World)(base:Nat)(ok:Nat->Prop)(v:Value)(xs:List α)(i:Int)(oki:Nat->Prop)(c:List Value):Prop:=
 (∀k,oki k->ok k)/\∃f,(gap f d i.toNat c).R e w base (fun k=>ok k/\¬oki k) v xs.zipIdx
end Kd
end Go.Proofs.YtfigjpehecibeaaGreatW.PrintWords
end
section
namespace Go.Proofs.YtfigjpehecibeaaGreatW.PrintWords
open Go.RowKit
def Foot (P:World->Prop)(W:World)(ok:Nat->Prop):Prop:=∀W':World,(∀k,ok k->k<W.heap.size->W'.heap[k]? =W.heap[k]?)->P W'
theorem heap_lt {W W1:World}{k:Nat}(h:W1.heap[k]? =W.heap[k]?)(hlt:k<W.heap.size):k<W1.heap.size:=by
 rw[Array.getElem?_eq_getElem hlt]at h;exact(ck.1 h).1
namespace Foot
variable {P Q:World->Prop}{W W1:World}{ok ok':Nat->Prop}
theorem mono (h:Foot P W ok)(hok:∀k,ok k->ok' k):Foot P W ok':=fun W' hW=>h W' (fun k hk hlt=>hW k (hok k hk) hlt)
theorem step (h:Foot P W ok)(hm:∀k,ok k->k<W.heap.size->W1.heap[k]? =W.heap[k]?):Foot P W1 ok:=fun W' hW=>h W' (fun k hk hlt=>(hW k hk (heap_lt (hm k hk hlt) hlt)).trans (hm k hk hlt))
theorem imp (h:Foot P W ok)(hi:∀W',P W'->Q W'):Foot Q W ok:=fun W' hW=>hi W' (h W' hW)
end Foot
namespace Kd
def F {α:Type}(d:Kd α)(W:World)(ok:Nat->Prop)(A:Option Addr)(n:Nat)(xs:List α):Prop:=Foot (fun W=>d.C W A n xs) W ok
def FK {α:Type}(d:Kd α)(W:World)(ok:Nat->Prop)(x:α)(c:List Value):Prop:=Foot (fun W=>d.K W x c) W ok
end Kd
end Go.Proofs.YtfigjpehecibeaaGreatW.PrintWords
end
section
namespace Go.Proofs.YtfigjpehecibeaaGreatW.PrintWords
open Go.RowKit
namespace Kd
section
variable {α:Type}{d:Kd α}{e base n cc g:Nat}{ok ok' okp S:Nat->Prop}{w w1 W W1:World}{A:Option Addr}{u v v1:Value}{xs:List α}{x:α}{c:List Value}
def N {α:Type}(d:Kd α)(e:Nat)(w:World)(base:Nat)(ok:Nat->Prop)(v:Value)(xs:List α):Prop:=
 (∀k,v.ownBlock=ag k->ok k)/\∃rows:List (List Value),rows.length=xs.length/\(raw d.sz).R e w base (fun k=>ag k=v.ownBlock) v rows/\∀(j:Nat) (x:α) (c:List Value),xs[j]? =ag x->rows[j]? =ag c->FK d w (fun k=>ok k/\ag k≠v.ownBlock) x c
end
end Kd
end Go.Proofs.YtfigjpehecibeaaGreatW.PrintWords
end
section
namespace Go.Proofs.YtfigjpehecibeaaGreatW.PrintMore
open Go.RowKit Go.Proofs.YtfigjpehecibeaaGreatW.PrintWords
theorem jJ (k k':IntKind)(x y:Int):Builtin.max2 (.int k x) (.int k' y)=pure (.int k (if x<y then y else x)):=by simp only[Builtin.max2,gt_iff_lt]
theorem gV (k k':IntKind)(x y:Int):Builtin.min2 (.int k x) (.int k' y)=pure (.int k (if y<x then y else x)):=by simp only[Builtin.min2]
theorem lV (ats:Array TypeId)(ty:TypeId)(a b:Value):Builtin.max_ ats ty #[a,b]=(Builtin.max2 a b >>= fun s=>pure s):=by simp only[Builtin.max_,List.foldlM_cons,List.foldlM_nil]
theorem j4 (ats:Array TypeId)(ty:TypeId)(a b:Value):Builtin.min_ ats ty #[a,b]=(Builtin.min2 a b >>= fun s=>pure s):=by simp only[Builtin.min_,List.foldlM_cons,List.foldlM_nil]
theorem gY (ats:Array TypeId)(ty:TypeId)(a b c:Value):Builtin.max_ ats ty #[a,b,c]=(Builtin.max2 a b >>= fun s=>Builtin.max2 s c >>= fun s=>pure s):=by simp only[Builtin.max_,List.foldlM_cons,List.foldlM_nil]
theorem iB (ats:Array TypeId)(ty:TypeId)(a b c:Value):Builtin.min_ ats ty #[a,b,c]=(Builtin.min2 a b >>= fun s=>Builtin.min2 s c >>= fun s=>pure s):=by simp only[Builtin.min_,List.foldlM_cons,List.foldlM_nil]
theorem jU (ats:Array TypeId)(ty:TypeId)(a b c d:Value):Builtin.max_ ats ty #[a,b,c,d]=(Builtin.max2 a b >>= fun s=>Builtin.max2 s c >>= fun s=>Builtin.max2 s d >>= fun s=>pure s):=by simp only[Builtin.max_,List.foldlM_cons,List.foldlM_nil]
theorem jQ (ats:Array TypeId)(ty:TypeId)(a b c d:Value):Builtin.min_ ats ty #[a,b,c,d]=(Builtin.min2 a b >>= fun s=>Builtin.min2 s c >>= fun s=>Builtin.min2 s d >>= fun s=>pure s):=by simp only[Builtin.min_,List.foldlM_cons,List.foldlM_nil]
end Go.Proofs.YtfigjpehecibeaaGreatW.PrintMore
namespace Go.Proofs.YtfigjpehecibeaaGreatW.PrintWords
open Go.RowKit
section
variable {P:Program}{ops:Array Oper}{rest:List Oper}{o:Oper}{a:Act}{Q:Exit->Act->World->Prop}{W:World}
theorem eK {f:FuncId}{as:Array Operand}{ts:Array TypeId}(_ho:o.op=.call { callee:=.value (.func f),args:=as,argTypes:=ts })(h:wpList P ops Q (o::rest) a W):wpList P ops Q (o::rest) a W:=h
theorem eY {b:Builtin}{xs:Array Operand}{ts:Array TypeId}(_ho:o.op=.call { callee:=.builtin b,args:=xs,argTypes:=ts })(h:wpList P ops Q (o::rest) a W):wpList P ops Q (o::rest) a W:=h
end
def mx (a b:Int):Int:=if a<b then b else a
def mn (a b:Int):Int:=if b<a then b else a
def shl (k:IntKind)(x y:Int):Int:=k.wrap (x*2 ^ min y.toNat k.bits)
def shr (k:IntKind)(x y:Int):Int:=x / 2 ^ min y.toNat k.bits
theorem shl_small {k:IntKind}{x y j:Int}(h:shl k x y=j)(hy:y<=k.bits):k.wrap (x*2 ^ y.toNat)=j:=by rw[←h];unfold shl;rw[di (by omega)]
end Go.Proofs.YtfigjpehecibeaaGreatW.PrintWords
namespace Go.Proofs.YtfigjpehecibeaaGreatW.PrintWords
open Go.RowKit
namespace Kd
def V {α:Type}(d:Kd α)(_e:Nat)(W:World)(_base:Nat)(ok:Nat->Prop)(v:Value)(xs:List α):Prop:=∃A c,v=.slice A xs.length c/\xs.length<=c/\F d W ok A xs.length xs
end Kd
end Go.Proofs.YtfigjpehecibeaaGreatW.PrintWords
end
namespace Go.Proofs.YtfigjpehecibeaaGreatW.PrintLast
open Go.Proofs.YtfigjpehecibeaaGreatW.PrintWords (Aside0)
section
variable {md:kx}{ops:Array Oper}{T:Bool × List (List Nat × List Nat)}{l l' li lj lk:Array Bool}{ds:List Nat}{i j k:Nat}
theorem gd (l:Array Bool)(j:Nat)(b:Bool):l.getD j b=l.toList.getD j b:=by simp[Array.getD_eq_getD_getElem?,aw]
end
end Go.Proofs.YtfigjpehecibeaaGreatW.PrintLast
namespace Go.Proofs.YtfigjpehecibeaaGreatW.PrintWords
open Go.RowKit
section
variable {P:Program}{d:Nat}{xs ys:Array Value}{f:Field}{fs:List Field}{a b:Value}{r s:Bool}{w:World}
theorem eqf_last (hn:(f.name== "_")=ac)(ha:(part f.type xs f.offset).run P w=.ok a w)(hb:(part f.type ys f.offset).run P w=.ok b w)(he:(Op.equalIn d f.type a b).run P w=.ok r w):(Op.eqFields d xs ys [f]).run P w=.ok r w:=by
 have hn':f.name≠ "_" :=by simpa using hn
 simp only[Op.eqFields,if_pos hn',Sem.run_bind,ha,hb,he,Result.andThen_ok]
 cases r <;> simp
theorem eqf_cons (hn:(f.name== "_")=ac)(ha:(part f.type xs f.offset).run P w=.ok a w)(hb:(part f.type ys f.offset).run P w=.ok b w)(he:(Op.equalIn d f.type a b).run P w=.ok r w)(hr:(Op.eqFields d xs ys fs).run P w=.ok s w):(Op.eqFields d xs ys (f::fs)).run P w=.ok (r&&s) w:=by
 have hn':f.name≠ "_" :=by simpa using hn
 rw[Op.eqFields];simp only[if_pos hn',Sem.run_bind,ha,hb,he,Result.andThen_ok];cases r
 ·simp
 ·simpa using hr
theorem eqA_of {t:TypeId}{fs:Array Field}(hu:P.underlying t=ag (.struct fs))(hp:P.stoodInHeld t=ac)(h:(Op.eqFields d xs ys fs.toList).run P w=.ok r w):(Op.equalIn (d+1) t (.agg xs) (.agg ys)).run P w=.ok r w:=by
 have hf:P.fieldsOf t=fs:=by simp[Program.fieldsOf,hu]
 rw[run_equalIn_struct (P:=P) w d t xs ys (by rw[hf];exact hu) hp,hf];exact h
end
end Go.Proofs.YtfigjpehecibeaaGreatW.PrintWords
namespace Go.Proofs.YtfigjpehecibeaaGreatW.PrintWords
theorem gQ.one {α:Type}{R:α->List Value->Prop}{ps:List α}{cs:List Value}{p:α}{v:Value}(hp:R p [v])(h:gQ R 1 ps cs):gQ R 1 (p::ps) (v::cs):=by
 refine⟨by simp[h.1],fun j q hq=> ?_⟩
 cases j with
 |zero=>
  simp only[List.getElem?_cons_zero,Option.some.injEq]at hq;subst hq
  simpa using hp
 |succ j=>
  simp only[List.getElem?_cons_succ]at hq;have h1:=h.2 j q hq
  simpa[ib]using h1
end Go.Proofs.YtfigjpehecibeaaGreatW.PrintWords
namespace Go.Proofs.YtfigjpehecibeaaGreatW.PrintLast
def up (b:Nat->Bool)(i:Nat):Nat->Bool:=fun j=>if j=i then af else b j
end Go.Proofs.YtfigjpehecibeaaGreatW.PrintLast
namespace Go.Proofs.YtfigjpehecibeaaGreatW.PrintWords
open Go.RowKit
section
variable {P:Program}{ops:Array Oper}{rest:List Oper}{o:Oper}{a:Act}{Q:Exit->Act->World->Prop}{W:World}
theorem oT (hw:dq o (yielded ops a.tmps)=af)(h:wpList P ops Q ({ o with guard:=ak }::rest) a W):wpList P ops Q (o::rest) a W:=by
 have h1:dq { o with guard:=ak } (yielded ops a.tmps)=af:=rfl;unfold wpList at h ⊢;rw[if_pos h1]at h;rw[if_pos hw];exact h
end
end Go.Proofs.YtfigjpehecibeaaGreatW.PrintWords
