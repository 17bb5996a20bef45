/- Texts joined by a program of mine: WWords WLast WApart WShare WN WMore WTab WRepsOne WInv. -/
import Derived.Below
import Derived.Deep.Draws
import Derived.Deep.AppendLies
import Derived.Maps.AppendAt
import Derived.OwnWalk
import Derived.Laws.BytesArg
import Derived.Laws.MakeOwn
import Derived.Laws.OwnMore
import Derived.Deep.OwnRows
import Derived.Tactics
import Derived.Lib.ConvBytes
import Derived.Laws.Slices
import Derived.WalkKit
import Derived.KernelRfl
import Derived.RowKit3
import Derived.Deep.LoopGhost
import Derived.Deep.QuietTactic
import Derived.BigQuiet
import Derived.WideLaws
import Derived.Deep.DeepCutAuto
import Derived.Deep.CutBlock
import Derived.Deep.RegionHeld3
import Derived.Laws.Rows
import Derived.Lib.AppendStr
import Derived.ArgAppend
import Derived.Laws.IdiomCopy
import Derived.RowKit
import Derived.OrdersHeld
import Derived.Laws.BitsLemmas
set_option maxRecDepth 100000
open Bool renaming true -> ac, false -> O, and_eq_true -> dg
open ByteArray renaming empty -> ba
open Go.Oper renaming wp -> fq
open Go.Region renaming wanted -> ct, Mode -> gp, ready -> ez
open Go.RowKit.Below renaming refl -> ak, heap_alloc -> dr
open Go.Value renaming ownBlock -> dm
open Go.World renaming block_lt_of_cell? -> ah, setCell -> fo
open List renaming length_append -> ar, length_singleton -> az, getElem?_append_left -> fu, length_drop -> eu, getElem?_eq_some_iff -> cz, take_length -> df, getElem?_eq_getElem -> av, getD_eq_getElem?_getD -> aw, length_take -> bq, map_toArray -> cd, map_cons -> cq, map_nil -> dc, mem_cons_self -> fz, mem_append -> bo, drop_eq_getElem_cons -> dw, mem_cons -> cg, drop_eq_nil_of_le -> gr, eq_nil_of_length_eq_zero -> bk, append_nil -> ek, range -> cr, all_eq_true -> ew, mem_range -> gq
open Nat renaming lt_of_lt_of_le -> ee, lt_or_ge -> gh, mul_le_mul_right -> gn, eq_zero_or_pos -> bu, add_assoc -> db, le_trans -> bg, le_refl -> ai, not_lt_zero -> dn
open Option renaming some -> ae, none -> aj
open Option.some renaming inj -> cn
set_option linter.unusedVariables false
set_option linter.unusedSimpArgs false
set_option maxHeartbeats 8000000
section
namespace Go.Proofs.YtfigjpehecibeaaGreatW.PrintWords
open Go.RowKit
structure Aside0 (p:Prop):Prop where mk::(out:p)
structure Drawn0 (w w':World):Prop where mk::(out:∃n,w'=w.drewN n)
theorem Drawn0.refl (w:World):Drawn0 w w:=⟨⟨0,rfl⟩⟩
theorem Drawn0.step {w w':World}(h:Drawn0 w w')(n:Nat):Drawn0 w (w'.drewN n):=by
 obtain⟨m,rfl⟩:=h;exact⟨⟨m+n,World.drewN_drewN ..⟩⟩
theorem Drawn0.below {w w':World}(h:Drawn0 w w'):Below w.heap.size w w':=by
 obtain⟨n,rfl⟩:=h
 induction n with
 |zero=>exact ak _ _
 |succ n ih=>rw[←World.drew_drewN];exact ih.drew
def rd (xs:List Int)(i:Int):Int:=xs.getD i.toNat 0
def bt (s:ByteArray)(i:Int):Int:=if h:i.toNat<s.size then((s[i.toNat]'h).toNat:Int)else 0
theorem bt_at (s:ByteArray)(i:Int):∀h:i.toNat<s.size,((s[i.toNat]'h).toNat:Int)=bt s i:=fun h=>by simp[bt,h]
theorem bC {w W:World}(h:Below w.heap.size w W)(o:Obj):Below w.heap.size w (W.alloc o):=h.alloc h.size o
theorem below_drew {B:Nat}{w W:World}(h:Below B w W):Below B w W.drew:=⟨h.os,h.tape,h.output,h.size,h.block⟩
theorem aV {B:Nat}{w W:World}(h:Below B w W)(n:Nat):Below B w (W.drewN n):=⟨h.os,h.tape,h.output,h.size,h.block⟩
theorem below_then {B:Nat}{w w1 w2:World}(h:Below B w w1)(hB:B<=w1.heap.size)(k:Below w1.heap.size w1 w2):Below B w w2:=
 h.trans ⟨k.os,k.tape,k.output,k.size,fun i hi=>k.block i (ee hi hB)⟩
theorem pw_cell_below {w w1:World}(h:Below w.heap.size w w1){a:Addr}{v:Value}(hc:w.cell? a=ae v):w1.cell? a=ae v:=(h.cell (ah w a hc)).trans hc
theorem add_plain (g j:Nat):(⟨g,0,aj⟩:Addr).add j=⟨g,j,aj⟩:=by unfold Addr.add;split <;> simp_all
def ReadsInt (w:World)(k:IntKind)(A:Option Addr)(n:Nat)(xs:List Int):Prop:=
 xs.length=n/\n<=9223372036854775807/\(0<n->∃ad,A=ae ad/\∀j,j<n->w.cell? (ad.add j)=ae (.int k (xs.getD j 0)))
theorem ReadsInt.at_ {w:World}{k:IntKind}{A:Option Addr}{n:Nat}{xs:List Int}(h:ReadsInt w k A n xs)(i:Int)(h0:0<=i)(h1:i<n):∃ad,A=ae ad/\w.cell? (ad.add i.toNat)=ae (.int k (rd xs i)):=by
 obtain⟨ad,e,hc⟩:=h.2.2 (by omega);exact⟨ad,e,hc _ (by omega)⟩
theorem own_nil (W:World)(base:Nat)(e:TypeId)(size:Nat):W.ownsRow base e size (.slice aj 0 0) 0 []:=⟨by simp,.inl ⟨rfl,rfl⟩⟩
theorem jF {w:World}{base:Nat}{e:TypeId}{size n:Nat}{v:Value}{xs:List Value}(h:w.ownsRow base e size v n xs)(k:Nat)(hk:v.ownBlock=ae k):base<=k:=by
 rcases h.2 with ⟨rfl,_⟩ | ⟨g,cap,cur,rfl,hb,_⟩
 ·simp[dm]at hk
 ·have:g=k:=by simpa[dm]using hk
  omega
theorem own_lt {w:World}{base:Nat}{e:TypeId}{size n:Nat}{v:Value}{xs:List Value}(h:w.ownsRow base e size v n xs)(k:Nat)(hk:v.ownBlock=ae k):k<w.heap.size:=by
 rcases h.2 with ⟨rfl,_⟩ | ⟨g,cap,cur,rfl,hb,hh,_⟩
 ·simp[dm]at hk
 ·have:g=k:=by simpa[dm]using hk
  subst this;exact(Array.getElem?_eq_some_iff.1 hh).1
def bytesOf (s:ByteArray):List Int:=s.data.toList.map fun b=>(b.toNat:Int)
def eY {α:Type}(R:α->List Value->Prop)(size:Nat)(ps:List α)(cs:List Value):Prop:=
 cs.length=ps.length*size/\∀j p,ps[j]? =ae p->R p ((cs.drop (j*size)).take size)
theorem eY.none {α:Type}(R:α->List Value->Prop)(size:Nat):eY R size [] []:=⟨by simp,fun j p h=>by simp at h⟩
theorem eY.snoc {α:Type}{R:α->List Value->Prop}{size:Nat}{ps:List α}{cs c:List Value}{p:α}(h:eY R size ps cs)(hp:R p c)(hc:c.length=size):eY R size (ps++[p]) (cs++c):=by
 refine⟨by rw[ar,h.1,hc,ar,az,Nat.add_mul,Nat.one_mul],fun j q hq=> ?_⟩
 rcases gh j ps.length with hj | hj
 ·rw[fu hj]at hq
  have h1:j*size+size<=cs.length:=by rw[h.1,←Nat.succ_mul];exact gn _ hj
  have h2:=h.2 j q hq;rw[List.drop_append_of_le_length (by omega),List.take_append_of_le_length (by rw[eu];omega)];exact h2
 ·have hj':j=ps.length:=by
   have:=(cz.1 hq).1;rw[ar,az]at this;omega
  subst hj'
  have hq':p=q:=by simpa using hq
  subst hq';rw[←h.1,List.drop_left,←hc,df];exact hp
theorem eY.imp_ {α:Type}{R R':α->List Value->Prop}{size:Nat}{ps:List α}{cs:List Value}(h:eY R size ps cs)(hR:∀p c,R p c->R' p c):eY R' size ps cs:=⟨h.1,fun j p hj=>hR _ _ (h.2 j p hj)⟩
def cQ {α:Type}(R:α->List Value->Prop)(size:Nat)(w:World)(A:Option Addr)(n:Nat)(ps:List α):Prop:=
 ps.length=n/\n<=9223372036854775807/\(0<n->∃ad,A=ae ad/\∀j p,ps[j]? =ae p->∃c,c.length=size/\R p c/\∀i u,c[i]? =ae u->w.cell? (ad.add (j*size+i))=ae u)
theorem cQ.get_ {α:Type}{R:α->List Value->Prop}{size:Nat}{w:World}{A:Option Addr}{n:Nat}{ps:List α}(h:cQ R size w A n ps)(d:α)(i:Int)(h0:0<=i)(h1:i<n):
 ∃ad c,A=ae ad/\c.length=size/\R (ps.getD i.toNat d) c/\∀j u,c[j]? =ae u->w.cell? (ad.add (i.toNat*size+j))=ae u:=by
 obtain⟨ad,e,hc⟩:=h.2.2 (by omega)
 have hl:i.toNat<ps.length:=by have:=h.1;omega
 obtain⟨c,hs,hr,hcell⟩:=hc i.toNat _ (av hl);refine⟨ad,c,e,hs,?_,hcell⟩;rw[aw,av hl];exact hr
theorem cQ.imp_ {α:Type}{R R':α->List Value->Prop}{size:Nat}{w w1:World}{A:Option Addr}{n:Nat}{ps:List α}(h:cQ R size w A n ps)(hb:Below w.heap.size w w1)(hR:∀p c,R p c->R' p c):cQ R' size w1 A n ps:=
 ⟨h.1,h.2.1,fun hn=>by
   obtain⟨ad,e,hc⟩:=h.2.2 hn;refine⟨ad,e,fun j p hj=> ?_⟩;obtain⟨c,hs,hr,hcell⟩:=hc j p hj
   exact⟨c,hs,hR _ _ hr,fun i u hu=>pw_cell_below hb (hcell i u hu)⟩⟩
theorem own_reads_row {α:Type}{R:α->List Value->Prop}{w:World}{base n size:Nat}{e:TypeId}{v:Value}{ps:List α}{cs:List Value}(h:w.ownsRow base e size v n cs)(hR:eY R size ps cs)(hn:ps.length=n):
 ∃A c,v=.slice A n c/\cQ R size w A n ps:=by
 rcases bu n with h0 | h0
 ·rcases h.2 with ⟨rfl,rfl⟩ | ⟨g,cap,cur,rfl,_⟩
  ·exact⟨aj,0,rfl,hn,by omega,fun hp=>absurd hp (by omega)⟩
  ·exact⟨_,cap,rfl,hn,by omega,fun hp=>absurd hp (by omega)⟩
 ·obtain⟨g,cap,rfl,_,_⟩:=h.form h0
  have hm:n<=9223372036854775807:=by
   rcases h.2 with ⟨_,h1⟩ | ⟨g',cap',cur,he,_,_,h1,h2,_⟩
   ·omega
   ·simp only[maxLen]at h2;omega
  refine⟨_,cap,rfl,hn,hm,fun _=>⟨_,rfl,fun j p hj=>⟨(cs.drop (j*size)).take size,?_,hR.2 j p hj,fun i u hu=> ?_⟩⟩⟩
  ·have hjl:=(cz.1 hj).1
   have h1:j*size+size<=cs.length:=by rw[hR.1,←Nat.succ_mul];exact gn _ hjl
   rw[bq,eu];omega
  ·refine h.cells (g:=g) rfl _ u ?_;rw[List.getElem?_take]at hu
   split at hu
   ·rw[List.getElem?_drop]at hu;exact hu
   ·cases hu
theorem bO (ad:Addr)(m j:Nat)(hj:0<j):ad.add (m+j)=⟨(ad.add m).block,(ad.add m).off+j,aj⟩:=by
 unfold Addr.add
 by_cases hm:m=0
 ·subst hm;simp[Nat.ne_of_gt hj]
 ·simp[hm,db]
section
variable {P:Program}{ops:Array Oper}{rest:List Oper}{o:Oper}{a:Act}{Q:Exit->Act->World->Prop}
theorem jE {w0 W:World}(base:Nat)(hgd:o.guard=aj)(s x:Operand)(t e:TypeId)(z:Value)(size bytes:Nat)
 (ho:o.op=.call { callee:=.builtin .append,args:= #[s,x],argTypes:= #[t,t] })
 (ht:P.underlying t=ae (.slice e)) (hinfo:(P.info? e).map (fun i=>(i.zero,i.size,i.bytes))=ae (ae z,size,bytes)) (hz:z.cells.size=size) (hs0:0<size) (hb0:0<bytes)
 (v:Value) (n:Nat) (xs ys:List Value) (hs:a.eval s=v) (hx:a.eval x=.slice (ae ⟨W.heap.size,0,aj⟩) 1 1) (hys:ys.length=size) (h1:∀u∈ys,u.oneCell'=ac)
 (HO:W.ownsRow base e size v n xs) (HB:Below base w0 W) (hbase:base<=W.heap.size) (hl:(n+1)*bytes<=140737488355328)
 (h:∀v1 w1,w1.ownsRow base e size v1 (n+1) (xs++ys)->Below base w0 w1->W.grownBy w1 v.ownBlock->(v1.ownBlock=v.ownBlock\/∃b,v1.ownBlock=ae b/\W.heap.size<=b)->wpList P ops Q rest (a.put o.dst v1) w1):
 wpList P ops Q (o::rest) a (W.alloc (.cells ys.toArray e)):=by
 obtain⟨i0,hi,hzz⟩:=Option.map_eq_some_iff.1 hinfo;simp only[Prod.mk.injEq]at hzz;obtain⟨hz0,hz1,hz2⟩:=hzz;have hlen:n+1<=140737488355328:=bg (Nat.le_mul_of_pos_right _ hb0) hl
 refine wpList_append_own_at (W.alloc (.cells ys.toArray e)) hgd s x t ho base e i0 z size bytes ht hi hz0 hz1 hz2 hz hs0 v n xs hs (HO.alloc _) ⟨W.heap.size,0,aj⟩ 1 1 ys hx (by rw[hys];simp)
  (by simpa using World.news_of_block (cs:=ys.toArray) (t:=e) (fr:=(0,0)) (heap_alloc_new W (.cells ys.toArray e))) h1 (by simp only[maxLen];omega) hl (by simp;omega) ?_
 intro v1 w1 hown hg _ hat;refine h v1 w1 hown ((HB.alloc hbase _).grown hg (by simp;omega) (jF HO)) (World.grownBy.trans (World.grownBy_alloc W _ _) hg) ?_
 rcases hat with hat | hat
 ·exact .inl hat
 ·exact .inr ⟨_,hat,by simp⟩
end
theorem dK {w:World}{base:Nat}{e t:TypeId}{size n g:Nat}{v:Value}{xs:List Value}{cs:Array Value}(h:w.ownsRow base e size v n xs)(hg:w.heap[g]? =ae (.cells cs t (0,0)))(hne:e≠t):ae g≠v.ownBlock:=by
 rcases h.2 with ⟨rfl,_⟩ | ⟨g',cap,cur,rfl,_,hh,_⟩
 ·simp[dm]
 ·intro he
  have:g=g':=by simpa[dm]using he
  subst this;rw[hg]at hh;injection hh with hh;injection hh with _ ht;exact hne ht.symm
theorem blk_set {w:World}{g:Nat}{t:TypeId}{cs:Array Value}(h:w.heap[g]? =ae (.cells cs t (0,0)))(i:Nat)(u:Value):(w.setCell ⟨g,i,aj⟩ u).heap[g]? =ae (.cells (cs.setIfInBounds i u) t (0,0)):=by
 simp[fo,Array.getElem?_modify,h]
theorem aR {w:World}{g:Nat}{o:Obj}(h:w.heap[g]? =ae o):g<w.heap.size:=(Array.getElem?_eq_some_iff.1 h).1
theorem aB {w:World}{g:Nat}{t:TypeId}{cs:Array Value}(h:w.heap[g]? =ae (.cells cs t (0,0)))(i:Nat):w.cell? ⟨g,i,aj⟩=cs[i]? :=cell_of_row w g i cs t (0,0) h
theorem bS {w:World}{g:Nat}{t:TypeId}{cs:Array Value}(h:w.heap[g]? =ae (.cells cs t (0,0)))(i:Nat):w.frozen? ⟨g,i,aj⟩=O:=by simp[World.frozen?,h]
theorem gS {w:World}{g g':Nat}{t t':TypeId}{cs cs':Array Value}(h:w.heap[g]? =ae (.cells cs t (0,0)))(h':w.heap[g']? =ae (.cells cs' t' (0,0)))(hne:t≠t'):g≠g':=by
 rintro rfl;rw[h]at h';injection h' with h';injection h' with _ ht;exact hne ht
def KeepBut (w w':World)(g:Nat)(row:Option Nat):Prop:=w.heap.size<=w'.heap.size/\∀i,i<w.heap.size->i≠g->ae i≠row->w'.heap[i]? =w.heap[i]?
theorem KeepBut.trans {w w1 w2:World}{g:Nat}{row row1:Option Nat}(h:KeepBut w w1 g row)(k:KeepBut w1 w2 g row1)(hr:row1=row\/∃b,row1=ae b/\w.heap.size<=b):KeepBut w w2 g row:=
 ⟨bg h.1 k.1,fun i hi hg hn=>by
   refine(k.2 i (ee hi h.1) hg ?_).trans (h.2 i hi hg hn)
   rcases hr with rfl | ⟨b,rfl,hb⟩
   ·exact hn
   ·intro e;injection e with e
    omega⟩
section
variable {P:Program}{ops:Array Oper}{o:Oper}{a:Act}{Q:Exit->Act->World->Prop}{K:Act->World->Prop}
theorem jP {w0 W:World}(base:Nat)(hw:ct o (yielded ops a.tmps)=ac)(s x:Operand)(t e:TypeId)(z:Value)(size bytes:Nat)
 (ho:o.op=.call { callee:=.builtin .append,args:= #[s,x],argTypes:= #[t,t] })
 (ht:P.underlying t=ae (.slice e)) (hinfo:(P.info? e).map (fun i=>(i.zero,i.size,i.bytes))=ae (ae z,size,bytes)) (hz:z.cells.size=size) (hs0:0<size) (hb0:0<bytes)
 (v:Value) (n:Nat) (xs ys:List Value) (hs:a.eval s=v) (hx:a.eval x=.slice (ae ⟨W.heap.size,0,aj⟩) 1 1) (hys:ys.length=size) (h1:∀u∈ys,u.oneCell'=ac)
 (HO:W.ownsRow base e size v n xs) (HB:Below base w0 W) (hbase:base<=W.heap.size) (hl:(n+1)*bytes<=140737488355328)
 (h:∀v1 w1,w1.ownsRow base e size v1 (n+1) (xs++ys)->Below base w0 w1->W.grownBy w1 v.ownBlock->(v1.ownBlock=v.ownBlock\/∃b,v1.ownBlock=ae b/\W.heap.size<=b)->K (a.put o.dst v1) w1):
 if ct o (yielded ops a.tmps)=ac then fq P o a (W.alloc (.cells ys.toArray e)) K Q else K (a.put o.dst undef) (W.alloc (.cells ys.toArray e)):=by
 obtain⟨i0,hi,hzz⟩:=Option.map_eq_some_iff.1 hinfo;simp only[Prod.mk.injEq]at hzz;obtain⟨hz0,hz1,hz2⟩:=hzz;have hlen:n+1<=140737488355328:=bg (Nat.le_mul_of_pos_right _ hb0) hl;rw[if_pos hw]
 obtain⟨v1,w1,hr,hown,hg,_,hat⟩:=run_append_own_at (P:=P) (W.alloc (.cells ys.toArray e)) base t o.type e i0 z size bytes ht hi hz0 hz1 hz2 hz hs0 v n xs (HO.alloc _) ⟨W.heap.size,0,aj⟩ 1 1 ys (by rw[hys];simp)
  (by simpa using World.news_of_block (cs:=ys.toArray) (t:=e) (fr:=(0,0)) (heap_alloc_new W (.cells ys.toArray e))) h1 (by simp only[maxLen];omega) hl (by simp;omega)
 unfold fq execOp;simp only[ho,resolve,invoke,builtin,Sem.run_bind,Sem.run_pure,Result.andThen_ok,cd,cq,dc,hs,hx,hr];refine h v1 w1 hown ((HB.alloc hbase _).grown hg (by simp;omega) (jF HO)) (World.grownBy.trans (World.grownBy_alloc W _ _) hg) ?_
 rcases hat with hat | hat
 ·exact .inl hat
 ·exact .inr ⟨_,hat,by simp⟩
end
theorem own_weaken {w:World}{base base':Nat}{e:TypeId}{size n:Nat}{v:Value}{xs:List Value}(h:w.ownsRow base e size v n xs)(hb:base'<=base):w.ownsRow base' e size v n xs:=by
 obtain⟨h1,h2⟩:=h;refine⟨h1,?_⟩
 rcases h2 with h2 | ⟨g,cap,cur,rfl,hg,r⟩
 ·exact .inl h2
 ·exact .inr ⟨g,cap,cur,rfl,bg hb hg,r⟩
section
variable {α:Type}{enc:α->Value}{d:α}
def encs (enc:α->Value)(xs:List α):List Value:=xs.map enc
def kJ (d:α)(xs:List α)(i:Int):α:=xs.getD i.toNat d
theorem lL (xs:List α):(encs enc xs).length=xs.length:=by simp[encs]
theorem encs_get (xs:List α)(j:Nat)(h:j<xs.length):(encs enc xs)[j]? =ae (enc (xs.getD j d)):=by
 simp[encs,av h,aw]
def lJ (enc:α->Value)(d:α)(w:World)(A:Option Addr)(n:Nat)(xs:List α):Prop:=
 xs.length=n/\n<=9223372036854775807/\(0<n->∃ad,A=ae ad/\∀j,j<n->w.cell? (ad.add j)=ae (enc (xs.getD j d)))
theorem lJ.at_ {w:World}{A:Option Addr}{n:Nat}{xs:List α}(h:lJ enc d w A n xs)(i:Int)(h0:0<=i)(h1:i<n):∃ad,A=ae ad/\w.cell? (ad.add i.toNat)=ae (enc (kJ d xs i)):=by
 obtain⟨ad,e,hc⟩:=h.2.2 (by omega);exact⟨ad,e,hc _ (by omega)⟩
theorem own_at_of {W:World}{base g n cap:Nat}{e:TypeId}{xs:List α}(h:W.ownsRow base e 1 (.slice (ae ⟨g,0,aj⟩) n cap) n (encs enc xs))(i:Int)(h0:0<=i)(h1:i<n):
 W.cell? ⟨g,i.toNat,aj⟩=ae (enc (kJ d xs i))/\W.frozen? ⟨g,i.toNat,aj⟩=O:=by
 have hl:xs.length=n:=by have:=h.1;simp[encs]at this;exact this
 constructor
 ·have hc:=h.cells (g:=g) rfl i.toNat _ (encs_get (d:=d) xs i.toNat (by omega))
  rwa [add_plain]at hc
 ·rcases h.2 with ⟨h',_⟩ | ⟨g',cap',cur,h',_,hh,_⟩
  ·cases h'
  ·have:g=g':=by injection h' with h';injection h' with h';injection h' with h'
   subst this;simp[World.frozen?,hh]
theorem own_store_of {W:World}{base g n cap:Nat}{e:TypeId}{xs:List α}(h:W.ownsRow base e 1 (.slice (ae ⟨g,0,aj⟩) n cap) n (encs enc xs))(i:Int)(x:α):
 (W.setCell ⟨g,i.toNat,aj⟩ (enc x)).ownsRow base e 1 (.slice (ae ⟨g,0,aj⟩) n cap) n (encs enc (xs.set i.toNat x))/\W.grownBy (W.setCell ⟨g,i.toNat,aj⟩ (enc x)) (ae g):=by
 have hs:=h.stored i.toNat (enc x)
 have he:(encs enc xs).set i.toNat (enc x)=encs enc (xs.set i.toNat x):=by simp[encs,List.map_set]
 rwa [he]at hs
end
theorem bP {w:World}{g:Nat}{o:Obj}(h:w.heap[g]? =ae o)(o':Obj):(w.alloc o').heap[g]? =ae o:=(dr w o' g (aR h)).trans h
theorem aE {w w1:World}{g:Nat}{o:Obj}(h:w.heap[g]? =ae o)(hb:Below w.heap.size w w1):w1.heap[g]? =ae o:=(hb.block g (aR h)).trans h
theorem bR (w:World)(o:Obj):(w.alloc o).heap[w.heap.size]? =ae o:=heap_alloc_new w o
theorem own_le {w:World}{base n m c size:Nat}{e:TypeId}{A:Option Addr}{xs:List Value}(h:w.ownsRow base e size (.slice A m c) n xs):m<=c:=by
 rcases h.2 with ⟨he,_⟩ | ⟨g,cap,cur,he,_,_,hnc,_⟩
 ·injection he with _ h2 h3;omega
 ·injection he with _ h2 h3;omega
def iN {α:Type}(R:α->List Value->Prop)(e:TypeId)(size:Nat)(w:World)(base:Nat)(v:Value)(ps:List α):Prop:=
 ∃inner,w.ownsRow base e size v ps.length inner/\eY R size ps inner
section
variable {α:Type}{R R':α->List Value->Prop}{e:TypeId}{size:Nat}{w w1:World}{base:Nat}{v:Value}{ps:List α}
theorem iN.none_ (R:α->List Value->Prop)(e:TypeId)(size:Nat)(w:World)(base:Nat):iN R e size w base (.slice aj 0 0) []:=⟨[],own_nil _ _ _ _,eY.none _ _⟩
theorem iN.imp_ (h:iN R e size w base v ps)(hR:∀p c,R p c->R' p c):iN R' e size w base v ps:=by
 obtain⟨inner,ho,hr⟩:=h;exact⟨inner,ho,hr.imp_ hR⟩
theorem iN.reads (h:iN R e size w base v ps):∃A c,v=.slice A ps.length c/\ps.length<=c/\cQ R size w A ps.length ps:=by
 obtain⟨inner,ho,hr⟩:=h;obtain⟨A,c,rfl,hrow⟩:=own_reads_row ho hr rfl;exact⟨A,c,rfl,own_le ho,hrow⟩
end
theorem cQ.inner_ {α:Type}{R:α->List Value->Prop}{size:Nat}{w:World}{ad:Addr}{n:Nat}{ps:List α}(h:cQ R size w (ae ad) n ps):
 ∃inner,eY R size ps inner/\∀j u,inner[j]? =ae u->w.cell? (ad.add j)=ae u:=by
 have key:∀m,m<=ps.length->∃inner,eY R size (ps.take m) inner/\∀j u,inner[j]? =ae u->w.cell? (ad.add j)=ae u:=by
  intro m
  induction m with
  |zero=>exact fun _=>⟨[],eY.none _ _,fun j u hu=>by simp at hu⟩
  |succ m ih=>
   intro hm;obtain⟨inner,hr,hc⟩:=ih (by omega);obtain⟨ad',he,hcell⟩:=h.2.2 (by have:=h.1;omega);injection he with he;subst he;obtain⟨c,hcl,hp,hcc⟩:=hcell m _ (av (show m<ps.length by omega));refine⟨inner++c,?_,fun j u hu=> ?_⟩
   ·rw[List.take_succ_eq_append_getElem (show m<ps.length by omega)];exact hr.snoc hp hcl
   ·have hil:inner.length=m*size:=by rw[hr.1,bq,Nat.min_eq_left (by omega)]
    rcases gh j inner.length with hj | hj
    ·rw[fu hj]at hu;exact hc j u hu
    ·rw[List.getElem?_append_right hj]at hu;have:=hcc (j - inner.length) u hu
     rwa [hil,Nat.add_sub_cancel' (by omega)]at this
 obtain⟨inner,hr,hc⟩:=key ps.length (ai _);rw[df]at hr;exact⟨inner,hr,hc⟩
structure Kd (α:Type) where
 sz:Nat
 E:List Nat
 K:World->α->List Value->Prop
 M:World->Nat->(Nat->Prop)->α->List Value->Prop
 K_len:∀{w x cs},K w x cs->cs.length=sz
 K_one:∀{w x cs},K w x cs->∀u∈cs,u.oneCell'=ac
 K_below:∀{w w1:World} {x cs},Below w.heap.size w w1->K w x cs->K w1 x cs
 K_of_M:∀{w base ok x cs},M w base ok x cs->K w x cs
 M_mono:∀{w base ok ok' x cs},(∀k,ok k->ok' k)->M w base ok x cs->M w base ok' x cs
 M_bound:∀{w:World} {base ok x cs},M w base ok x cs->M w base (fun k=>ok k/\base<=k/\k<w.heap.size/\∃q,q∈E/\∃cells,w.heap[k]? =ae (.cells cells q (0,0))) x cs
 M_move:∀{w w1:World} {base ok x cs},(∀k,ok k->w1.heap[k]? =w.heap[k]?)->M w base ok x cs->M w1 base ok x cs
 M_lower:∀{w base base' ok x cs},base'<=base->M w base ok x cs->M w base' ok x cs
theorem own_move {w w1:World}{base:Nat}{e:TypeId}{size n:Nat}{v:Value}{xs:List Value}(h:w.ownsRow base e size v n xs)(hm:∀k,v.ownBlock=ae k->w1.heap[k]? =w.heap[k]?):w1.ownsRow base e size v n xs:=by
 obtain⟨h1,h2⟩:=h;refine⟨h1,?_⟩
 rcases h2 with h2 | ⟨g,cap,cur,rfl,hg,hh,r⟩
 ·exact .inl h2
 ·exact .inr ⟨g,cap,cur,rfl,hg,(hm g (by simp[dm])).trans hh,r⟩
theorem jD {w:World}{base:Nat}{e:TypeId}{size n:Nat}{v:Value}{xs:List Value}(h:w.ownsRow base e size v n xs)(k:Nat)(hk:v.ownBlock=ae k):∃cells,w.heap[k]? =ae (.cells cells e (0,0)):=by
 rcases h.2 with ⟨rfl,_⟩ | ⟨g,cap,cur,rfl,hg,hh,r⟩
 ·simp[dm]at hk
 ·have:g=k:=by simpa[dm]using hk
  subst this;exact⟨cur,hh⟩
namespace Kd
def C {α:Type}(d:Kd α)(w:World)(A:Option Addr)(n:Nat)(xs:List α):Prop:=cQ (d.K w) d.sz w A n xs
def R {α:Type}(d:Kd α)(e:Nat)(w:World)(base:Nat)(ok:Nat->Prop)(v:Value)(xs:List α):Prop:=
 (∀k,v.ownBlock=ae k->ok k)/\iN (d.M w base (fun k=>ok k/\ae k≠v.ownBlock)) e d.sz w base v xs
section
variable {α:Type}{d:Kd α}{e:Nat}{w w1:World}{base:Nat}{ok ok':Nat->Prop}{v:Value}{xs:List α}
theorem aF {A:Option Addr}{n:Nat}(h:d.C w A n xs)(hb:Below w.heap.size w w1):d.C w1 A n xs:=cQ.imp_ h hb (fun _ _ hp=>d.K_below hb hp)
theorem jQ (d:Kd α)(e:Nat)(w:World)(base:Nat)(ok:Nat->Prop):d.R e w base ok (.slice aj 0 0) []:=⟨fun k hk=>by simp[dm]at hk,iN.none_ _ _ _ _ _⟩
theorem jA (h:d.R e w base ok v xs)(hok:∀k,ok k->ok' k):d.R e w base ok' v xs:=⟨fun k hk=>hok k (h.1 k hk),h.2.imp_ (fun _ _ hp=>d.M_mono (fun k hk=>⟨hok k hk.1,hk.2⟩) hp)⟩
theorem iV (h:d.R e w base ok v xs):d.R e w base (fun k=>ok k/\base<=k/\k<w.heap.size/\∃q,q∈e::d.E/\∃cells,w.heap[k]? =ae (.cells cells q (0,0))) v xs:=by
 obtain⟨h0,inner,ho,hr⟩:=h;refine⟨fun k hk=> ?_,inner,ho,hr.imp_ (fun _ _ hp=>d.M_mono (fun k hk=> ?_) (d.M_bound hp))⟩
 ·obtain⟨cells,hc⟩:=jD ho k hk;exact⟨h0 k hk,jF ho k hk,own_lt ho k hk,e,fz,cells,hc⟩
 ·obtain⟨⟨h1,h2⟩,h3,h4,q,hq,hc⟩:=hk;exact⟨⟨h1,h3,h4,q,List.mem_cons_of_mem _ hq,hc⟩,h2⟩
theorem R_move (h:d.R e w base ok v xs)(hm:∀k,ok k->w1.heap[k]? =w.heap[k]?):d.R e w1 base ok v xs:=by
 obtain⟨h0,inner,ho,hr⟩:=h;exact⟨h0,inner,own_move ho (fun k hk=>hm k (h0 k hk)),hr.imp_ (fun _ _ hp=>d.M_move (fun k hk=>hm k hk.1) hp)⟩
theorem R_lower {base':Nat}(h:d.R e w base ok v xs)(hb:base'<=base):d.R e w base' ok v xs:=by
 obtain⟨h0,inner,ho,hr⟩:=h;exact⟨h0,inner,own_weaken ho hb,hr.imp_ (fun _ _ hp=>d.M_lower hb hp)⟩
theorem R_step (h:d.R e w base ok v xs)(hm:∀k,ok k->k<w.heap.size->w1.heap[k]? =w.heap[k]?):d.R e w1 base ok v xs:=
 jA (R_move (iV h) (fun k hk=>hm k hk.1 hk.2.2.1)) (fun _ hk=>hk.1)
theorem M_step {x:α}{cs:List Value}(h:d.M w base ok x cs)(hm:∀k,ok k->k<w.heap.size->w1.heap[k]? =w.heap[k]?):d.M w1 base ok x cs:=
 d.M_mono (fun _ hk=>hk.1) (d.M_move (fun k hk=>hm k hk.1 hk.2.2.1) (d.M_bound h))
theorem dA (h:d.R e w base ok v xs)(hb:Below w.heap.size w w1):d.R e w1 base ok v xs:=R_step h (fun k _ hk=>hb.block k hk)
theorem M_below {x:α}{cs:List Value}(h:d.M w base ok x cs)(hb:Below w.heap.size w w1):d.M w1 base ok x cs:=M_step h (fun k _ hk=>hb.block k hk)
theorem j5 (h:d.R e w base ok v xs){row:Option Nat}(hg:w.grownBy w1 row)(hok:∀k,ok k->ae k≠row):d.R e w1 base ok v xs:=R_step h (fun k ho hk=>hg.block k hk (hok k ho))
theorem fF (h:d.R e w base ok v xs):∃A c,v=.slice A xs.length c/\xs.length<=c/\d.C w A xs.length xs:=by
 obtain⟨A,c,he,hl,hr⟩:=iN.reads h.2;exact⟨A,c,he,hl,hr.imp_ (ak _ _) (fun _ _ hp=>d.K_of_M hp)⟩
theorem dG (h:d.R e w base ok v xs):∃A c,v=.slice A xs.length c:=by
 obtain⟨A,c,he,_⟩:=fF h;exact⟨A,c,he⟩
theorem R_own (h:d.R e w base ok v xs):∃inner,w.ownsRow base e d.sz v xs.length inner:=by
 obtain⟨_,inner,ho,_⟩:=h;exact⟨inner,ho⟩
end
def scalar {α:Type}(enc:α->Value)(h1:∀x,(enc x).oneCell'=ac):Kd α where
 sz:=1
 E:=[]
 K:=fun _ x cs=>cs=[enc x]
 M:=fun _ _ _ x cs=>cs=[enc x]
 K_len:=fun h=>by rw[h];rfl
 K_one:=fun h u hu=>by
  rw[h]at hu;rw[List.mem_singleton.1 hu];exact h1 _
 K_below:=fun _ h=>h
 K_of_M:=fun h=>h
 M_mono:=fun _ h=>h
 M_bound:=fun h=>h
 M_move:=fun _ h=>h
 M_lower:=fun _ h=>h
def int (k:IntKind):Kd Int:=scalar (Value.int k) (fun _=>rfl)
def bool:Kd Bool:=scalar Value.bool (fun _=>rfl)
def string:Kd ByteArray:=scalar Value.string (fun _=>rfl)
def slice {α:Type}(e:Nat)(d:Kd α):Kd (List α) where
 sz:=1
 E:=e::d.E
 K:=fun w xs cs=>∃A c,cs=[.slice A xs.length c]/\xs.length<=c/\d.C w A xs.length xs
 M:=fun w base ok xs cs=>∃v,cs=[v]/\d.R e w base ok v xs
 K_len:=by
  rintro w x cs ⟨A,c,rfl,_⟩;rfl
 K_one:=by
  rintro w x cs ⟨A,c,rfl,_⟩ u hu;rw[List.mem_singleton.1 hu];rfl
 K_below:=by
  rintro w w1 x cs hb ⟨A,c,rfl,hl,hr⟩;exact⟨A,c,rfl,hl,aF hr hb⟩
 K_of_M:=by
  rintro w base ok x cs ⟨v,rfl,h⟩;obtain⟨A,c,rfl,hl,hr⟩:=fF h;exact⟨A,c,rfl,hl,hr⟩
 M_mono:=by
  rintro w base ok ok' x cs hok ⟨v,rfl,h⟩;exact⟨v,rfl,jA h hok⟩
 M_bound:=by
  rintro w base ok x cs ⟨v,rfl,h⟩;exact⟨v,rfl,iV h⟩
 M_move:=by
  rintro w w1 base ok x cs hm ⟨v,rfl,h⟩;exact⟨v,rfl,R_move h hm⟩
 M_lower:=by
  rintro w base base' ok x cs hb ⟨v,rfl,h⟩;exact⟨v,rfl,R_lower h hb⟩
def pair {α β:Type}(a:Kd α)(b:Kd β):Kd (α × β) where
 sz:=a.sz+b.sz
 E:=a.E++b.E
 K:=fun w x cs=>∃c0 c1,cs=c0++c1/\a.K w x.1 c0/\b.K w x.2 c1
 M:=fun w base ok x cs=>∃c0 c1,cs=c0++c1/\a.M w base ok x.1 c0/\b.M w base ok x.2 c1
 K_len:=by
  rintro w x cs ⟨c0,c1,rfl,h0,h1⟩;rw[ar,a.K_len h0,b.K_len h1]
 K_one:=by
  rintro w x cs ⟨c0,c1,rfl,h0,h1⟩ u hu
  rcases bo.1 hu with hu | hu
  ·exact a.K_one h0 u hu
  ·exact b.K_one h1 u hu
 K_below:=by
  rintro w w1 x cs hb ⟨c0,c1,rfl,h0,h1⟩;exact⟨c0,c1,rfl,a.K_below hb h0,b.K_below hb h1⟩
 K_of_M:=by
  rintro w base ok x cs ⟨c0,c1,rfl,h0,h1⟩;exact⟨c0,c1,rfl,a.K_of_M h0,b.K_of_M h1⟩
 M_mono:=by
  rintro w base ok ok' x cs hok ⟨c0,c1,rfl,h0,h1⟩;exact⟨c0,c1,rfl,a.M_mono hok h0,b.M_mono hok h1⟩
 M_bound:=by
  rintro w base ok x cs ⟨c0,c1,rfl,h0,h1⟩;refine⟨c0,c1,rfl,a.M_mono ?_ (a.M_bound h0),b.M_mono ?_ (b.M_bound h1)⟩
  ·rintro k ⟨h2,h3,h4,q,hq,hc⟩;exact⟨h2,h3,h4,q,List.mem_append_left _ hq,hc⟩
  ·rintro k ⟨h2,h3,h4,q,hq,hc⟩;exact⟨h2,h3,h4,q,List.mem_append_right _ hq,hc⟩
 M_move:=by
  rintro w w1 base ok x cs hm ⟨c0,c1,rfl,h0,h1⟩;exact⟨c0,c1,rfl,a.M_move hm h0,b.M_move hm h1⟩
 M_lower:=by
  rintro w base base' ok x cs hb ⟨c0,c1,rfl,h0,h1⟩;exact⟨c0,c1,rfl,a.M_lower hb h0,b.M_lower hb h1⟩
def iso {α β:Type}(d:Kd α)(f:β->α):Kd β where
 sz:=d.sz
 E:=d.E
 K:=fun w x cs=>d.K w (f x) cs
 M:=fun w base ok x cs=>d.M w base ok (f x) cs
 K_len:=d.K_len
 K_one:=d.K_one
 K_below:=d.K_below
 K_of_M:=d.K_of_M
 M_mono:=d.M_mono
 M_bound:=d.M_bound
 M_move:=d.M_move
 M_lower:=d.M_lower
def bot {α:Type}(sz:Nat)(E:List Nat):Kd α where
 sz:=sz
 E:=E
 K:=fun _ _ _=>False
 M:=fun _ _ _ _ _=>False
 K_len:=fun h=>h.elim
 K_one:=fun h=>h.elim
 K_below:=fun _ h=>h
 K_of_M:=fun h=>h
 M_mono:=fun _ h=>h
 M_bound:=fun h=>h
 M_move:=fun _ h=>h
 M_lower:=fun _ h=>h
def upto {α:Type}(F:Kd α->Kd α)(sz:Nat)(E:List Nat):Nat->Kd α
 |0=>bot sz E
 |n+1=>F (upto F sz E n)
def fix {α:Type}(F:Kd α->Kd α)(sz:Nat)(E:List Nat)(hs:∀n,(upto F sz E n).sz=sz)(hE:∀n q,q∈(upto F sz E n).E->q∈E):Kd α where
 sz:=sz
 E:=E
 K:=fun w x cs=>∃n,(upto F sz E n).K w x cs
 M:=fun w base ok x cs=>∃n,(upto F sz E n).M w base ok x cs
 K_len:=by
  rintro w x cs ⟨n,h⟩;rw[(upto F sz E n).K_len h,hs n]
 K_one:=by
  rintro w x cs ⟨n,h⟩;exact(upto F sz E n).K_one h
 K_below:=by
  rintro w w1 x cs hb ⟨n,h⟩;exact⟨n,(upto F sz E n).K_below hb h⟩
 K_of_M:=by
  rintro w base ok x cs ⟨n,h⟩;exact⟨n,(upto F sz E n).K_of_M h⟩
 M_mono:=by
  rintro w base ok ok' x cs hok ⟨n,h⟩;exact⟨n,(upto F sz E n).M_mono hok h⟩
 M_bound:=by
  rintro w base ok x cs ⟨n,h⟩;refine⟨n,(upto F sz E n).M_mono ?_ ((upto F sz E n).M_bound h)⟩;rintro k ⟨h2,h3,h4,q,hq,hc⟩;exact⟨h2,h3,h4,q,hE n q hq,hc⟩
 M_move:=by
  rintro w w1 base ok x cs hm ⟨n,h⟩;exact⟨n,(upto F sz E n).M_move hm h⟩
 M_lower:=by
  rintro w base base' ok x cs hb ⟨n,h⟩;exact⟨n,(upto F sz E n).M_lower hb h⟩
theorem C_get {α:Type}{d:Kd α}{w:World}{A:Option Addr}{n:Nat}{xs:List α}(h:d.C w A n xs)(z:α)(i:Int)(h0:0<=i)(h1:i<n):
 ∃ad c,A=ae ad/\c.length=d.sz/\d.K w (xs.getD i.toNat z) c/\∀j u,c[j]? =ae u->w.cell? (ad.add (i.toNat*d.sz+j))=ae u:=cQ.get_ h z i h0 h1
theorem R_appended {α:Type}{d:Kd α}{e base:Nat}{ok okp:Nat->Prop}{W w1:World}{v v1:Value}{xs:List α}{p:α}{inner cs:List Value}(h0:∀k,v.ownBlock=ae k->ok k)(hr:eY (d.M W base (fun k=>ok k/\ae k≠v.ownBlock)) d.sz xs inner)(hp:d.M W base okp p cs)(hokp:∀k,okp k->ok k/\ae k≠v.ownBlock)(hfresh:∀k,W.heap.size<=k->ok k)
 (hown:w1.ownsRow base e d.sz v1 (xs.length+1) (inner++cs)) (hg:W.grownBy w1 v.ownBlock) (hat:v1.ownBlock=v.ownBlock\/∃b,v1.ownBlock=ae b/\W.heap.size<=b):d.R e w1 base ok v1 (xs++[p]):=by
 have hne:∀k,ae k≠v.ownBlock->k<W.heap.size->ae k≠v1.ownBlock:=by
  intro k hk hlt
  rcases hat with hat | ⟨b,hb,hle⟩
  ·rw[hat];exact hk
  ·rw[hb];intro he;injection he with he;omega
 have step:∀{q:α} {c:List Value} {o:Nat->Prop},d.M W base o q c->(∀k,o k->ok k/\ae k≠v.ownBlock)->d.M w1 base (fun k=>ok k/\ae k≠v1.ownBlock) q c:=by
  intro q c o hq ho;have h1:=d.M_move (w1:=w1) (fun k hk=>hg.block k hk.2.2.1 (ho k hk.1).2) (d.M_bound hq);exact d.M_mono (fun k hk=>⟨(ho k hk.1).1,hne k (ho k hk.1).2 hk.2.2.1⟩) h1
 refine⟨fun k hk=> ?_,inner++cs,by rw[ar,az];exact hown,?_⟩
 ·rcases hat with hat | ⟨b,hb,hle⟩
  ·exact h0 k (hat ▸ hk)
  ·rw[hb]at hk;injection hk with hk;exact hfresh k (by omega)
 ·exact(hr.imp_ (fun _ _ hq=>step hq (fun _ hk=>hk))).snoc (step hp hokp) (d.K_len (d.K_of_M hp))
section
variable {P:Program}{ops:Array Oper}{rest:List Oper}{o:Oper}{a:Act}{Q:Exit->Act->World->Prop}{α:Type}
theorem eG (d:Kd α){w0 W:World}(base:Nat)(hgd:o.guard=aj)(s x:Operand)(t e:TypeId)(z:Value)(bytes:Nat)
 (ho:o.op=.call { callee:=.builtin .append,args:= #[s,x],argTypes:= #[t,t] })
 (ht:P.underlying t=ae (.slice e)) (hinfo:(P.info? e).map (fun i=>(i.zero,i.size,i.bytes))=ae (ae z,d.sz,bytes)) (hz:z.cells.size=d.sz) (hs0:0<d.sz) (hb0:0<bytes)
 (v:Value) (xs:List α) (p:α) (cs:List Value) (ok okp:Nat->Prop) (hs:a.eval s=v) (hx:a.eval x=.slice (ae ⟨W.heap.size,0,aj⟩) 1 1) (hp:d.M W base okp p cs) (hokp:∀k,okp k->ok k/\ae k≠v.ownBlock) (hfresh:∀k,W.heap.size<=k->ok k)
 (HO:d.R e W base ok v xs) (HB:Below base w0 W) (hbase:base<=W.heap.size) (hl:(xs.length+1)*bytes<=140737488355328)
 (h:∀v1 w1,d.R e w1 base ok v1 (xs++[p])->Below base w0 w1->W.grownBy w1 v.ownBlock->(v1.ownBlock=v.ownBlock\/∃b,v1.ownBlock=ae b/\W.heap.size<=b)->wpList P ops Q rest (a.put o.dst v1) w1):
 wpList P ops Q (o::rest) a (W.alloc (.cells cs.toArray e)):=by
 obtain⟨h0,inner,hown,hr⟩:=HO;refine jE base hgd s x t e z d.sz bytes ho ht hinfo hz hs0 hb0 v xs.length inner cs hs hx (d.K_len (d.K_of_M hp)) (d.K_one (d.K_of_M hp)) hown HB hbase hl ?_;intro v1 w1 hown1 hb1 hg1 hat1;exact h v1 w1 (R_appended h0 hr hp hokp hfresh hown1 hg1 hat1) hb1 hg1 hat1
end
section
variable {P:Program}{ops:Array Oper}{o:Oper}{a:Act}{Q:Exit->Act->World->Prop}{Kc:Act->World->Prop}{α:Type}
theorem eP (d:Kd α){w0 W:World}(base:Nat)(hw:ct o (yielded ops a.tmps)=ac)(s x:Operand)(t e:TypeId)(z:Value)(bytes:Nat)
 (ho:o.op=.call { callee:=.builtin .append,args:= #[s,x],argTypes:= #[t,t] })
 (ht:P.underlying t=ae (.slice e)) (hinfo:(P.info? e).map (fun i=>(i.zero,i.size,i.bytes))=ae (ae z,d.sz,bytes)) (hz:z.cells.size=d.sz) (hs0:0<d.sz) (hb0:0<bytes)
 (v:Value) (xs:List α) (p:α) (cs:List Value) (ok okp:Nat->Prop) (hs:a.eval s=v) (hx:a.eval x=.slice (ae ⟨W.heap.size,0,aj⟩) 1 1) (hp:d.M W base okp p cs) (hokp:∀k,okp k->ok k/\ae k≠v.ownBlock) (hfresh:∀k,W.heap.size<=k->ok k)
 (HO:d.R e W base ok v xs) (HB:Below base w0 W) (hbase:base<=W.heap.size) (hl:(xs.length+1)*bytes<=140737488355328)
 (h:∀v1 w1,d.R e w1 base ok v1 (xs++[p])->Below base w0 w1->W.grownBy w1 v.ownBlock->(v1.ownBlock=v.ownBlock\/∃b,v1.ownBlock=ae b/\W.heap.size<=b)->Kc (a.put o.dst v1) w1):
 if ct o (yielded ops a.tmps)=ac then fq P o a (W.alloc (.cells cs.toArray e)) Kc Q else Kc (a.put o.dst undef) (W.alloc (.cells cs.toArray e)):=by
 obtain⟨h0,inner,hown,hr⟩:=HO;refine jP base hw s x t e z d.sz bytes ho ht hinfo hz hs0 hb0 v xs.length inner cs hs hx (d.K_len (d.K_of_M hp)) (d.K_one (d.K_of_M hp)) hown HB hbase hl ?_;intro v1 w1 hown1 hb1 hg1 hat1;exact h v1 w1 (R_appended h0 hr hp hokp hfresh hown1 hg1 hat1) hb1 hg1 hat1
end
theorem fW {α:Type}{enc:α->Value}(xs:List α):eY (fun(x:α) (cs:List Value)=>cs=[enc x]) 1 xs (encs enc xs):=by
 refine⟨by simp[encs],fun j p hj=> ?_⟩;obtain⟨hl,hp⟩:=cz.1 hj
 have hl':j<(encs enc xs).length:=by rw[lL];exact hl
 rw[Nat.mul_one,dw hl'];simp[encs,hp]
theorem R_of_own {α:Type}{enc:α->Value}{h1:∀x,(enc x).oneCell'=ac}{e:Nat}{w:World}{base:Nat}{ok:Nat->Prop}{v:Value}{xs:List α}(ho:w.ownsRow base e 1 v xs.length (encs enc xs))(hok:∀k,v.ownBlock=ae k->ok k):(scalar enc h1).R e w base ok v xs:=⟨hok,encs enc xs,ho,fW xs⟩
theorem own_of_R {α:Type}{enc:α->Value}{h1:∀x,(enc x).oneCell'=ac}{e:Nat}{w:World}{base:Nat}{ok:Nat->Prop}{v:Value}{xs:List α}(h:(scalar enc h1).R e w base ok v xs):w.ownsRow base e 1 v xs.length (encs enc xs):=by
 obtain⟨_,inner,ho,hr⟩:=h
 have:inner=encs enc xs:=by
  apply List.ext_getElem?;intro j
  rcases gh j xs.length with hj | hj
  ·have h2:=hr.2 j _ (av hj)
   have hl:j<inner.length:=by have:=hr.1;simp[scalar]at this;omega
   have h3:(inner.drop (j*1)).take 1=[enc xs[j]]:=h2;rw[Nat.mul_one,dw hl]at h3
   have h4:inner[j]=enc xs[j]:=by
    have h5:=congrArg List.head? h3;rw[List.take_succ_cons]at h5;exact cn h5
   rw[av hl,h4];simp[encs,av hj]
  ·have h3:inner.length=xs.length:=by have:=hr.1;simp[scalar]at this;omega
   rw[List.getElem?_eq_none (by omega),List.getElem?_eq_none (by rw[lL];omega)]
 rw[←this];exact ho
theorem reads_of_C {α:Type}{enc:α->Value}{d:α}{h1:∀x,(enc x).oneCell'=ac}{w:World}{A:Option Addr}{n:Nat}{xs:List α}(h:(scalar enc h1).C w A n xs):lJ enc d w A n xs:=by
 refine⟨h.1,h.2.1,fun hn=> ?_⟩;obtain⟨ad,e,hc⟩:=h.2.2 hn;refine⟨ad,e,fun j hj=> ?_⟩
 have hl:j<xs.length:=by have:=h.1;omega
 obtain⟨c,_,hK,hcell⟩:=hc j _ (av hl);have hK':c=[enc xs[j]]:=hK;subst hK';have:=hcell 0 _ rfl
 simpa[scalar,aw,av hl]using this
end Kd
namespace Kd
structure Mono {α β:Type}(F:Kd α->Kd β):Prop where
 sz:∀d d':Kd α,d.sz=d'.sz->(F d).sz=(F d').sz
 K:∀d d':Kd α,d.sz=d'.sz->(∀w x cs,d.K w x cs->d'.K w x cs)->∀w x cs,(F d).K w x cs->(F d').K w x cs
 M:∀d d':Kd α,d.sz=d'.sz->(∀w base ok x cs,d.M w base ok x cs->d'.M w base ok x cs)->∀w base ok x cs,(F d).M w base ok x cs->(F d').M w base ok x cs
theorem dD {α β:Type}(k:Kd β):Mono (fun _:Kd α=>k):=⟨fun _ _ _=>rfl,fun _ _ _ _ _ _ _ h=>h,fun _ _ _ _ _ _ _ _ _ h=>h⟩
theorem mono_id {α:Type}:Mono (fun d:Kd α=>d):=⟨fun _ _ h=>h,fun _ _ _ h=>h,fun _ _ _ h=>h⟩
theorem C_imp {α:Type}{d d':Kd α}(hs:d.sz=d'.sz)(h:∀w x cs,d.K w x cs->d'.K w x cs){w:World}{A:Option Addr}{n:Nat}{xs:List α}(hc:d.C w A n xs):d'.C w A n xs:=by
 unfold C at hc ⊢;rw[←hs];exact hc.imp_ (ak _ _) (fun _ _ hp=>h _ _ _ hp)
theorem R_imp {α:Type}{d d':Kd α}(hs:d.sz=d'.sz)(h:∀w base ok x cs,d.M w base ok x cs->d'.M w base ok x cs){e:Nat}{w:World}{base:Nat}{ok:Nat->Prop}{v:Value}{xs:List α}(hr:d.R e w base ok v xs):d'.R e w base ok v xs:=by
 unfold R at hr ⊢;rw[←hs];exact⟨hr.1,hr.2.imp_ (fun _ _ hp=>h _ _ _ _ _ hp)⟩
theorem jS {α β:Type}(e:Nat){G:Kd α->Kd β}(hG:Mono G):Mono (fun d=>slice e (G d)):=by
 refine⟨fun _ _ _=>rfl,?_,?_⟩
 ·rintro d d' hs h w x cs ⟨A,c,rfl,hl,hr⟩;exact⟨A,c,rfl,hl,C_imp (hG.sz d d' hs) (hG.K d d' hs h) hr⟩
 ·rintro d d' hs h w base ok x cs ⟨v,rfl,hr⟩;exact⟨v,rfl,R_imp (hG.sz d d' hs) (hG.M d d' hs h) hr⟩
theorem dJ {α β γ:Type}{G:Kd α->Kd β}{H:Kd α->Kd γ}(hG:Mono G)(hH:Mono H):Mono (fun d=>pair (G d) (H d)):=by
 refine⟨fun d d' hs=> ?_,?_,?_⟩
 ·show(G d).sz+(H d).sz=(G d').sz+(H d').sz
  rw[hG.sz d d' hs,hH.sz d d' hs]
 ·rintro d d' hs h w x cs ⟨c0,c1,rfl,h0,h1⟩;exact⟨c0,c1,rfl,hG.K d d' hs h _ _ _ h0,hH.K d d' hs h _ _ _ h1⟩
 ·rintro d d' hs h w base ok x cs ⟨c0,c1,rfl,h0,h1⟩;exact⟨c0,c1,rfl,hG.M d d' hs h _ _ _ _ _ h0,hH.M d d' hs h _ _ _ _ _ h1⟩
theorem mono_iso {α β γ:Type}{G:Kd α->Kd β}(f:γ->β)(hG:Mono G):Mono (fun d=>iso (G d) f):=
 ⟨hG.sz,fun d d' hs h w x cs=>hG.K d d' hs h w (f x) cs,fun d d' hs h w base ok x cs=>hG.M d d' hs h w base ok (f x) cs⟩
def Sub {α β:Type}(F:Kd α->Kd β)(E:List Nat):Prop:=∀d:Kd α,(∀q,q∈d.E->q∈E)->∀q,q∈(F d).E->q∈E
theorem dX {α β:Type}{E:List Nat}(k:Kd β)(h:∀q,q∈k.E->q∈E):Sub (fun _:Kd α=>k) E:=fun _ _=>h
theorem sub_id {α:Type}{E:List Nat}:Sub (fun d:Kd α=>d) E:=fun _ h=>h
theorem kR {α β:Type}{E:List Nat}(e:Nat){G:Kd α->Kd β}(he:e∈E)(hG:Sub G E):Sub (fun d=>slice e (G d)) E:=fun d h q hq=>by
 rcases cg.1 hq with rfl | hq
 ·exact he
 ·exact hG d h q hq
theorem eH {α β γ:Type}{E:List Nat}{G:Kd α->Kd β}{H:Kd α->Kd γ}(hG:Sub G E)(hH:Sub H E):Sub (fun d=>pair (G d) (H d)) E:=fun d h q hq=>by
 rcases bo.1 hq with hq | hq
 ·exact hG d h q hq
 ·exact hH d h q hq
theorem sub_iso {α β γ:Type}{E:List Nat}{G:Kd α->Kd β}(f:γ->β)(hG:Sub G E):Sub (fun d=>iso (G d) f) E:=hG
theorem upto_E {α:Type}{F:Kd α->Kd α}{sz:Nat}{E:List Nat}(h:Sub F E):∀n q,q∈(upto F sz E n).E->q∈E
 |0,_,hq=>hq
 |n+1,q,hq=>h _ (upto_E h n) q hq
theorem upto_sz {α:Type}{F:Kd α->Kd α}{sz:Nat}{E:List Nat}(h:∀d:Kd α,(F d).sz=sz):∀n,(upto F sz E n).sz=sz
 |0=>rfl
 |_+1=>h _
section
variable {α:Type}{F:Kd α->Kd α}{sz:Nat}{E:List Nat}{hs:∀n,(upto F sz E n).sz=sz}{hE:∀n q,q∈(upto F sz E n).E->q∈E}
theorem upto_K (hm:Mono F)(hs:∀n,(upto F sz E n).sz=sz):∀n {w x cs},(upto F sz E n).K w x cs->(upto F sz E (n+1)).K w x cs
 |0,_,_,_,h=>h.elim
 |n+1,_,_,_,h=>hm.K _ _ (by rw[hs n,hs (n+1)]) (fun _ _ _ hk=>upto_K hm hs n hk) _ _ _ h
theorem upto_K_le (hm:Mono F)(hs:∀n,(upto F sz E n).sz=sz){n m:Nat}(hnm:n<=m){w x cs}(h:(upto F sz E n).K w x cs):(upto F sz E m).K w x cs:=by
 obtain⟨j,rfl⟩:=Nat.exists_eq_add_of_le hnm
 induction j with
 |zero=>exact h
 |succ j ih=>exact upto_K hm hs _ (ih (by omega))
theorem fix_C {n:Nat}{w:World}{A:Option Addr}{m:Nat}{xs:List α}(h:(upto F sz E n).C w A m xs):(fix F sz E hs hE).C w A m xs:=C_imp (d':=fix F sz E hs hE) (hs n) (fun w x cs hp=>(⟨n,hp⟩:∃n,(upto F sz E n).K w x cs)) h
theorem bounded {P:Nat->Nat->Prop}(hP:∀n m j,n<=m->P n j->P m j):∀m,(∀j,j<m->∃n,P n j)->∃N,∀j,j<m->P N j
 |0,_=>⟨0,fun j hj=>absurd hj (dn j)⟩
 |m+1,h=>by
  obtain⟨N,hN⟩:=bounded hP m (fun j hj=>h j (by omega));obtain⟨n,hn⟩:=h m (by omega);refine⟨max N n,fun j hj=> ?_⟩
  rcases gh j m with hj' | hj'
  ·exact hP N _ j (Nat.le_max_left _ _) (hN j hj')
  ·have:j=m:=by omega
   subst this;exact hP n _ j (Nat.le_max_right _ _) hn
theorem j7 (hm:Mono F){w:World}{A:Option Addr}{m:Nat}{xs:List α}(h:(fix F sz E hs hE).C w A m xs):∃n,(upto F sz E n).C w A m xs:=by
 rcases bu m with hz | hpos
 ·subst hz;exact⟨0,h.1,h.2.1,fun hp=>absurd hp (Nat.lt_irrefl 0)⟩
 ·obtain⟨ad,e,hc⟩:=h.2.2 hpos
  obtain⟨N,hN⟩:=bounded (P:=fun n j=>∀p,xs[j]? =ae p->∃c,c.length=sz/\(upto F sz E n).K w p c/\∀i u,c[i]? =ae u->w.cell? (ad.add (j*sz+i))=ae u)
   (fun n n' j hnm hp p hj=>by
     obtain⟨c,h1,h2,h3⟩:=hp p hj
     exact⟨c,h1,upto_K_le hm hs hnm h2,h3⟩) xs.length
   (fun j hj=>by
     obtain⟨c,h1,⟨n,h2⟩,h3⟩:=hc j _ (av hj);refine⟨n,fun p hp=> ?_⟩;rw[av hj]at hp;injection hp with hp;rw[←hp]
     exact⟨c,h1,h2,h3⟩)
  refine⟨N,h.1,h.2.1,fun _=>⟨ad,e,fun j p hj=> ?_⟩⟩;rw[hs N];exact hN j (cz.1 hj).1 p hj
theorem lQ (hm:Mono F)(hs:∀n,(upto F sz E n).sz=sz){n m:Nat}(hnm:n<=m){w:World}{A:Option Addr}{l:Nat}{xs:List α}(h:(upto F sz E n).C w A l xs):(upto F sz E m).C w A l xs:=C_imp (by rw[hs n,hs m]) (fun _ _ _ hp=>upto_K_le hm hs hnm hp) h
end
end Kd
namespace Kd
section
variable {α β:Type}{d:Kd α}{d':Kd β}{e e':Nat}{w w1 W:World}{base b b':Nat}{ok ok' okv oku:Nat->Prop}{v u:Value}{xs:List α}{ys:List β}
theorem R_alloc (h:d.R e w base ok v xs)(o:Obj):d.R e (w.alloc o) base ok v xs:=dA h (bC (ak _ _) o)
theorem R_drew (h:d.R e w base ok v xs):d.R e w.drew base ok v xs:=dA h (below_drew (ak _ _))
theorem R_drewN (h:d.R e w base ok v xs)(m:Nat):d.R e (w.drewN m) base ok v xs:=dA h (aV (ak _ _) m)
theorem fY (d:Kd α)(w:World):d.C w aj ([]:List α).length []:=⟨rfl,by simp,fun h=>absurd h (Nat.lt_irrefl 0)⟩
theorem kL {A:Option Addr}{n c:Nat}(h:d.R e w base ok (.slice A n c) xs):n=xs.length/\n<=c/\d.C w A xs.length xs:=by
 obtain⟨A',c',he,hl,hr⟩:=fF h;injection he with h1 h2 h3;subst h1;exact⟨h2,by omega,hr⟩
theorem R_lt (h:d.R e w base ok v xs):∀k,v.ownBlock=ae k->k<w.heap.size:=by
 obtain⟨inner,ho⟩:=R_own h;exact own_lt ho
theorem R_base (h:d.R e w base ok v xs):∀k,v.ownBlock=ae k->base<=k:=by
 obtain⟨inner,ho⟩:=R_own h;exact jF ho
theorem R_form (h:d.R e w base ok v xs)(hp:0<xs.length):∃g cap,v=.slice (ae ⟨g,0,aj⟩) xs.length cap/\base<=g/\g<w.heap.size/\∃cells,w.heap[g]? =ae (.cells cells e (0,0)):=by
 obtain⟨inner,ho⟩:=R_own h;obtain⟨g,cap,he,hb,hl⟩:=ho.form hp;obtain⟨cells,hc⟩:=jD ho g (by rw[he];simp[dm]);exact⟨g,cap,he,hb,hl,cells,hc⟩
end
section
variable {w W:World}{A:Option Addr}{n:Nat}
theorem at_int {k:IntKind}{xs:List Int}(h:(Kd.int k).C w A n xs)(i:Int)(h0:0<=i)(h1:i<n):∃ad,A=ae ad/\w.cell? (ad.add i.toNat)=ae (.int k (rd xs i)):=
 lJ.at_ (reads_of_C (enc:=Value.int k) (d:=(0:Int)) (h1:=fun _=>rfl) h) i h0 h1
theorem dY {xs:List ByteArray}(h:Kd.string.C w A n xs)(i:Int)(h0:0<=i)(h1:i<n):∃ad,A=ae ad/\w.cell? (ad.add i.toNat)=ae (.string (kJ ba xs i)):=
 lJ.at_ (reads_of_C (enc:=Value.string) (d:=ba) (h1:=fun _=>rfl) h) i h0 h1
variable {α:Type}{enc:α->Value}{h1:∀x,(enc x).oneCell'=ac}{e base g cap:Nat}{ok:Nat->Prop}{xs:List α}
theorem R_cell (d:α)(h:(scalar enc h1).R e W base ok (.slice (ae ⟨g,0,aj⟩) xs.length cap) xs)(i:Int)(h0:0<=i)(hi:i<xs.length):W.cell? ⟨g,i.toNat,aj⟩=ae (enc (kJ d xs i))/\W.frozen? ⟨g,i.toNat,aj⟩=O:=own_at_of (own_of_R h) i h0 hi
theorem R_put (h:(scalar enc h1).R e W base ok (.slice (ae ⟨g,0,aj⟩) xs.length cap) xs)(i:Int)(x:α):(scalar enc h1).R e (W.setCell ⟨g,i.toNat,aj⟩ (enc x)) base ok (.slice (ae ⟨g,0,aj⟩) xs.length cap) (xs.set i.toNat x)/\W.grownBy (W.setCell ⟨g,i.toNat,aj⟩ (enc x)) (ae g):=by
 obtain⟨ho,hg⟩:=own_store_of (own_of_R h) i x;exact⟨R_of_own (by rw[List.length_set];exact ho) h.1,hg⟩
end
section
variable {P:Program}{ops:Array Oper}{rest:List Oper}{o:Oper}{a:Act}{Q:Exit->Act->World->Prop}
theorem event_run {W w1:World}{v:Value}(hgd:o.guard=aj)(hrun:(execOp a.eval o).run P W=.ok (.value v) w1)(h:wpList P ops Q rest (a.put o.dst v) w1):wpList P ops Q (o::rest) a W:=by
 refine wpList_plain hgd fun K hK=> ?_;unfold fq;rw[hrun];exact hK _ _ h
variable {α:Type}
theorem R_lit (d:Kd α){w0 W:World}(base e:Nat)(hgd:o.guard=aj){N:Tmp}(_hd:o.dst=ae N){xs:List α}{inner:List Value}{ok okp:Nat->Prop}
 (hrun:(execOp a.eval o).run P W=.ok (.value (.slice (ae ⟨W.heap.size,0,aj⟩) xs.length xs.length)) (W.alloc (.cells inner.toArray e)))
 (hrep:eY (d.M W base okp) d.sz xs inner) (hok:∀k,okp k->ok k) (hfresh:ok W.heap.size) (HB:Below base w0 W) (hbase:base<=W.heap.size) (hm:xs.length<=9223372036854775807)
 (h:∀v1 w1,d.R e w1 base ok v1 xs->Below base w0 w1->W.grownBy w1 aj->(∃b,v1.ownBlock=ae b/\W.heap.size<=b)->wpList P ops Q rest (a.put o.dst v1) w1):wpList P ops Q (o::rest) a W:=by
 refine event_run hgd hrun (h _ _ ⟨fun k hk=> ?_,inner,?_,?_⟩ (HB.alloc hbase _) (World.grownBy_alloc W _ aj) ⟨W.heap.size,by simp[dm],ai _⟩)
 ·have:W.heap.size=k:=by simpa[dm]using hk
  subst this;exact hfresh
 ·have h2:=World.ownsRow_lit (base:=base) (e:=e) (size:=d.sz) W inner.toArray xs.length hbase (by simpa[maxLen]using hm) (by simpa using hrep.1)
  simpa using h2
 ·refine hrep.imp_ (fun p c hp=>d.M_mono (fun k hk=>⟨hok k hk.1,fun he=> ?_⟩) (M_below (d.M_bound hp) (bC (ak _ _) _)))
  have h3:k=W.heap.size:=by simpa[dm]using he
  have:=hk.2.2.1;omega
end
end Kd
def QRow (w:World)(base:Nat)(e:TypeId)(size:Nat)(v:Value)(n:Nat)(xs:List Value):Prop:=
 xs.length=n*size/\
 ((n=0/\∃A,v=.slice A 0 0/\∀a,A=ae a->base<=a.block/\∃cur,w.heap[a.block]? =ae (.cells cur e (0,0)))\/
  ∃g off cap cur,v=.slice (ae ⟨g,off*size,aj⟩) n cap/\base<=g/\w.heap[g]? =ae (.cells cur e (0,0))/\n<=cap/\off+cap<=maxLen/\cur.size=(off+cap)*size/\(cur.toList.drop (off*size)).take (n*size)=xs)
section
variable {w w1:World}{base n size:Nat}{e:TypeId}{v:Value}{xs:List Value}
theorem add_at (g o j:Nat):(⟨g,o,aj⟩:Addr).add j=⟨g,o+j,aj⟩:=by unfold Addr.add;split <;> simp_all
end
namespace Kd
def Q {α:Type}(d:Kd α)(e:Nat)(w:World)(base:Nat)(ok:Nat->Prop)(v:Value)(xs:List α):Prop:=
 (∀k,v.ownBlock=ae k->ok k)/\∃inner,QRow w base e d.sz v xs.length inner/\eY (d.M w base (fun k=>ok k/\ae k≠v.ownBlock)) d.sz xs inner
end Kd
namespace Kd
theorem reps_append {α:Type}{R:α->List Value->Prop}{size:Nat}{ps qs:List α}{cs ds:List Value}(h:eY R size ps cs)(h':eY R size qs ds):eY R size (ps++qs) (cs++ds):=by
 refine⟨by rw[ar,ar,h.1,h'.1,Nat.add_mul],fun j p hj=> ?_⟩
 rcases gh j ps.length with hlt | hge
 ·rw[fu hlt]at hj
  have hle:j*size+size<=cs.length:=by rw[h.1,←Nat.succ_mul];exact gn _ hlt
  rw[List.drop_append_of_le_length (by omega),List.take_append_of_le_length (by rw[eu];omega)];exact h.2 j p hj
 ·rw[List.getElem?_append_right hge]at hj;have h2:=h'.2 (j - ps.length) p hj;have hle:ps.length*size<=j*size:=gn _ hge;rw[List.drop_append,gr (by rw[h.1];exact hle),List.nil_append,h.1,←Nat.sub_mul];exact h2
end Kd
theorem add_add (a:Addr)(i j:Nat):(a.add i).add j=a.add (i+j):=by
 unfold Addr.add
 by_cases h1:i=0 <;> by_cases h2:j=0 <;> simp[h1,h2,db]
namespace Kd
section
variable {α:Type}{k:Kd α}{w:World}{A:Option Addr}{xs:List α}{m c:Nat}
theorem C_take (h:k.C w A xs.length xs)(hm:m<=xs.length):k.C w A (xs.take m).length (xs.take m):=by
 have hl:(xs.take m).length=m:=by rw[bq];omega
 refine⟨rfl,by rw[hl];have:=h.2.1;omega,fun hp=> ?_⟩;obtain⟨ad,e,hc⟩:=h.2.2 (by omega);refine⟨ad,e,fun j p hj=>hc j p ?_⟩;rw[List.getElem?_take]at hj
 split at hj
 ·exact hj
 ·cases hj
end
end Kd
theorem below_size {w W:World}(h:Below w.heap.size w W):w.heap.size<=W.heap.size:=h.size
theorem iC {w W w2:World}(h:Below w.heap.size w W)(k:Below W.heap.size W w2):Below w.heap.size w w2:=below_then h h.size k
theorem gL {w:World}{g:Nat}{t:TypeId}{cs cs':Array Value}(h:w.heap[g]? =ae (.cells cs t (0,0)))(i:Nat)(u:Value)(e:cs.setIfInBounds i u=cs'):(w.setCell ⟨g,i,aj⟩ u).heap[g]? =ae (.cells cs' t (0,0)):=e ▸ blk_set h i u
theorem bI {base:Nat}{w W:World}(h:Below base w W):Below base w W.drew:=h.drew
namespace Kd
section
variable {α:Type}{enc:α->Value}{h1:∀x,(enc x).oneCell'=ac}{e base g n cap:Nat}{ok:Nat->Prop}{W:World}{xs:List α}
theorem R_celln (d:α)(h:(scalar enc h1).R e W base ok (.slice (ae ⟨g,0,aj⟩) n cap) xs)(i:Int)(h0:0<=i)(hi:i<n):W.cell? ⟨g,i.toNat,aj⟩=ae (enc (kJ d xs i))/\W.frozen? ⟨g,i.toNat,aj⟩=O:=by
 obtain⟨rfl,_⟩:=kL h;exact R_cell d h i h0 hi
theorem R_putn (h:(scalar enc h1).R e W base ok (.slice (ae ⟨g,0,aj⟩) n cap) xs)(i:Int)(x:α):(scalar enc h1).R e (W.setCell ⟨g,i.toNat,aj⟩ (enc x)) base ok (.slice (ae ⟨g,0,aj⟩) n cap) (xs.set i.toNat x):=by
 obtain⟨rfl,_⟩:=kL h;exact(R_put h i x).1
end
end Kd
section
variable {P:Program}{ops:Array Oper}{rest:List Oper}{o:Oper}{a:Act}{Q:Exit->Act->World->Prop}{W:World}
theorem gate_dst {N:Tmp}(_hN:o.dst=ae N)(h:wpList P ops Q (o::rest) a W):wpList P ops Q (o::rest) a W:=h
end
section
variable {P:Program}{ops:Array Oper}{o:Oper}{a:Act}{Q:Exit->Act->World->Prop}{Kc:Act->World->Prop}
theorem cO {W w1:World}{v:Value}(hw:ct o (yielded ops a.tmps)=ac)(hrun:(execOp a.eval o).run P W=.ok (.value v) w1)(h:Kc (a.put o.dst v) w1):if ct o (yielded ops a.tmps)=ac then fq P o a W Kc Q else Kc (a.put o.dst undef) W:=by
 rw[if_pos hw];unfold fq;rw[hrun];exact h
theorem box_step {W:World}(hw:ct o (yielded ops a.tmps)=ac){N:Tmp}(_hd:o.dst=ae N){cs:Array Value}{t:TypeId}
 (hrun:(execOp a.eval o).run P W=.ok (.value (.pointer (ae ⟨W.heap.size,0,aj⟩))) (W.alloc (.cells cs t (0,0))))
 (h:∀g,g=W.heap.size->∀w1,w1.heap[g]? =ae (.cells cs t (0,0))->Below W.heap.size W w1->Kc (a.put o.dst (.pointer (ae ⟨g,0,aj⟩))) w1):if ct o (yielded ops a.tmps)=ac then fq P o a W Kc Q else Kc (a.put o.dst undef) W:=
 cO hw hrun (h _ rfl _ (bR W _) (bC (ak _ _) _))
namespace Kd
variable {α:Type}
theorem fS (d:Kd α){w0 W:World}(base e:Nat)(hw:ct o (yielded ops a.tmps)=ac){N:Tmp}(_hd:o.dst=ae N){xs:List α}{inner:List Value}{ok okp:Nat->Prop}
 (hrun:(execOp a.eval o).run P W=.ok (.value (.slice (ae ⟨W.heap.size,0,aj⟩) xs.length xs.length)) (W.alloc (.cells inner.toArray e)))
 (hrep:eY (d.M W base okp) d.sz xs inner) (hok:∀k,okp k->ok k) (hfresh:ok W.heap.size) (HB:Below base w0 W) (hbase:base<=W.heap.size) (hm:xs.length<=9223372036854775807)
 (h:∀v1 w1,d.R e w1 base ok v1 xs->Below base w0 w1->W.grownBy w1 aj->(∃b,v1.ownBlock=ae b/\W.heap.size<=b)->Kc (a.put o.dst v1) w1):if ct o (yielded ops a.tmps)=ac then fq P o a W Kc Q else Kc (a.put o.dst undef) W:=by
 refine cO hw hrun (h _ _ ⟨fun k hk=> ?_,inner,?_,?_⟩ (HB.alloc hbase _) (World.grownBy_alloc W _ aj) ⟨W.heap.size,by simp[dm],ai _⟩)
 ·have:W.heap.size=k:=by simpa[dm]using hk
  subst this;exact hfresh
 ·have h2:=World.ownsRow_lit (base:=base) (e:=e) (size:=d.sz) W inner.toArray xs.length hbase (by simpa[maxLen]using hm) (by simpa using hrep.1)
  simpa using h2
 ·refine hrep.imp_ (fun p c hp=>d.M_mono (fun k hk=>⟨hok k hk.1,fun he=> ?_⟩) (M_below (d.M_bound hp) (bC (ak _ _) _)))
  have h3:k=W.heap.size:=by simpa[dm]using he
  have:=hk.2.2.1;omega
theorem cT (d:Kd α){Rr:α->List Value->Prop}{w0 W:World}(base:Nat)(hw:ct o (yielded ops a.tmps)=ac)(s x:Operand)(t e:TypeId)(z:Value)(bytes:Nat)
 (ho:o.op=.call { callee:=.builtin .append,args:= #[s,x],argTypes:= #[t,t] })
 (ht:P.underlying t=ae (.slice e)) (hinfo:(P.info? e).map (fun i=>(i.zero,i.size,i.bytes))=ae (ae z,d.sz,bytes)) (hz:z.cells.size=d.sz) (hs0:0<d.sz) (hb0:0<bytes)
 (v:Value) (xs ys:List α) (A:Option Addr) (m c:Nat) (ok okp:Nat->Prop) (hs:a.eval s=v) (hx:a.eval x=.slice A m c)
 (HO:d.R e W base ok v xs) (HR:cQ Rr d.sz W A m ys) (hKM:∀x cs,Rr x cs->d.M W base okp x cs) (hokp:∀k,okp k->ok k/\ae k≠v.ownBlock) (hfresh:∀k,W.heap.size<=k->ok k)
 (HB:Below base w0 W) (hbase:base<=W.heap.size) (hl:(xs.length+m)*bytes<=140737488355328)
 (h:∀v1 w1,d.R e w1 base ok v1 (xs++ys)->Below base w0 w1->W.grownBy w1 v.ownBlock->(v1.ownBlock=v.ownBlock\/∃b,v1.ownBlock=ae b/\W.heap.size<=b)->Kc (a.put o.dst v1) w1):
 if ct o (yielded ops a.tmps)=ac then fq P o a W Kc Q else Kc (a.put o.dst undef) W:=by
 obtain⟨i0,hi,hzz⟩:=Option.map_eq_some_iff.1 hinfo;simp only[Prod.mk.injEq]at hzz;obtain⟨hz0,hz1,hz2⟩:=hzz;have hm:ys.length=m:=HR.1;have hlen:xs.length+m<=140737488355328:=bg (Nat.le_mul_of_pos_right _ hb0) hl;obtain⟨hok,inner,hown,hr⟩:=HO
 have hrun:∃v1 w1,(Builtin.append_ #[t,t] o.type #[v,.slice A m c]).run P W=.ok v1 w1/\d.R e w1 base ok v1 (xs++ys)/\W.grownBy w1 v.ownBlock/\(v1.ownBlock=v.ownBlock\/∃b,v1.ownBlock=ae b/\W.heap.size<=b):=by
  rcases A with _ | ad
  ·have h0:m=0:=by
    rcases bu m with h0 | h0
    ·exact h0
    ·obtain⟨ad,h,_⟩:=HR.2.2 h0;cases h
   subst h0;obtain rfl:ys=[]:=bk hm;refine⟨v,W,?_,by rw[ek];exact⟨hok,inner,hown,hr⟩,World.grownBy.refl W _,.inl rfl⟩
   rcases hown.2 with ⟨rfl,hn⟩ | ⟨g,cap,cur,rfl,_,_,hnc,_⟩
   ·simp[Builtin.append_,run_underlying ht,sizeOf,typeInfo,hi,Builtin.lenOf,Builtin.firstCells]
   ·simp[Builtin.append_,run_underlying ht,sizeOf,typeInfo,hi,Builtin.lenOf,Builtin.firstCells,hnc,storeCells]
  ·obtain⟨news,hnr,hnc⟩:=cQ.inner_ HR;have hnM:eY (d.M W base okp) d.sz ys news:=hnr.imp_ (fun p c hp=>hKM p c hp)
   have hone:∀u∈news,u.oneCell'=ac:=by
    intro u hu;obtain⟨q,hq,rfl⟩:=List.mem_iff_getElem.1 hu
    have hql:q / d.sz<ys.length:=by
     rw[Nat.div_lt_iff_lt_mul hs0];rw[←hnM.1];exact hq
    have hc:=hnM.2 (q / d.sz) _ (av hql);refine d.K_one (d.K_of_M hc) _ ?_;rw[List.mem_iff_getElem?];refine⟨q % d.sz,?_⟩;rw[List.getElem?_take,if_pos (Nat.mod_lt _ hs0),List.getElem?_drop,Nat.mul_comm,Nat.div_add_mod,av hq]
   obtain⟨v1,w1,hrun,h2,hg,_,hat⟩:=run_append_own_at (P:=P) W base t o.type e i0 z d.sz bytes ht hi hz0 hz1 hz2 hz hs0 v xs.length inner hown ad m c news (by rw[hnM.1,hm]) hnc hone (by simp only[maxLen];omega) hl hbase
   have hat':v1.ownBlock=v.ownBlock\/∃b,v1.ownBlock=ae b/\W.heap.size<=b:=by
    rcases hat with hat | hat
    ·exact .inl hat
    ·exact .inr ⟨_,hat,ai _⟩
   have hne:∀k,ae k≠v.ownBlock->k<W.heap.size->ae k≠v1.ownBlock:=by
    intro k hk hlt
    rcases hat' with hat | ⟨b,hb,hle⟩
    ·rw[hat];exact hk
    ·rw[hb];intro he;injection he with he;omega
   have step:∀{q:α} {c:List Value} {o:Nat->Prop},d.M W base o q c->(∀k,o k->ok k/\ae k≠v.ownBlock)->d.M w1 base (fun k=>ok k/\ae k≠v1.ownBlock) q c:=by
    intro q c o hq ho;have h1:=d.M_move (w1:=w1) (fun k hk=>hg.block k hk.2.2.1 (ho k hk.1).2) (d.M_bound hq);exact d.M_mono (fun k hk=>⟨(ho k hk.1).1,hne k (ho k hk.1).2 hk.2.2.1⟩) h1
   refine⟨v1,w1,hrun,⟨fun k hk=> ?_,inner++news,by rw[ar,hm];exact h2,reps_append (hr.imp_ (fun _ _ hq=>step hq (fun _ hk=>hk))) (hnM.imp_ (fun _ _ hq=>step hq hokp))⟩,hg,hat'⟩
   rcases hat' with hat | ⟨b,hb,hle⟩
   ·exact hok k (hat ▸ hk)
   ·rw[hb]at hk;injection hk with hk;exact hfresh k (by omega)
 obtain⟨v1,w1,hr1,h1,hg,hat⟩:=hrun;rw[if_pos hw];unfold fq execOp;simp only[ho,resolve,invoke,builtin,Sem.run_bind,Sem.run_pure,Result.andThen_ok,cd,cq,dc,hs,hx,hr1];exact h v1 w1 h1 (HB.grown hg hbase (jF hown)) hg hat
end Kd
end
end Go.Proofs.YtfigjpehecibeaaGreatW.PrintWords
end
namespace Go.Proofs.YtfigjpehecibeaaGreatW.PrintLast
section
variable {P:Program}{ops:Array Oper}{Q:Exit->Act->World->Prop}{md:gp}{S:World->Prop}{ds:List Nat}
def Region.reachB (md:gp)(ops:Array Oper)(i:Nat):Nat->Nat->Bool
 |0,_=>O
 |fuel+1,d=>match ops[d]? with
  |some o=>o.after.any fun e=>Region.binds md e&&(e.on==i||Region.reachB md ops i fuel e.on)
  |none=>O
def Region.closedB (md:gp)(ops:Array Oper)(listed:Array Bool):Bool:=
 (cr ops.size).all fun j=> !listed.getD j O||match ops[j]? with
   |some o=>o.after.all fun e=> !Region.binds md e||listed.getD e.on O
   |none=>ac
def Region.lastB (md:gp)(ops:Array Oper)(listed:Array Bool)(ds:List Nat)(i:Nat):Bool:=
 ds.all fun d=>listed.getD d ac||Region.reachB md ops i ops.size d
def cX (md:gp)(ops:Array Oper)(listed:Array Bool):Prop:=
 ∀j oj,ops[j]? =ae oj->listed.getD j O=ac->∀e∈oj.after,Region.binds md e=ac->listed.getD e.on O=ac
theorem Region.closedB_spec {listed:Array Bool}(h:Region.closedB md ops listed=ac):cX md ops listed:=by
 intro j oj hj hl e he hb;have hlt:j<ops.size:=(Array.getElem?_eq_some_iff.1 hj).1;have h1:=ew.1 h j (gq.2 hlt);simp only[hl,hj,Bool.not_true,Bool.false_or]at h1;have h2:=Array.all_eq_true_iff_forall_mem.1 h1 e he
 simpa[hb]using h2
theorem cX.set {listed:Array Bool}{i:Nat}(h:cX md ops listed)(hi:i∈ez md ops listed):cX md ops (listed.setIfInBounds i ac):=by
 obtain⟨_,oi,hoi,hall⟩:=mem_ready.1 hi;intro j oj hj hl e he hb
 by_cases hij:i=j
 ·subst hij;have:oj=oi:=cn (hj.symm.trans hoi);subst this;exact getD_set_true (hall e he hb)
 ·rw[getD_set_ne O hij]at hl;exact getD_set_true (h j oj hj hl e he hb)
theorem Region.reach_listed {listed:Array Bool}{i:Nat}(hc:cX md ops listed):∀(fuel d:Nat),Region.reachB md ops i fuel d=ac->listed.getD d O=ac->listed.getD i O=ac
 |0,_,h,_=>by simp[Region.reachB]at h
 |fuel+1,d,h,hl=>by
  unfold Region.reachB at h
  cases ho:ops[d]? with
  |none=>rw[ho]at h;simp at h
  |some o=>
   rw[ho]at h;obtain⟨e,he,h1⟩:=Array.any_eq_true'.1 h;simp only[dg,Bool.or_eq_true,beq_iff_eq]at h1;have hle:=hc d o ho hl e he h1.1
   rcases h1.2 with h2 | h2
   ·rw[←h2];exact hle
   ·exact Region.reach_listed hc fuel e.on h2 hle
theorem Region.reach_not_ready {listed:Array Bool}{i d fuel:Nat}(hc:cX md ops listed)(hr:Region.reachB md ops i fuel d=ac)(hun:listed.getD i ac=O):d ∉ ez md ops listed:=by
 intro hd;obtain⟨_,o,ho,hall⟩:=mem_ready.1 hd
 have hi:listed.getD i O=ac:=by
  cases fuel with
  |zero=>simp[Region.reachB]at hr
  |succ n=>
   unfold Region.reachB at hr;rw[ho]at hr;obtain⟨e,he,h1⟩:=Array.any_eq_true'.1 hr;simp only[dg,Bool.or_eq_true,beq_iff_eq]at h1;have hle:=hall e he h1.1
   rcases h1.2 with h2 | h2
   ·rw[←h2];exact hle
   ·exact Region.reach_listed hc n e.on h2 hle
 rcases gh i listed.size with h' | h'
 ·simp[h']at hun hi;rw[hun]at hi;cases hi
 ·simp[Array.getElem?_eq_none h']at hun
def aT (P:Program)(md:gp)(ops:Array Oper)(Q:Exit->Act->World->Prop)(S:World->Prop)(ds:List Nat):Nat->Array Bool->Act->World->Prop
 |0,listed,a,w=>ez md ops listed=[]/\Q .normal a w
 |fuel+1,listed,a,w=>
  (ez md ops listed=[]->Q .normal a w)/\
  ∀i∈ez md ops listed,wpOp P ops Q i (fun a' w'=>(i ∉ ds->S w->S w')/\aT P md ops Q S ds fuel (listed.setIfInBounds i ac) a' w') a w
theorem iX:∀(fuel:Nat) (listed:Array Bool) (a:Act) (w:World),aT P md ops Q S ds fuel listed a w->wpAny P md ops Q fuel listed a w
 |0,_,_,_,h=>h
 |fuel+1,_,_,_,h=>⟨h.1,fun i hi=>wpOp_mono (fun a' w' h'=>iX fuel _ a' w' h'.2) (h.2 i hi)⟩
theorem lI {i:Nat}{oi:Oper}{v:Value}(hi:ops[i]? =ae oi)(hsel:∀(j:Nat) (o:Oper) cs b,ops[j]? =ae o->o.op≠ .select cs b)
 (hQ:∀c a w,Q (.panic c) (a.put oi.dst v) w->Q (.panic c) a w) (n:Nat):
 ∀(fuel:Nat) (listed:Array Bool) (a:Act) (w:World),
  (∀j oj,ops[j]? =ae oj->j≠i->listed.getD j ac=O->(∀e∈oj.after,Region.binds md e=ac->e.on≠i)->oi.apart ops oj=ac)->
  cX md ops listed->(∀d∈ds,listed.getD d ac=O->Region.reachB md ops i n d=ac)->
  i∈ez md ops listed->YieldsIf P ops S oi v a->S w->
  aT P md ops Q S ds fuel (listed.setIfInBounds i ac) (a.put oi.dst v) w->aT P md ops Q S ds (fuel+1) listed a w:=by
 intro fuel
 induction fuel with
 |zero=>
  intro listed a w _ _ _ hr hy hS H;refine⟨fun h=>(by rw[h]at hr;cases hr),fun j hj=> ?_⟩
  by_cases hji:j=i
  ·subst hji;exact hy.wpOp hi hS ⟨fun _ h=>h,H⟩
  ·have:=ready_mono hj hji;rw[H.1]at this;cases this
 |succ fuel ih=>
  intro listed a w hfree hc hd hr hy hS H;refine⟨fun h=>(by rw[h]at hr;cases hr),fun j hj=> ?_⟩
  by_cases hji:j=i
  ·subst hji;exact hy.wpOp hi hS ⟨fun _ h=>h,H⟩
  ·have h1:=H.2 j (ready_mono hj hji);obtain⟨hjun,oj,hoj,hall⟩:=mem_ready.1 hj;have hiun:=(mem_ready.1 hr).1
   have hnot:∀e∈oj.after,Region.binds md e=ac->e.on≠i:=fun e he hb heq=>by
    have h1:=hall e he hb;rw[heq]at h1
    rcases gh i listed.size with h' | h'
    ·simp[h']at hiun h1;rw[hiun]at h1;cases h1
    ·simp[Array.getElem?_eq_none h']at h1
   have hjd:j ∉ ds:=fun hm=>Region.reach_not_ready hc (hd j hm hjun) hiun hj;have h2:=wpOp_putIf hoj (hfree j oj hoj hji hjun hnot) (fun cs b=>hsel i oi cs b hi) (fun cs b=>hsel j oj cs b hoj) hQ hy h1
   have hfree':∀k ok,ops[k]? =ae ok->k≠i->(listed.setIfInBounds j ac).getD k ac=O->
    (∀e∈ok.after,Region.binds md e=ac->e.on≠i)->oi.apart ops ok=ac:=fun k ok hk hki hun hno=>by
    refine hfree k ok hk hki ?_ hno
    by_cases hjk:j=k
    ·subst hjk;exact hjun
    ·rw[getD_set_ne ac hjk]at hun;exact hun
   have hd':∀d∈ds,(listed.setIfInBounds j ac).getD d ac=O->Region.reachB md ops i n d=ac:=fun d hm hun=>by
    refine hd d hm ?_
    by_cases hjk:j=d
    ·subst hjk;exact hjun
    ·rw[getD_set_ne ac hjk]at hun;exact hun
   refine wpOp_mono (fun a' w' h3=>⟨h3.2.1,ih (listed.setIfInBounds j ac) a' w' hfree' (hc.set hj) hd' (ready_mono hr (Ne.symm hji)) h3.1 (h3.2.1 hjd hS) ?_⟩) h2;rw[Array.setIfInBounds_comm _ _ hji];exact h3.2.2
theorem wpAnyLast_any {i:Nat}{oi:Oper}{v:Value}(hi:ops[i]? =ae oi)(hsel:∀(j:Nat) (o:Oper) cs b,ops[j]? =ae o->o.op≠ .select cs b)
 (hQ:∀c a w,Q (.panic c) (a.put oi.dst v) w->Q (.panic c) a w):
 ∀(fuel:Nat) (listed:Array Bool) (a:Act) (w:World),
  (∀j oj,ops[j]? =ae oj->j≠i->listed.getD j ac=O->(∀e∈oj.after,Region.binds md e=ac->e.on≠i)->oi.apart ops oj=ac)->
  i∈ez md ops listed->Yields P ops oi v a->
  aT P md ops Q S ds fuel (listed.setIfInBounds i ac) (a.put oi.dst v) w->aT P md ops Q S ds (fuel+1) listed a w:=by
 intro fuel
 induction fuel with
 |zero=>
  intro listed a w _ hr hy H;refine⟨fun h=>(by rw[h]at hr;cases hr),fun j hj=> ?_⟩
  by_cases hji:j=i
  ·subst hji;exact(hy.yieldsIf (S:=fun _=>True)).wpOp hi trivial ⟨fun _ h=>h,H⟩
  ·have:=ready_mono hj hji;rw[H.1]at this;cases this
 |succ fuel ih=>
  intro listed a w hfree hr hy H;refine⟨fun h=>(by rw[h]at hr;cases hr),fun j hj=> ?_⟩
  by_cases hji:j=i
  ·subst hji;exact(hy.yieldsIf (S:=fun _=>True)).wpOp hi trivial ⟨fun _ h=>h,H⟩
  ·have h1:=H.2 j (ready_mono hj hji);obtain⟨hjun,oj,hoj,hall⟩:=mem_ready.1 hj;have hiun:=(mem_ready.1 hr).1
   have hnot:∀e∈oj.after,Region.binds md e=ac->e.on≠i:=fun e he hb heq=>by
    have h1:=hall e he hb;rw[heq]at h1
    rcases gh i listed.size with h' | h'
    ·simp[h']at hiun h1;rw[hiun]at h1;cases h1
    ·simp[Array.getElem?_eq_none h']at h1
   have h2:=wpOp_put hoj (hfree j oj hoj hji hjun hnot) (fun cs b=>hsel i oi cs b hi) (fun cs b=>hsel j oj cs b hoj) hQ hy h1
   have hfree':∀k ok,ops[k]? =ae ok->k≠i->(listed.setIfInBounds j ac).getD k ac=O->
    (∀e∈ok.after,Region.binds md e=ac->e.on≠i)->oi.apart ops ok=ac:=fun k ok hk hki hun hno=>by
    refine hfree k ok hk hki ?_ hno
    by_cases hjk:j=k
    ·subst hjk;exact hjun
    ·rw[getD_set_ne ac hjk]at hun;exact hun
   refine wpOp_mono (fun a' w' h3=>⟨h3.2.1,ih (listed.setIfInBounds j ac) a' w' hfree' (ready_mono hr (Ne.symm hji)) h3.1 ?_⟩) h2;rw[Array.setIfInBounds_comm _ _ hji];exact h3.2.2
theorem wpAnyLast_take {i:Nat}{oi:Oper}{v:Value}{fuel:Nat}{listed:Array Bool}{a:Act}{w:World}(hi:ops[i]? =ae oi)
 (hs:Region.noSelect ops=ac) (hf:Region.free md ops listed i=ac) (hr:(ez md ops listed).contains i=ac)
 (hc:Region.closedB md ops listed=ac) (hl:Region.lastB md ops listed ds i=ac)
 (hQ:∀c a w,Q (.panic c) (a.put oi.dst v) w->Q (.panic c) a w) (hy:YieldsIf P ops S oi v a) (hS:S w)
 (h:aT P md ops Q S ds fuel (listed.setIfInBounds i ac) (a.put oi.dst v) w):aT P md ops Q S ds (fuel+1) listed a w:=
 lI hi (Region.noSelect_spec hs) hQ ops.size fuel listed a w (Region.free_spec hi hf) (Region.closedB_spec hc)
  (fun d hm hun=>by have:=ew.1 hl d hm;rw[hun]at this;simpa using this) (by simpa using hr) hy hS h
theorem wpAnyLast_all {rs:List Nat}{fuel:Nat}{listed:Array Bool}{a:Act}{w:World}(hr:ez md ops listed=rs)(hne:rs≠[])
 (h:∀i∈rs,wpOp P ops Q i (fun a' w'=>(i ∉ ds->S w->S w')/\aT P md ops Q S ds fuel (listed.setIfInBounds i ac) a' w') a w):aT P md ops Q S ds (fuel+1) listed a w:=
 ⟨fun h0=>absurd (hr ▸ h0) hne,hr ▸ h⟩
theorem wpAnyLast_done {listed:Array Bool}{a:Act}{w:World}(hr:ez md ops listed=[])(h:Q .normal a w):
 ∀fuel,aT P md ops Q S ds fuel listed a w
 |0=>⟨hr,h⟩
 |_+1=>⟨fun _=>h,by rw[hr];simp⟩
theorem wp_region_last {id:Nat}{a:Act}{w:World}(hm:P.follows .mixedOrders=ac)
 (h:aT P .any ops Q S ds ops.size (Array.replicate ops.size O) a { w with drawn:=w.drawn+1 }):(Code.region id ops ac).wp P Q a w:=
 wp_region_any hm (iX _ _ _ _ h)
end
section
variable {P:Program}{ops:Array Oper}{Q:Exit->Act->World->Prop}{md:gp}{S:World->Prop}{ds:List Nat}
def bU (P:Program)(md:gp)(ops:Array Oper)(Q:Exit->Act->World->Prop)(S:World->Prop)(ds:List Nat)(fuel:Nat)(listed:Array Bool)(a:Act)(w:World)(rs:List Nat):Prop:=
 ∀i∈rs,wpOp P ops Q i (fun a' w'=>(i ∉ ds->S w->S w')/\aT P md ops Q S ds fuel (listed.setIfInBounds i ac) a' w') a w
theorem bU.nil {fuel:Nat}{listed:Array Bool}{a:Act}{w:World}:bU P md ops Q S ds fuel listed a w []:=fun _ h=>by cases h
theorem bU.cons {fuel:Nat}{listed:Array Bool}{a:Act}{w:World}{i:Nat}{o:Oper}{rs:List Nat}(ho:ops[i]? =ae o)(hd:i ∉ ds)
 (h:∀K':Act->World->Prop,Shut (∀a w,S w->(S w->aT P md ops Q S ds fuel (listed.setIfInBounds i ac) a w)->K' a w)->if ct o (yielded ops a.tmps)=ac then fq P o a w K' Q else K' (a.put o.dst undef) w)
 (hs:bU P md ops Q S ds fuel listed a w rs):bU P md ops Q S ds fuel listed a w (i::rs):=fun j hj=>by
 rcases cg.1 hj with rfl | hj
 ·exact wpOp_step ho (fun K' hK=>h K' (fun a w hS hW=>hK a w ⟨fun _ _=>hS,hW hS⟩))
 ·exact hs j hj
theorem bU.cons_last {fuel:Nat}{listed:Array Bool}{a:Act}{w:World}{i:Nat}{o:Oper}{rs:List Nat}(ho:ops[i]? =ae o)(hd:i∈ds)
 (h:∀K':Act->World->Prop,Shut (∀a w,aT P md ops Q S ds fuel (listed.setIfInBounds i ac) a w->K' a w)->if ct o (yielded ops a.tmps)=ac then fq P o a w K' Q else K' (a.put o.dst undef) w)
 (hs:bU P md ops Q S ds fuel listed a w rs):bU P md ops Q S ds fuel listed a w (i::rs):=fun j hj=>by
 rcases cg.1 hj with rfl | hj
 ·exact wpOp_step ho (fun K' hK=>h K' (fun a w hW=>hK a w ⟨fun hn=>absurd hd hn,hW⟩))
 ·exact hs j hj
theorem eV {rs:List Nat}{fuel:Nat}{listed:Array Bool}{a:Act}{w:World}(hr:ez md ops listed=rs)(hne:rs≠[])
 (h:bU P md ops Q S ds fuel listed a w rs):aT P md ops Q S ds (fuel+1) listed a w:=wpAnyLast_all hr hne h
theorem gG {id n:Nat}{a:Act}{w:World}(l:Array Bool)(hm:P.follows .mixedOrders=ac)(hn:ops.size=n)(hl:Array.replicate n O=l)(hS:S w.drew)
 (h:S w.drew->aT P .any ops Q S ds n l a w.drew):(Code.region id ops ac).wp P Q a w:=by
 subst hn;subst hl;exact wp_region_last hm (h hS)
def takeB (md:gp)(ops:Array Oper)(ds:List Nat)(l l':Array Bool)(i:Nat):Bool:=
 Region.noSelect ops&&Region.free md ops l i&&(ez md ops l).contains i&&Region.closedB md ops l&&Region.lastB md ops l ds i&&(l.setIfInBounds i ac==l')
theorem eO {i:Nat}{N:Option Tmp}{oi:Oper}{v:Value}{fuel:Nat}{l:Array Bool}{a:Act}{w:World}(l':Array Bool)(hi:ops[i]? =ae oi)(hN:oi.dst=N)(hc:takeB md ops ds l l' i=ac)
 (hQ:∀c a w,Q (.panic c) (a.put oi.dst v) w->Q (.panic c) a w) (hy:YieldsIf P ops S oi v a) (hS:S w) {a':Act} (ha:a.put N v=a')
 (h:aT P md ops Q S ds fuel l' a' w):aT P md ops Q S ds (fuel+1) l a w:=by
 subst ha;subst hN;simp only[takeB,dg,beq_iff_eq]at hc;obtain⟨⟨⟨⟨⟨h1,h2⟩,h3⟩,h4⟩,h5⟩,h6⟩:=hc;subst h6;exact wpAnyLast_take hi h1 h2 h3 h4 h5 hQ hy hS h
def anyB (md:gp)(ops:Array Oper)(l l':Array Bool)(i:Nat):Bool:=
 Region.noSelect ops&&Region.free md ops l i&&(ez md ops l).contains i&&(l.setIfInBounds i ac==l')
theorem bN {i:Nat}{N:Option Tmp}{oi:Oper}{v:Value}{fuel:Nat}{l:Array Bool}{a:Act}{w:World}(l':Array Bool)(hi:ops[i]? =ae oi)(hN:oi.dst=N)(hc:anyB md ops l l' i=ac)
 (hQ:∀c a w,Q (.panic c) (a.put oi.dst v) w->Q (.panic c) a w) (hy:Yields P ops oi v a) {a':Act} (ha:a.put N v=a')
 (h:aT P md ops Q S ds fuel l' a' w):aT P md ops Q S ds (fuel+1) l a w:=by
 subst ha;subst hN;simp only[anyB,dg,beq_iff_eq]at hc;obtain⟨⟨⟨h1,h2⟩,h3⟩,h6⟩:=hc;subst h6;exact wpAnyLast_any hi (Region.noSelect_spec h1) hQ fuel l a w (Region.free_spec hi h2) (by simpa using h3) hy h
def readyB (md:gp)(ops:Array Oper)(l l':Array Bool)(i:Nat):Bool:=(ez md ops l==[i])&&(l.setIfInBounds i ac==l')
theorem jO {i:Nat}{N:Option Tmp}{oi:Oper}{fuel:Nat}{l:Array Bool}{a:Act}{w:World}(l':Array Bool)(hi:ops[i]? =ae oi)(hN:oi.dst=N)(hc:readyB md ops l l' i=ac)(hd:i ∉ ds)
 (h:∀K:Act->World->Prop,Shut (∀a' w',S w'->(S w'->aT P md ops Q S ds fuel l' a' w')->K a' w')->if ct oi (yielded ops a.tmps)=ac then fq P oi a w K Q else K (a.put N undef) w):
 aT P md ops Q S ds (fuel+1) l a w:=by
 subst hN;simp only[readyB,dg,beq_iff_eq]at hc;obtain⟨h1,h2⟩:=hc;subst h2;exact eV h1 (by simp) (bU.cons hi hd (fun K hK=>h K hK) bU.nil)
theorem last_ {i:Nat}{N:Option Tmp}{oi:Oper}{fuel:Nat}{l:Array Bool}{a:Act}{w:World}(l':Array Bool)(hi:ops[i]? =ae oi)(hN:oi.dst=N)(hc:readyB md ops l l' i=ac)(hd:i∈ds)
 (h:∀K:Act->World->Prop,Shut (∀a' w',aT P md ops Q S ds fuel l' a' w'->K a' w')->if ct oi (yielded ops a.tmps)=ac then fq P oi a w K Q else K (a.put N undef) w):
 aT P md ops Q S ds (fuel+1) l a w:=by
 subst hN;simp only[readyB,dg,beq_iff_eq]at hc;obtain⟨h1,h2⟩:=hc;subst h2;exact eV h1 (by simp) (bU.cons_last hi hd (fun K hK=>h K hK) bU.nil)
theorem kG {l:Array Bool}{a:Act}{w:World}{n:Nat}(hr:(ez md ops l==[])=ac)(h:Q .normal a w):aT P md ops Q S ds n l a w:=wpAnyLast_done (by simpa using hr) h n
theorem two_ {i j:Nat}{Ni Nj:Option Tmp}{oi oj:Oper}{fuel:Nat}{l:Array Bool}{a:Act}{w:World}(li lj:Array Bool)(hi:ops[i]? =ae oi)(hj:ops[j]? =ae oj)(hNi:oi.dst=Ni)(hNj:oj.dst=Nj)
 (hc:(ez md ops l==[i,j]&&l.setIfInBounds i ac==li&&l.setIfInBounds j ac==lj)=ac) (hdi:i ∉ ds) (hdj:j ∉ ds)
 (h1:∀K:Act->World->Prop,Shut (∀a' w',S w'->(S w'->aT P md ops Q S ds fuel li a' w')->K a' w')->if ct oi (yielded ops a.tmps)=ac then fq P oi a w K Q else K (a.put Ni undef) w)
 (h2:∀K:Act->World->Prop,Shut (∀a' w',S w'->(S w'->aT P md ops Q S ds fuel lj a' w')->K a' w')->if ct oj (yielded ops a.tmps)=ac then fq P oj a w K Q else K (a.put Nj undef) w):
 aT P md ops Q S ds (fuel+1) l a w:=by
 subst hNi;subst hNj;simp only[dg,beq_iff_eq]at hc;obtain⟨⟨h3,h4⟩,h5⟩:=hc;subst h4;subst h5;exact eV h3 (by simp) (bU.cons hi hdi (fun K hK=>h1 K hK) (bU.cons hj hdj (fun K hK=>h2 K hK) bU.nil))
def iK:Act->List (Tmp × Value)->Act
 |a,[]=>a
 |a,(n,v)::r=>iK (a.put (ae n) v) r
theorem join_ {σ:Type}{fuel:Nat}{l:Array Bool}{a:Act}{w:World}(fuel':Nat)(l':Array Bool)(ns:σ->List (Tmp × Value))(F:σ->World->Prop)
 (hcont:∀s w',F s w'->aT P md ops Q S ds fuel' l' (iK a (ns s)) w')
 (h:(∀s w',F s w'->aT P md ops Q S ds fuel' l' (iK a (ns s)) w')->aT P md ops Q S ds fuel l a w):aT P md ops Q S ds fuel l a w:=h hcont
theorem cG {fuel:Nat}{l:Array Bool}{a a':Act}{w:World}(ha:a=a')(h:aT P md ops Q S ds fuel l a' w):aT P md ops Q S ds fuel l a w:=by
 subst ha;exact h
theorem call_ {oi:Oper}{N:Option Tmp}{a:Act}{w:World}{K:Act->World->Prop}(f:FuncId)(args:Array Value)(hw:ct oi (yielded ops a.tmps)=ac)(hN:oi.dst=N)(hrun:(execOp a.eval oi).run P w=.ok (.enter f args) w)
 (h:Calls P f args w fun e w'=>∃v,e=.returned v/\K (a.put N v) w'):if ct oi (yielded ops a.tmps)=ac then fq P oi a w K Q else K (a.put N undef) w:=by
 rw[if_pos hw];subst hN;unfold fq;rw[hrun,Oper.upon_enter];refine h.mono fun e w'' hh=> ?_;obtain⟨v,rfl,hk⟩:=hh;exact hk
theorem enters_ {f:FuncId}{fn:Func}(hf:P.funcs[f]? =ae fn)(hname:(fn.name== "runtime.NumGoroutine")=O)(hb:fn.body.isSome=ac)(args:Array Value)(w:World):(callFunc f args).run P w=.ok (.enter f args) w:=by
 have h1:fn.name≠ "runtime.NumGoroutine" :=by simpa using hname
 obtain⟨c,hc⟩:=Option.isSome_iff_exists.1 hb;simp[callFunc,hf,h1,hc]
theorem kD {oi:Oper}{N:Option Tmp}{a:Act}{w:World}{K:Act->World->Prop}{f:FuncId}{fn:Func}{as:Array Operand}{ts:Array TypeId}(hf:P.funcs[f]? =ae fn)(hname:(fn.name== "runtime.NumGoroutine")=O)(hb:fn.body.isSome=ac)(args:Array Value)
 (hw:ct oi (yielded ops a.tmps)=ac) (hN:oi.dst=N) (hop:oi.op=.call { callee:=.value (.func f),args:=as,argTypes:=ts }) (hargs:as.map a.eval=args)
 (h:Calls P f args w fun e w'=>∃v,e=.returned v/\K (a.put N v) w'):if ct oi (yielded ops a.tmps)=ac then fq P oi a w K Q else K (a.put N undef) w:=by
 refine call_ f args hw hN ?_ h;have he:=enters_ hf hname hb args w;unfold execOp;simp[hop,resolve,Deferred.ofValue,invoke,Act.eval,hargs,he]
theorem j9 {rest:List Oper}{oi:Oper}{a:Act}{w:World}(N:Option Tmp)(hd:oi.dst=N)(hg:oi.guard=aj){f:FuncId}{fn:Func}{as:Array Operand}{ts:Array TypeId}(hf:P.funcs[f]? =ae fn)(hname:(fn.name== "runtime.NumGoroutine")=O)(hb:fn.body.isSome=ac)(args:Array Value)
 (hop:oi.op=.call { callee:=.value (.func f),args:=as,argTypes:=ts }) (hargs:as.map a.eval=args)
 (h:Calls P f args w fun e w'=>∃v,e=.returned v/\wpList P ops Q rest (a.put N v) w'):wpList P ops Q (oi::rest) a w:=by
 refine wpList_plain hg fun K hK=> ?_;have he:=enters_ hf hname hb args w
 have hrun:(execOp a.eval oi).run P w=.ok (.enter f args) w:=by
  unfold execOp;simp[hop,resolve,Deferred.ofValue,invoke,Act.eval,hargs,he]
 unfold fq;rw[hrun,Oper.upon_enter];refine h.mono fun e w'' hh=> ?_;obtain⟨v,rfl,hk⟩:=hh;subst hd;exact hK _ _ hk
theorem skip_ {oi:Oper}{a:Act}{w w1:World}{K:Act->World->Prop}(hw:ct oi (yielded ops a.tmps)=ac)(hN:oi.dst=aj)(hrun:(execOp a.eval oi).run P w=.ok .skip w1)
 (h:K a w1):if ct oi (yielded ops a.tmps)=ac then fq P oi a w K Q else K (a.put aj undef) w:=by
 rw[if_pos hw];unfold fq;rw[hrun]
 show K (a.put oi.dst undef) w1
 rw[hN];exact h
theorem aQ (n:Int):IntKind.i64.wrap n=Go.RowKit.wrap64 n:=by unfold Go.RowKit.wrap64;exact IntKind.wrap_i64 n
theorem aP (n:Int):IntKind.i32.wrap n=Go.RowKit.wrap32 n:=by unfold Go.RowKit.wrap32;exact IntKind.wrap_i32 n
end
end Go.Proofs.YtfigjpehecibeaaGreatW.PrintLast
section
namespace Go.Proofs.YtfigjpehecibeaaGreatW.PrintWords
open Go.RowKit
namespace Kd
def tag {α:Type}(f:Nat->Nat)(d:Kd α):Kd (α × Nat) where
 sz:=d.sz
 E:=d.E
 K:=fun w x cs=>d.K w x.1 cs
 M:=fun w base ok x cs=>d.M w base (fun k=>ok k/\f k=x.2) x.1 cs
 K_len:=fun h=>d.K_len h
 K_one:=fun h=>d.K_one h
 K_below:=fun hb h=>d.K_below hb h
 K_of_M:=fun h=>d.K_of_M h
 M_mono:=fun hok h=>d.M_mono (fun k hk=>⟨hok k hk.1,hk.2⟩) h
 M_bound:=fun h=>d.M_mono (fun _ hk=>⟨⟨hk.1.1,hk.2⟩,hk.1.2⟩) (d.M_bound h)
 M_move:=fun hm h=>d.M_move (fun k hk=>hm k hk.1) h
 M_lower:=fun hb h=>d.M_lower hb h
def raw (sz:Nat):Kd (List Value) where
 sz:=sz
 E:=[]
 K:=fun _ x cs=>cs=x/\cs.length=sz/\∀u∈cs,u.oneCell'=ac
 M:=fun _ _ _ x cs=>cs=x/\cs.length=sz/\∀u∈cs,u.oneCell'=ac
 K_len:=fun h=>h.2.1
 K_one:=fun h=>h.2.2
 K_below:=fun _ h=>h
 K_of_M:=fun h=>h
 M_mono:=fun _ h=>h
 M_bound:=fun h=>h
 M_move:=fun _ h=>h
 M_lower:=fun _ h=>h
def S {α:Type}(d:Kd α)(e:Nat)(w:World)(base:Nat)(ok:Nat->Prop)(v:Value)(xs:List α):Prop:=∃f,(tag f d).R e w base ok v xs.zipIdx
def gap {α:Type}(f:Nat->Nat)(d:Kd α)(i:Nat)(c:List Value):Kd (α × Nat) where
 sz:=d.sz
 E:=d.E
 K:=fun w x cs=>(x.2=i->cs=c/\cs.length=d.sz/\∀u∈cs,u.oneCell'=ac)/\(x.2≠i->d.K w x.1 cs)
 M:=fun w base ok x cs=>(x.2=i->cs=c/\cs.length=d.sz/\∀u∈cs,u.oneCell'=ac)/\(x.2≠i->d.M w base (fun k=>ok k/\f k=x.2) x.1 cs)
 K_len:=fun{w x cs} h=>by
  by_cases hx:x.2=i
  ·exact(h.1 hx).2.1
  ·exact d.K_len (h.2 hx)
 K_one:=fun{w x cs} h=>by
  by_cases hx:x.2=i
  ·exact(h.1 hx).2.2
  ·exact d.K_one (h.2 hx)
 K_below:=fun hb h=>⟨h.1,fun hx=>d.K_below hb (h.2 hx)⟩
 K_of_M:=fun h=>⟨h.1,fun hx=>d.K_of_M (h.2 hx)⟩
 M_mono:=fun hok h=>⟨h.1,fun hx=>d.M_mono (fun k hk=>⟨hok k hk.1,hk.2⟩) (h.2 hx)⟩
 M_bound:=fun h=>⟨h.1,fun hx=>d.M_mono (fun _ hk=>⟨⟨hk.1.1,hk.2⟩,hk.1.2⟩) (d.M_bound (h.2 hx))⟩
 M_move:=fun hm h=>⟨h.1,fun hx=>d.M_move (fun k hk=>hm k hk.1) (h.2 hx)⟩
 M_lower:=fun hb h=>⟨h.1,fun hx=>d.M_lower hb (h.2 hx)⟩
def H {α:Type}(d:Kd α)(e:Nat)(w:World)(base:Nat)(ok:Nat->Prop)(v:Value)(xs:List α)(i:Int)(oki:Nat->Prop)(c:List Value):Prop:=
 (∀k,oki k->ok k)/\∃f,(gap f d i.toNat c).R e w base (fun k=>ok k/\¬oki k) v xs.zipIdx
end Kd
end Go.Proofs.YtfigjpehecibeaaGreatW.PrintWords
end
section
namespace Go.Proofs.YtfigjpehecibeaaGreatW.PrintWords
open Go.RowKit
def Foot (P:World->Prop)(W:World)(ok:Nat->Prop):Prop:=∀W':World,(∀k,ok k->k<W.heap.size->W'.heap[k]? =W.heap[k]?)->P W'
theorem heap_lt {W W1:World}{k:Nat}(h:W1.heap[k]? =W.heap[k]?)(hlt:k<W.heap.size):k<W1.heap.size:=by
 rw[Array.getElem?_eq_getElem hlt]at h;exact(Array.getElem?_eq_some_iff.1 h).1
namespace Foot
variable {P Q:World->Prop}{W W1:World}{ok ok':Nat->Prop}
theorem mono (h:Foot P W ok)(hok:∀k,ok k->ok' k):Foot P W ok':=fun W' hW=>h W' (fun k hk hlt=>hW k (hok k hk) hlt)
theorem step (h:Foot P W ok)(hm:∀k,ok k->k<W.heap.size->W1.heap[k]? =W.heap[k]?):Foot P W1 ok:=fun W' hW=>h W' (fun k hk hlt=>(hW k hk (heap_lt (hm k hk hlt) hlt)).trans (hm k hk hlt))
theorem imp (h:Foot P W ok)(hi:∀W',P W'->Q W'):Foot Q W ok:=fun W' hW=>hi W' (h W' hW)
end Foot
namespace Kd
def F {α:Type}(d:Kd α)(W:World)(ok:Nat->Prop)(A:Option Addr)(n:Nat)(xs:List α):Prop:=Foot (fun W=>d.C W A n xs) W ok
def FK {α:Type}(d:Kd α)(W:World)(ok:Nat->Prop)(x:α)(c:List Value):Prop:=Foot (fun W=>d.K W x c) W ok
end Kd
end Go.Proofs.YtfigjpehecibeaaGreatW.PrintWords
end
section
namespace Go.Proofs.YtfigjpehecibeaaGreatW.PrintWords
open Go.RowKit
namespace Kd
section
variable {α:Type}{d:Kd α}{e base n cc g:Nat}{ok ok' okp S:Nat->Prop}{w w1 W W1:World}{A:Option Addr}{u v v1:Value}{xs:List α}{x:α}{c:List Value}
def N {α:Type}(d:Kd α)(e:Nat)(w:World)(base:Nat)(ok:Nat->Prop)(v:Value)(xs:List α):Prop:=
 (∀k,v.ownBlock=ae k->ok k)/\∃rows:List (List Value),rows.length=xs.length/\(raw d.sz).R e w base (fun k=>ae k=v.ownBlock) v rows/\∀(j:Nat) (x:α) (c:List Value),xs[j]? =ae x->rows[j]? =ae c->FK d w (fun k=>ok k/\ae k≠v.ownBlock) x c
end
end Kd
end Go.Proofs.YtfigjpehecibeaaGreatW.PrintWords
end
section
namespace Go.Proofs.YtfigjpehecibeaaGreatW.PrintMore
open Go.RowKit Go.Proofs.YtfigjpehecibeaaGreatW.PrintWords
theorem gZ (k k':IntKind)(x y:Int):Builtin.max2 (.int k x) (.int k' y)=pure (.int k (if x<y then y else x)):=by simp only[Builtin.max2,gt_iff_lt]
theorem gY (k k':IntKind)(x y:Int):Builtin.min2 (.int k x) (.int k' y)=pure (.int k (if y<x then y else x)):=by simp only[Builtin.min2]
theorem j4 (ats:Array TypeId)(ty:TypeId)(a b:Value):Builtin.max_ ats ty #[a,b]=(Builtin.max2 a b >>= fun s=>pure s):=by simp only[Builtin.max_,List.foldlM_cons,List.foldlM_nil]
theorem jZ (ats:Array TypeId)(ty:TypeId)(a b:Value):Builtin.min_ ats ty #[a,b]=(Builtin.min2 a b >>= fun s=>pure s):=by simp only[Builtin.min_,List.foldlM_cons,List.foldlM_nil]
theorem fJ (ats:Array TypeId)(ty:TypeId)(a b c:Value):Builtin.max_ ats ty #[a,b,c]=(Builtin.max2 a b >>= fun s=>Builtin.max2 s c >>= fun s=>pure s):=by simp only[Builtin.max_,List.foldlM_cons,List.foldlM_nil]
theorem fM (ats:Array TypeId)(ty:TypeId)(a b c:Value):Builtin.min_ ats ty #[a,b,c]=(Builtin.min2 a b >>= fun s=>Builtin.min2 s c >>= fun s=>pure s):=by simp only[Builtin.min_,List.foldlM_cons,List.foldlM_nil]
theorem iG (ats:Array TypeId)(ty:TypeId)(a b c d:Value):Builtin.max_ ats ty #[a,b,c,d]=(Builtin.max2 a b >>= fun s=>Builtin.max2 s c >>= fun s=>Builtin.max2 s d >>= fun s=>pure s):=by simp only[Builtin.max_,List.foldlM_cons,List.foldlM_nil]
theorem iE (ats:Array TypeId)(ty:TypeId)(a b c d:Value):Builtin.min_ ats ty #[a,b,c,d]=(Builtin.min2 a b >>= fun s=>Builtin.min2 s c >>= fun s=>Builtin.min2 s d >>= fun s=>pure s):=by simp only[Builtin.min_,List.foldlM_cons,List.foldlM_nil]
end Go.Proofs.YtfigjpehecibeaaGreatW.PrintMore
namespace Go.Proofs.YtfigjpehecibeaaGreatW.PrintWords
open Go.RowKit
section
variable {P:Program}{ops:Array Oper}{rest:List Oper}{o:Oper}{a:Act}{Q:Exit->Act->World->Prop}{W:World}
theorem cY {f:FuncId}{as:Array Operand}{ts:Array TypeId}(_ho:o.op=.call { callee:=.value (.func f),args:=as,argTypes:=ts })(h:wpList P ops Q (o::rest) a W):wpList P ops Q (o::rest) a W:=h
theorem bX {b:Builtin}{xs:Array Operand}{ts:Array TypeId}(_ho:o.op=.call { callee:=.builtin b,args:=xs,argTypes:=ts })(h:wpList P ops Q (o::rest) a W):wpList P ops Q (o::rest) a W:=h
end
def mn (a b:Int):Int:=if b<a then b else a
end Go.Proofs.YtfigjpehecibeaaGreatW.PrintWords
namespace Go.Proofs.YtfigjpehecibeaaGreatW.PrintWords
open Go.RowKit
namespace Kd
def V {α:Type}(d:Kd α)(_e:Nat)(W:World)(_base:Nat)(ok:Nat->Prop)(v:Value)(xs:List α):Prop:=∃A c,v=.slice A xs.length c/\xs.length<=c/\F d W ok A xs.length xs
end Kd
end Go.Proofs.YtfigjpehecibeaaGreatW.PrintWords
end
namespace Go.Proofs.YtfigjpehecibeaaGreatW.PrintLast
open Go.Proofs.YtfigjpehecibeaaGreatW.PrintWords (Aside0)
section
variable {md:gp}{ops:Array Oper}{T:Bool × List (List Nat × List Nat)}{l l' li lj lk:Array Bool}{ds:List Nat}{i j k:Nat}
theorem gd (l:Array Bool)(j:Nat)(b:Bool):l.getD j b=l.toList.getD j b:=by simp[Array.getD_eq_getD_getElem?,aw]
end
end Go.Proofs.YtfigjpehecibeaaGreatW.PrintLast
namespace Go.Proofs.YtfigjpehecibeaaGreatW.PrintWords
theorem eY.one {α:Type}{R:α->List Value->Prop}{ps:List α}{cs:List Value}{p:α}{v:Value}(hp:R p [v])(h:eY R 1 ps cs):eY R 1 (p::ps) (v::cs):=by
 refine⟨by simp[h.1],fun j q hq=> ?_⟩
 cases j with
 |zero=>
  simp only[List.getElem?_cons_zero,Option.some.injEq]at hq;subst hq
  simpa using hp
 |succ j=>
  simp only[List.getElem?_cons_succ]at hq;have h1:=h.2 j q hq
  simpa[Nat.mul_one]using h1
end Go.Proofs.YtfigjpehecibeaaGreatW.PrintWords
namespace Go.Proofs.YtfigjpehecibeaaGreatW.PrintLast
def up (b:Nat->Bool)(i:Nat):Nat->Bool:=fun j=>if j=i then ac else b j
end Go.Proofs.YtfigjpehecibeaaGreatW.PrintLast
