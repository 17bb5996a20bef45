/- Texts joined by a program of mine: Op L0 La Gr Lb Lc Le Ld0 Lf LsAlt LsAgt LsA1 LsA2 LsA3 LsA4. -/
import Derived.Deep.Slices
import Derived.SizedLaws
import Derived.Test.YtfigjpehecibeaaGreatProg
import Derived.Below
import Derived.Deep.Draws
import Derived.Deep.AppendLies
import Derived.Maps.AppendAt
import Derived.OwnWalk
import Derived.Laws.BytesArg
import Derived.Laws.MakeOwn
import Derived.Laws.OwnMore
import Derived.Deep.OwnRows
import Derived.Tactics
import Derived.Lib.ConvBytes
import Derived.Laws.Slices
import Derived.WalkKit
import Derived.KernelRfl
import Derived.RowKit3
import Derived.Deep.LoopGhost
import Derived.Deep.QuietTactic
import Derived.BigQuiet
import Derived.WideLaws
import Derived.Deep.DeepCutAuto
import Derived.Deep.CutBlock
import Derived.Deep.RegionHeld3
import Derived.Laws.Rows
import Derived.Lib.AppendStr
import Derived.ArgAppend
import Derived.Laws.IdiomCopy
import Derived.OrdersHeld
import Derived.Laws.BitsLemmas
import Derived.RowKit
import Derived.Laws.StructEq
import Derived.Lib.Bytes
import Derived.Test.YtfigjpehecibeaaGreatZi0
set_option maxRecDepth 100000
open And renaming intro -> aq
open Bool renaming true -> ac, and_eq_true -> dg, false -> O
open ByteArray renaming empty -> ba
open Go.Proofs.Tryz renaming prog -> au, func242 -> gj
open Go.Proofs.YtfigjpehecibeaaGreatW.PrintWords.Aside0 renaming mk -> J
open Go.Proofs.YtfigjpehecibeaaGreatW.PrintWords.Drawn0 renaming refl -> dh, step -> di
open Go.RowKit.Below renaming refl -> ak
open Go.World renaming block_lt_of_cell? -> ah
open Int renaming toNat_natCast -> ax, natCast_nonneg -> bc
open List renaming all_eq_true -> ew, mem_cons -> cg, getElem?_eq_some_iff -> cz, getElem?_eq_getElem -> av, getElem_of_mem -> ef, length_drop -> eu, map_cons -> cq, map_nil -> dc, append_nil -> ek, range -> cr, mem_range -> gq, map_toArray -> cd, length_take -> bq, drop_eq_nil_of_le -> gr, getD_eq_getElem?_getD -> aw, drop_eq_getElem_cons -> dw, any_cons -> gm, isEmpty_iff -> dx, getElem_mem -> dz, sizeOf_lt_of_mem -> fe, eq_nil_of_length_eq_zero -> bk, isEmpty_eq_false_iff -> bv
open Nat renaming le_refl -> ai, le_trans -> bg, mul_le_mul_right -> gn, zero_le -> br, not_lt_zero -> dn, eq_zero_or_pos -> bu
open Option renaming some -> ae, none -> aj, bind_some -> fw
open Option.some renaming inj -> cn
open Or renaming inl -> bi
open SizeOf renaming sizeOf -> cu
set_option linter.unusedVariables false
set_option linter.unusedSimpArgs false
set_option maxHeartbeats 8000000
namespace Go.Proofs.YtfigjpehecibeaaGreat.Op
open Go.RowKit Go.ChangeShapes Go.WideShapes Go.Deep Go.Proofs.YtfigjpehecibeaaGreatW.PrintWords
structure Bulk {H:Type}(B:DataW H->Nat):Prop where
 str:∀l,l.length+1<=B (.lit (.string l))
 one:∀d,1<=B d
 slice:∀es ss,(es.map B).sum+1<=B (.slice es ss)
 agg:∀ps,(ps.map B).sum+1<=B (.agg ps)
def fI {H:Type}(enc:TypeId × Value->H)(P:Program)(w:World)(B:DataW H->Nat){α:Type}(fuel:Nat)(t:TypeId)(k:Kd α)(good:α->Prop)(bulk:α->Nat):Prop:=
 ∀cs x,DataW.trod enc P w 0 (fun _=>ac) ac fuel t cs=ae x->(x.1.weights P t).all (· <=reachBytes)=ac->∃v,k.K w v cs/\good v/\bulk v<=B x.1
section
variable {H:Type}{enc:TypeId × Value->H}{P:Program}{w:World}{B:DataW H->Nat}{fuel:Nat}{t e:TypeId}
theorem dL (hB:Bulk B){k:IntKind}(ht:P.underlying t=ae (.int k)):fI enc P w B fuel t (Kd.int k) (fun n=>(Lit.int k n).wf=ac) (fun _=>1):=by
 intro cs x h _;obtain⟨n,rfl,rfl,hw⟩:=DataW.trod_int ht h;exact⟨n,rfl,hw,hB.one _⟩
theorem fC (hB:Bulk B)(ht:P.underlying t=ae .string):fI enc P w B fuel t Kd.string (fun s=>s.size<=140737488351232) (fun s=>s.size+1):=by
 intro cs x h hs;obtain⟨s,rfl,rfl,_⟩:=DataW.trod_string ht h;refine⟨s,rfl,?_,?_⟩
 ·have z:=of_decide_eq_true (ew.1 hs s.data.toList.length (by simp[DataW.weights]))
  simpa[reachBytes]using z
 ·have:=hB.str s.data.toList
  simpa using this
theorem all_weights {ds:List (DataW H)}(h:(DataW.weightsAll P e ds).all (· <=reachBytes)=ac){d:DataW H}(hd:d∈ds):(d.weights P e).all (· <=reachBytes)=ac:=by
 induction ds with
 |nil=>cases hd
 |cons a r ih=>
  rw[DataW.weightsAll,List.all_append,dg]at h
  rcases cg.1 hd with rfl | hd
  ·exact h.1
  ·exact ih h.2 hd
theorem list_of {α β:Type}(ds:List β)(p:Nat->β->α->Prop)(b:α->Nat)(B:β->Nat)(h:∀i d,ds[i]? =ae d->∃v,p i d v/\b v<=B d):
 ∃vs:List α,vs.length=ds.length/\(∀i d v,ds[i]? =ae d->vs[i]? =ae v->p i d v)/\(vs.map b).sum<=(ds.map B).sum:=by
 induction ds generalizing p with
 |nil=>exact⟨[],rfl,fun i d v h=>by simp at h,by simp⟩
 |cons d r ih=>
  obtain⟨v,hv,hb⟩:=h 0 d rfl;obtain⟨vs,h1,h2,h3⟩:=ih (fun i=>p (i+1)) (fun i d hd=>h (i+1) d (by simpa using hd));refine⟨v::vs,by simp[h1],fun i d' v' hd hv'=> ?_,by simp;omega⟩
  cases i with
  |zero=>simp at hd hv';subst hd;subst hv';exact hv
  |succ i=>exact h2 i d' v' (by simpa using hd) (by simpa using hv')
theorem eB (hB:Bulk B){α:Type}{k:Kd α}{good:α->Prop}{bulk:α->Nat}{n bytes:Nat}(ht:P.underlying t=ae (.slice e))(hc:P.cellsOf e=k.sz)(hy:P.bytesOf e=bytes)(hpos:0<bytes)
 (he:∀m,m<fuel->fI enc P w B m e k good bulk):
 fI enc P w B fuel t (Kd.slice n k) (fun xs=>xs.length*bytes<=140737488351232/\∀x∈xs,good x) (fun xs=>(xs.map bulk).sum+1):=by
 intro cs x h hs
 rcases DataW.trod_slice ht h with ⟨rfl,rfl⟩ | ⟨a,len,cap,elems,rest,m,rfl,rfl,rfl,hb,hl,hm,hlen,hel,_,_⟩
 ·exact⟨[],⟨aj,0,rfl,ai _,Kd.fY _ _⟩,⟨by simp,fun x hx=>by cases hx⟩,hB.one _⟩
 ·have hw:((elems.map (·.1)).length+(rest.map (·.1)).length)*P.bytesOf e<=reachBytes/\(DataW.weightsAll P e (elems.map (·.1))).all (· <=reachBytes)=ac:=by
   simp only[DataW.weights,ht]at hs;rw[List.all_cons,dg,List.all_append,dg]at hs;exact⟨of_decide_eq_true hs.1,hs.2.1⟩
  obtain⟨vs,h1,h2,h3⟩:=list_of elems (fun i d v=>∃cs',w.cells? 0 (a.add (i*P.cellsOf e)) (P.cellsOf e)=ae cs'/\k.K w v cs'/\good v) bulk (fun d=>B d.1) (by
   intro i d hd
   have hi:i<len:=by rw[←hlen];exact(cz.1 hd).1
   have hx:=hel i hi;rw[hd]at hx;obtain⟨cs',g1,g2⟩:=Option.bind_eq_some_iff.1 hx;obtain⟨v,g3,g4,g5⟩:=he m (Nat.lt_succ_self m) cs' d g2 (all_weights hw.2 (List.mem_map.2 ⟨d,List.mem_of_getElem? hd,rfl⟩))
   exact⟨v,⟨cs',g1,g3,g4⟩,g5⟩)
  have hvl:vs.length=len:=by rw[h1,hlen]
  have hsz:len*bytes<=140737488351232:=by
   have z:=hw.1;rw[hy,List.length_map,hlen]at z;refine bg (gn _ (Nat.le_add_right _ _)) (bg z ?_);simp[reachBytes]
  refine⟨vs,⟨ae a,cap,by rw[hvl],by rw[hvl];exact hl,rfl,?_,fun _=>⟨a,rfl,?_⟩⟩,⟨by rw[hvl];exact hsz,?_⟩,?_⟩
  ·rw[hvl];have:len<=len*bytes:=Nat.le_mul_of_pos_right _ hpos;omega
  ·intro j p hp;have hj:j<vs.length:=(cz.1 hp).1;obtain⟨cs',g1,g2,_⟩:=h2 j _ p (av (by rw[←h1];exact hj)) hp;obtain⟨_,g4,g5⟩:=World.cells?_some g1;rw[hc]at g4 g5;refine⟨cs',g4,g2,fun i u hu=> ?_⟩;have hi:i<cs'.length:=(cz.1 hu).1;have g6:=g5 i (by omega);rw[Go.Deep.add_add]at g6;rw[g6,hu]
  ·intro x hx;obtain⟨j,hj,rfl⟩:=ef hx;obtain⟨_,_,_,g⟩:=h2 j _ _ (av (by rw[←h1];exact hj)) (av hj);exact g
  ·have z:=hB.slice (elems.map (·.1)) (rest.map (·.1))
   have e2:(elems.map fun d=>B d.1).sum=((elems.map (·.1)).map B).sum:=by rw[List.map_map];rfl
   show(vs.map bulk).sum+1<=B (.slice (elems.map (·.1)) (rest.map (·.1)))
   omega
def OpensF {H:Type}(enc:TypeId × Value->H)(P:Program)(w:World)(B:DataW H->Nat){β:Type}(n total o:Nat)(fs:List (TypeId × Nat))(k:Kd β)(good:β->Prop)(bulk:β->Nat):Prop:=
 ∀(cs:List Value) (xs:List (DataW H × List MemPlace)),cs.length=total->xs.length=fs.length->(∀(i:Nat) (f:TypeId × Nat),fs[i]? =ae f->DataW.trod enc P w 0 (fun _=>ac) ac n f.1 ((cs.drop f.2).take (P.cellsOf f.1))=xs[i]?)->
  (DataW.weightsEach P (fs.map (·.1)) (xs.map (·.1))).all (· <=reachBytes)=ac->∃v,k.K w v (cs.drop o)/\good v/\bulk v<=(xs.map fun d=>B d.1).sum
theorem gD {α:Type}{k:Kd α}{good:α->Prop}{bulk:α->Nat}{n total o:Nat}{f:TypeId}(hf:fI enc P w B n f k good bulk)(ho:total<=o+P.cellsOf f):OpensF enc P w B n total o [(f,o)] k good bulk:=by
 intro cs xs hl hx ht hw
 match xs,hx with
 | [x],_=>
   have h0:=ht 0 (f,o) rfl;simp only[List.getElem?_cons_zero]at h0;rw[List.take_of_length_le (by rw[eu];omega)]at h0;simp only[cq,dc,DataW.weightsEach,ek]at hw;obtain⟨v,g1,g2,g3⟩:=hf _ _ h0 hw;exact⟨v,g1,g2,by simpa using g3⟩
theorem bG {α β:Type}{k:Kd α}{k2:Kd β}{good:α->Prop}{bulk:α->Nat}{good2:β->Prop}{bulk2:β->Nat}{n total o o2:Nat}{f:TypeId}{fs:List (TypeId × Nat)}(hf:fI enc P w B n f k good bulk)(ho:o+P.cellsOf f=o2)
 (h2:OpensF enc P w B n total o2 fs k2 good2 bulk2):OpensF enc P w B n total o ((f,o)::fs) (Kd.pair k k2) (fun v=>good v.1/\good2 v.2) (fun v=>bulk v.1+bulk2 v.2):=by
 intro cs xs hl hx ht hw
 match xs,hx with
 |x::xs,hx=>
  have h0:=ht 0 (f,o) rfl;simp only[List.getElem?_cons_zero]at h0;simp only[cq,DataW.weightsEach,List.all_append,dg]at hw;obtain⟨v,g1,g2,g3⟩:=hf _ _ h0 hw.1;obtain⟨v2,g4,g5,g6⟩:=h2 cs xs hl (by simpa using hx) (fun i f' hf'=>by simpa using ht (i+1) f' (by simpa using hf')) hw.2;refine⟨(v,v2),⟨_,_,?_,g1,g4⟩,⟨g2,g5⟩,by simp;omega⟩;rw[←ho,←List.drop_drop,List.take_append_drop]
theorem fB (hB:Bulk B){β:Type}{fa:Array Field}{fs:List (TypeId × Nat)}{k:Kd β}{good:β->Prop}{bulk:β->Nat}(ht:P.underlying t=ae (.struct fa))(hfs:fa.toList.map (fun f=>(f.type,f.offset))=fs)
 (h:∀n,n<fuel->OpensF enc P w B n (P.cellsOf t) 0 fs k good bulk):fI enc P w B fuel t k good (fun v=>bulk v+1):=by
 intro cs x hx hw;obtain⟨xs,n,rfl,rfl,hl,hxl,hf⟩:=DataW.trod_struct ht hx;simp only[DataW.weights,ht]at hw
 have hmt:fa.toList.map (·.type)=fs.map (·.1):=by rw[←hfs,List.map_map];rfl
 rw[hmt]at hw
 obtain⟨v,g1,g2,g3⟩:=h n (Nat.lt_succ_self n) cs xs hl (by rw[hxl,←hfs];simp) (fun i f hif=>by
  rw[←hfs,List.getElem?_map]at hif;obtain⟨f0,hf0,rfl⟩:=Option.map_eq_some_iff.1 hif
  exact hf i f0 (by simpa using hf0)) hw
 refine⟨v,by simpa using g1,g2,?_⟩;have z:=hB.agg (xs.map (·.1))
 have e2:(xs.map fun d=>B d.1).sum=((xs.map (·.1)).map B).sum:=by rw[List.map_map];rfl
 show bulk v+1<=B (.agg (xs.map (·.1)))
 omega
theorem jJ {α β:Type}{k:Kd α}{good:α->Prop}{bulk:α->Nat}{f:β->α}(g:α->β)(hg:∀a,f (g a)=a)(h:fI enc P w B fuel t k good bulk):fI enc P w B fuel t (Kd.iso k f) (fun b=>good (f b)) (fun b=>bulk (f b)):=by
 intro cs x hx hw;obtain⟨v,g1,g2,g3⟩:=h cs x hx hw;exact⟨g v,by show k.K w (f (g v)) cs;rw[hg];exact g1,by show good (f (g v));rw[hg];exact g2,by show bulk (f (g v))<=_;rw[hg];exact g3⟩
theorem e8 {α:Type}{k:Kd α}{good good2:α->Prop}{bulk bulk2:α->Nat}(h:fI enc P w B fuel t k good bulk)(hg:∀a,good a->good2 a)(hb:∀a,bulk2 a<=bulk a):fI enc P w B fuel t k good2 bulk2:=by
 intro cs x hx hw;obtain⟨v,g1,g2,g3⟩:=h cs x hx hw;exact⟨v,g1,hg v g2,bg (hb v) g3⟩
theorem opens_kd {α:Type}{k k2:Kd α}{good:α->Prop}{bulk:α->Nat}(h:fI enc P w B fuel t k good bulk)(hk:∀a cs,k.K w a cs->k2.K w a cs):fI enc P w B fuel t k2 good bulk:=by
 intro cs x hx hw;obtain⟨v,g1,g2,g3⟩:=h cs x hx hw;exact⟨v,hk v cs g1,g2,g3⟩
theorem weights_at {ts:List TypeId}{ds:List (DataW H)}{j:Nat}{d:DataW H}(h:(DataW.weightsEach P ts ds).all (· <=reachBytes)=ac)(ht:ts[j]? =ae t)(hd:ds[j]? =ae d):(d.weights P t).all (· <=reachBytes)=ac:=
 ew.2 fun n hn=>ew.1 h n (DataW.weights_mem_each ht hd n hn)
end
end Go.Proofs.YtfigjpehecibeaaGreat.Op
namespace Go.Proofs.YtfigjpehecibeaaGreat.L
open Go.RowKit Go.Proofs.YtfigjpehecibeaaGreatW.PrintWords Go.Proofs.YtfigjpehecibeaaGreatW.PrintLast Go.Proofs.YtfigjpehecibeaaGreatW.PrintMore
section
attribute [local go_sem] gZ gY j4 jZ fJ fM iG iE   
def errW:Option Int->Value
 |none=>.nilIface
 |some c=>.iface 0 (.int .i64 c)
theorem bZ:errW aj=.nilIface:=rfl
theorem cA (c:Int):errW (ae c)=.iface 0 (.int .i64 c):=rfl
theorem info9:(Tryz.prog.info? 9).map (fun i=>(i.zero,i.size,i.bytes))=ae (ae (.string ⟨#[]⟩),1,16):=by kernel_rfl
structure S116 where
 f0:Int
 f1:Int
 f2:ByteArray
 f3:(List S116)
def z116:S116:=⟨(0:Int),(0:Int),(⟨#[]⟩:ByteArray),([]:List S116)⟩
def F75 (d:Kd S116):Kd S116:=Kd.iso (Kd.pair (Kd.int .i64) (Kd.pair (Kd.int .u64) (Kd.pair Kd.string (Kd.slice 116 d)))) (fun x:S116=>(x.f0,x.f1,x.f2,x.f3))
theorem mono116:Kd.Mono F75:=Kd.mono_iso _ (Kd.dJ (Kd.dD _) (Kd.dJ (Kd.dD _) (Kd.dJ (Kd.dD _) (Kd.jS 116 Kd.mono_id))))
theorem sub116:Kd.Sub F75 [116]:=Kd.sub_iso _ (Kd.eH (Kd.dX _ (by decide)) (Kd.eH (Kd.dX _ (by decide)) (Kd.eH (Kd.dX _ (by decide)) (Kd.kR 116 (by decide) Kd.sub_id))))
theorem sz116:∀n,(Kd.upto F75 4 [116] n).sz=4:=Kd.upto_sz (fun _=>rfl)
def cH:Kd S116:=Kd.fix F75 4 [116] sz116 (Kd.upto_E sub116)
theorem fN {w:World}{x:S116}{cs:List Value}(h:cH.K w x cs):∃A3 c3,cs=[.int .i64 x.f0,.int .u64 x.f1,.string x.f2,.slice A3 x.f3.length c3]/\x.f3.length<=c3/\cH.C w A3 x.f3.length x.f3:=by
 obtain⟨n,h⟩:=h
 cases n with
 |zero=>exact h.elim
 |succ n=>
  obtain⟨_,_,rfl,rfl,⟨_,_,rfl,rfl,⟨_,_,rfl,rfl,⟨A3,c3,rfl,l3,g3⟩⟩⟩⟩:=h;exact⟨A3,c3,rfl,l3,Kd.fix_C g3⟩
theorem jR (w:World)(x:S116){A3:Option Addr}{c3:Nat}(l3:x.f3.length<=c3)(g3:cH.C w A3 x.f3.length x.f3):cH.K w x [.int .i64 x.f0,.int .u64 x.f1,.string x.f2,.slice A3 x.f3.length c3]:=by
 obtain⟨n3,q3⟩:=Kd.j7 mono116 g3;have r3:=Kd.lQ mono116 sz116 (show n3<=n3 by omega) q3;exact⟨n3+1,⟨[.int .i64 x.f0],[.int .u64 x.f1,.string x.f2,.slice A3 x.f3.length c3],rfl,rfl,⟨[.int .u64 x.f1],[.string x.f2,.slice A3 x.f3.length c3],rfl,rfl,⟨[.string x.f2],[.slice A3 x.f3.length c3],rfl,rfl,⟨A3,c3,rfl,l3,r3⟩⟩⟩⟩⟩
def bF (xs:List S116)(i:Int):S116:=xs.getD i.toNat z116
theorem iR {w:World}{A:Option Addr}{n:Nat}{xs:List S116}(h:Kd.C cH w A n xs)(i:Int)(h0:0<=i)(h1:i<n):∃ad A3 c3,A=ae ad/\w.cell? (ad.add (i.toNat*4))=ae (.int .i64 (bF xs i).f0)/\w.cell? ⟨(ad.add (i.toNat*4)).block,(ad.add (i.toNat*4)).off+1,aj⟩=ae (.int .u64 (bF xs i).f1)/\w.cell? ⟨(ad.add (i.toNat*4)).block,(ad.add (i.toNat*4)).off+2,aj⟩=ae (.string (bF xs i).f2)/\w.cell? ⟨(ad.add (i.toNat*4)).block,(ad.add (i.toNat*4)).off+3,aj⟩=ae (.slice A3 (bF xs i).f3.length c3)/\(bF xs i).f3.length<=c3/\cH.C w A3 (bF xs i).f3.length (bF xs i).f3:=by
 obtain⟨ad,c,e,_,hK,hc0⟩:=Kd.C_get h z116 i h0 h1;have hc:∀j u,c[j]? =ae u->w.cell? (ad.add (i.toNat*4+j))=ae u:=hc0;obtain⟨A3,c3,rfl,l3,g3⟩:=fN hK;exact⟨ad,A3,c3,e,hc 0 _ rfl,by rw[←bO _ _ 1 (by omega)];exact hc 1 _ rfl,by rw[←bO _ _ 2 (by omega)];exact hc 2 _ rfl,by rw[←bO _ _ 3 (by omega)];exact hc 3 _ rfl,l3,g3⟩
structure S119 where
 f0:Int
 f1:ByteArray
 f2:S116
 f3:S116
 f4:Int
 f5:Int
 f6:(List S119)
 f7:(List S119)
def z119:S119:=⟨(0:Int),(⟨#[]⟩:ByteArray),z116,z116,(0:Int),(0:Int),([]:List S119),([]:List S119)⟩
def F77 (d:Kd S119):Kd S119:=Kd.iso (Kd.pair (Kd.int .i64) (Kd.pair Kd.string (Kd.pair cH (Kd.pair cH (Kd.pair (Kd.int .u64) (Kd.pair (Kd.int .u64) (Kd.pair (Kd.slice 119 d) (Kd.slice 119 d)))))))) (fun x:S119=>(x.f0,x.f1,x.f2,x.f3,x.f4,x.f5,x.f6,x.f7))
theorem mono119:Kd.Mono F77:=Kd.mono_iso _ (Kd.dJ (Kd.dD _) (Kd.dJ (Kd.dD _) (Kd.dJ (Kd.dD _) (Kd.dJ (Kd.dD _) (Kd.dJ (Kd.dD _) (Kd.dJ (Kd.dD _) (Kd.dJ (Kd.jS 119 Kd.mono_id) (Kd.jS 119 Kd.mono_id))))))))
theorem sub119:Kd.Sub F77 [116,119]:=Kd.sub_iso _ (Kd.eH (Kd.dX _ (by decide)) (Kd.eH (Kd.dX _ (by decide)) (Kd.eH (Kd.dX _ (by decide)) (Kd.eH (Kd.dX _ (by decide)) (Kd.eH (Kd.dX _ (by decide)) (Kd.eH (Kd.dX _ (by decide)) (Kd.eH (Kd.kR 119 (by decide) Kd.sub_id) (Kd.kR 119 (by decide) Kd.sub_id))))))))
theorem sz119:∀n,(Kd.upto F77 14 [116,119] n).sz=14:=Kd.upto_sz (fun _=>rfl)
def cU:Kd S119:=Kd.fix F77 14 [116,119] sz119 (Kd.upto_E sub119)
theorem k119_open {w:World}{x:S119}{cs:List Value}(h:cU.K w x cs):∃A5 c5 A9 c9 A12 c12 A13 c13,cs=[.int .i64 x.f0,.string x.f1,.int .i64 x.f2.f0,.int .u64 x.f2.f1,.string x.f2.f2,.slice A5 x.f2.f3.length c5,.int .i64 x.f3.f0,.int .u64 x.f3.f1,.string x.f3.f2,.slice A9 x.f3.f3.length c9,.int .u64 x.f4,.int .u64 x.f5,.slice A12 x.f6.length c12,.slice A13 x.f7.length c13]/\x.f2.f3.length<=c5/\cH.C w A5 x.f2.f3.length x.f2.f3/\x.f3.f3.length<=c9/\cH.C w A9 x.f3.f3.length x.f3.f3/\x.f6.length<=c12/\cU.C w A12 x.f6.length x.f6/\x.f7.length<=c13/\cU.C w A13 x.f7.length x.f7:=by
 obtain⟨n,h⟩:=h
 cases n with
 |zero=>exact h.elim
 |succ n=>
  obtain⟨_,_,rfl,rfl,⟨_,_,rfl,rfl,⟨_,_,rfl,s2,⟨_,_,rfl,s6,⟨_,_,rfl,rfl,⟨_,_,rfl,rfl,⟨_,_,rfl,⟨A12,c12,rfl,l12,g12⟩,⟨A13,c13,rfl,l13,g13⟩⟩⟩⟩⟩⟩⟩⟩:=h;obtain⟨A5,c5,rfl,l5,g5⟩:=fN s2;obtain⟨A9,c9,rfl,l9,g9⟩:=fN s6;exact⟨A5,c5,A9,c9,A12,c12,A13,c13,rfl,l5,g5,l9,g9,l12,Kd.fix_C g12,l13,Kd.fix_C g13⟩
theorem fH (w:World)(x:S119){A5:Option Addr}{c5:Nat}(l5:x.f2.f3.length<=c5)(g5:cH.C w A5 x.f2.f3.length x.f2.f3){A9:Option Addr}{c9:Nat}(l9:x.f3.f3.length<=c9)(g9:cH.C w A9 x.f3.f3.length x.f3.f3){A12:Option Addr}{c12:Nat}(l12:x.f6.length<=c12)(g12:cU.C w A12 x.f6.length x.f6){A13:Option Addr}{c13:Nat}(l13:x.f7.length<=c13)(g13:cU.C w A13 x.f7.length x.f7):cU.K w x [.int .i64 x.f0,.string x.f1,.int .i64 x.f2.f0,.int .u64 x.f2.f1,.string x.f2.f2,.slice A5 x.f2.f3.length c5,.int .i64 x.f3.f0,.int .u64 x.f3.f1,.string x.f3.f2,.slice A9 x.f3.f3.length c9,.int .u64 x.f4,.int .u64 x.f5,.slice A12 x.f6.length c12,.slice A13 x.f7.length c13]:=by
 obtain⟨n12,q12⟩:=Kd.j7 mono119 g12;obtain⟨n13,q13⟩:=Kd.j7 mono119 g13;have r12:=Kd.lQ mono119 sz119 (show n12<=(max n12 n13) by omega) q12;have r13:=Kd.lQ mono119 sz119 (show n13<=(max n12 n13) by omega) q13;exact⟨(max n12 n13)+1,⟨[.int .i64 x.f0],[.string x.f1,.int .i64 x.f2.f0,.int .u64 x.f2.f1,.string x.f2.f2,.slice A5 x.f2.f3.length c5,.int .i64 x.f3.f0,.int .u64 x.f3.f1,.string x.f3.f2,.slice A9 x.f3.f3.length c9,.int .u64 x.f4,.int .u64 x.f5,.slice A12 x.f6.length c12,.slice A13 x.f7.length c13],rfl,rfl,⟨[.string x.f1],[.int .i64 x.f2.f0,.int .u64 x.f2.f1,.string x.f2.f2,.slice A5 x.f2.f3.length c5,.int .i64 x.f3.f0,.int .u64 x.f3.f1,.string x.f3.f2,.slice A9 x.f3.f3.length c9,.int .u64 x.f4,.int .u64 x.f5,.slice A12 x.f6.length c12,.slice A13 x.f7.length c13],rfl,rfl,⟨[.int .i64 x.f2.f0,.int .u64 x.f2.f1,.string x.f2.f2,.slice A5 x.f2.f3.length c5],[.int .i64 x.f3.f0,.int .u64 x.f3.f1,.string x.f3.f2,.slice A9 x.f3.f3.length c9,.int .u64 x.f4,.int .u64 x.f5,.slice A12 x.f6.length c12,.slice A13 x.f7.length c13],rfl,(jR w x.f2 l5 g5),⟨[.int .i64 x.f3.f0,.int .u64 x.f3.f1,.string x.f3.f2,.slice A9 x.f3.f3.length c9],[.int .u64 x.f4,.int .u64 x.f5,.slice A12 x.f6.length c12,.slice A13 x.f7.length c13],rfl,(jR w x.f3 l9 g9),⟨[.int .u64 x.f4],[.int .u64 x.f5,.slice A12 x.f6.length c12,.slice A13 x.f7.length c13],rfl,rfl,⟨[.int .u64 x.f5],[.slice A12 x.f6.length c12,.slice A13 x.f7.length c13],rfl,rfl,⟨[.slice A12 x.f6.length c12],[.slice A13 x.f7.length c13],rfl,⟨A12,c12,rfl,l12,r12⟩,⟨A13,c13,rfl,l13,r13⟩⟩⟩⟩⟩⟩⟩⟩⟩
def aI (xs:List S119)(i:Int):S119:=xs.getD i.toNat z119
theorem lG {w:World}{A:Option Addr}{n:Nat}{xs:List S119}(h:Kd.C cU w A n xs)(i:Int)(h0:0<=i)(h1:i<n):∃ad A5 c5 A9 c9 A12 c12 A13 c13,A=ae ad/\w.cell? (ad.add (i.toNat*14))=ae (.int .i64 (aI xs i).f0)/\w.cell? ⟨(ad.add (i.toNat*14)).block,(ad.add (i.toNat*14)).off+1,aj⟩=ae (.string (aI xs i).f1)/\w.cell? ⟨(ad.add (i.toNat*14)).block,(ad.add (i.toNat*14)).off+2,aj⟩=ae (.int .i64 (aI xs i).f2.f0)/\w.cell? ⟨(ad.add (i.toNat*14)).block,(ad.add (i.toNat*14)).off+3,aj⟩=ae (.int .u64 (aI xs i).f2.f1)/\w.cell? ⟨(ad.add (i.toNat*14)).block,(ad.add (i.toNat*14)).off+4,aj⟩=ae (.string (aI xs i).f2.f2)/\w.cell? ⟨(ad.add (i.toNat*14)).block,(ad.add (i.toNat*14)).off+5,aj⟩=ae (.slice A5 (aI xs i).f2.f3.length c5)/\w.cell? ⟨(ad.add (i.toNat*14)).block,(ad.add (i.toNat*14)).off+6,aj⟩=ae (.int .i64 (aI xs i).f3.f0)/\w.cell? ⟨(ad.add (i.toNat*14)).block,(ad.add (i.toNat*14)).off+7,aj⟩=ae (.int .u64 (aI xs i).f3.f1)/\w.cell? ⟨(ad.add (i.toNat*14)).block,(ad.add (i.toNat*14)).off+8,aj⟩=ae (.string (aI xs i).f3.f2)/\w.cell? ⟨(ad.add (i.toNat*14)).block,(ad.add (i.toNat*14)).off+9,aj⟩=ae (.slice A9 (aI xs i).f3.f3.length c9)/\w.cell? ⟨(ad.add (i.toNat*14)).block,(ad.add (i.toNat*14)).off+10,aj⟩=ae (.int .u64 (aI xs i).f4)/\w.cell? ⟨(ad.add (i.toNat*14)).block,(ad.add (i.toNat*14)).off+11,aj⟩=ae (.int .u64 (aI xs i).f5)/\w.cell? ⟨(ad.add (i.toNat*14)).block,(ad.add (i.toNat*14)).off+12,aj⟩=ae (.slice A12 (aI xs i).f6.length c12)/\w.cell? ⟨(ad.add (i.toNat*14)).block,(ad.add (i.toNat*14)).off+13,aj⟩=ae (.slice A13 (aI xs i).f7.length c13)/\(aI xs i).f2.f3.length<=c5/\cH.C w A5 (aI xs i).f2.f3.length (aI xs i).f2.f3/\(aI xs i).f3.f3.length<=c9/\cH.C w A9 (aI xs i).f3.f3.length (aI xs i).f3.f3/\(aI xs i).f6.length<=c12/\cU.C w A12 (aI xs i).f6.length (aI xs i).f6/\(aI xs i).f7.length<=c13/\cU.C w A13 (aI xs i).f7.length (aI xs i).f7:=by
 obtain⟨ad,c,e,_,hK,hc0⟩:=Kd.C_get h z119 i h0 h1;have hc:∀j u,c[j]? =ae u->w.cell? (ad.add (i.toNat*14+j))=ae u:=hc0;obtain⟨A5,c5,A9,c9,A12,c12,A13,c13,rfl,l5,g5,l9,g9,l12,g12,l13,g13⟩:=k119_open hK;exact⟨ad,A5,c5,A9,c9,A12,c12,A13,c13,e,hc 0 _ rfl,by rw[←bO _ _ 1 (by omega)];exact hc 1 _ rfl,by rw[←bO _ _ 2 (by omega)];exact hc 2 _ rfl,by rw[←bO _ _ 3 (by omega)];exact hc 3 _ rfl,by rw[←bO _ _ 4 (by omega)];exact hc 4 _ rfl,by rw[←bO _ _ 5 (by omega)];exact hc 5 _ rfl,by rw[←bO _ _ 6 (by omega)];exact hc 6 _ rfl,by rw[←bO _ _ 7 (by omega)];exact hc 7 _ rfl,by rw[←bO _ _ 8 (by omega)];exact hc 8 _ rfl,by rw[←bO _ _ 9 (by omega)];exact hc 9 _ rfl,by rw[←bO _ _ 10 (by omega)];exact hc 10 _ rfl,by rw[←bO _ _ 11 (by omega)];exact hc 11 _ rfl,by rw[←bO _ _ 12 (by omega)];exact hc 12 _ rfl,by rw[←bO _ _ 13 (by omega)];exact hc 13 _ rfl,l5,g5,l9,g9,l12,g12,l13,g13⟩
structure S70 where
 f0:Int
 f1:ByteArray
 f2:Int
 f3:(List Int)
def z70:S70:=⟨(0:Int),(⟨#[]⟩:ByteArray),(0:Int),([]:List Int)⟩
def k70:Kd S70:=Kd.iso (Kd.pair (Kd.int .i64) (Kd.pair Kd.string (Kd.pair (Kd.int .i64) (Kd.slice 74 (Kd.int .u64))))) (fun x:S70=>(x.f0,x.f1,x.f2,x.f3))
theorem k70_open {w:World}{x:S70}{cs:List Value}(h:k70.K w x cs):∃A3 c3,cs=[.int .i64 x.f0,.string x.f1,.int .i64 x.f2,.slice A3 x.f3.length c3]/\x.f3.length<=c3/\(Kd.int .u64).C w A3 x.f3.length x.f3:=by
 obtain⟨_,_,rfl,rfl,⟨_,_,rfl,rfl,⟨_,_,rfl,rfl,⟨A3,c3,rfl,l3,g3⟩⟩⟩⟩:=h;exact⟨A3,c3,rfl,l3,g3⟩
theorem k70_mk (w:World)(x:S70){A3:Option Addr}{c3:Nat}(l3:x.f3.length<=c3)(g3:(Kd.int .u64).C w A3 x.f3.length x.f3):k70.K w x [.int .i64 x.f0,.string x.f1,.int .i64 x.f2,.slice A3 x.f3.length c3]:=⟨[.int .i64 x.f0],[.string x.f1,.int .i64 x.f2,.slice A3 x.f3.length c3],rfl,rfl,⟨[.string x.f1],[.int .i64 x.f2,.slice A3 x.f3.length c3],rfl,rfl,⟨[.int .i64 x.f2],[.slice A3 x.f3.length c3],rfl,rfl,⟨A3,c3,rfl,l3,g3⟩⟩⟩⟩
def aJ (xs:List S70)(i:Int):S70:=xs.getD i.toNat z70
theorem d6 {w:World}{A:Option Addr}{n:Nat}{xs:List S70}(h:Kd.C k70 w A n xs)(i:Int)(h0:0<=i)(h1:i<n):∃ad A3 c3,A=ae ad/\w.cell? (ad.add (i.toNat*4))=ae (.int .i64 (aJ xs i).f0)/\w.cell? ⟨(ad.add (i.toNat*4)).block,(ad.add (i.toNat*4)).off+1,aj⟩=ae (.string (aJ xs i).f1)/\w.cell? ⟨(ad.add (i.toNat*4)).block,(ad.add (i.toNat*4)).off+2,aj⟩=ae (.int .i64 (aJ xs i).f2)/\w.cell? ⟨(ad.add (i.toNat*4)).block,(ad.add (i.toNat*4)).off+3,aj⟩=ae (.slice A3 (aJ xs i).f3.length c3)/\(aJ xs i).f3.length<=c3/\(Kd.int .u64).C w A3 (aJ xs i).f3.length (aJ xs i).f3:=by
 obtain⟨ad,c,e,_,hK,hc0⟩:=Kd.C_get h z70 i h0 h1;have hc:∀j u,c[j]? =ae u->w.cell? (ad.add (i.toNat*4+j))=ae u:=hc0;obtain⟨A3,c3,rfl,l3,g3⟩:=k70_open hK;exact⟨ad,A3,c3,e,hc 0 _ rfl,by rw[←bO _ _ 1 (by omega)];exact hc 1 _ rfl,by rw[←bO _ _ 2 (by omega)];exact hc 2 _ rfl,by rw[←bO _ _ 3 (by omega)];exact hc 3 _ rfl,l3,g3⟩
end
section
attribute [local go_sem] gZ gY j4 jZ fJ fM iG iE
def lang_Reserved.f (a0:ByteArray):Option (Bool):=if a0.toList=([112,114,111,103,114,97,109]:List UInt8)then(ae ac)else(if a0.toList=([119,105,100,116,104]:List UInt8)then(ae ac)else(if a0.toList=([108,105,110,101]:List UInt8)then(ae ac)else(if a0.toList=([112,117,98,108,105,99]:List UInt8)then(ae ac)else(if a0.toList=([115,101,99,114,101,116]:List UInt8)then(ae ac)else(if a0.toList=([99,111,110,115,116]:List UInt8)then(ae ac)else(if a0.toList=([118,97,114]:List UInt8)then(ae ac)else(if a0.toList=([111,117,116]:List UInt8)then(ae ac)else(if a0.toList=([98,101,103,105,110]:List UInt8)then(ae ac)else(if a0.toList=([101,110,100]:List UInt8)then(ae ac)else(if a0.toList=([105,102]:List UInt8)then(ae ac)else(if a0.toList=([101,108,115,101]:List UInt8)then(ae ac)else(if a0.toList=([102,111,114]:List UInt8)then(ae ac)else(if a0.toList=([114,101,108,101,97,115,101]:List UInt8)then(ae ac)else(if a0.toList=([115,97,114]:List UInt8)then(ae ac)else(if a0.toList=([115,108,116]:List UInt8)then(ae ac)else(if a0.toList=([115,101,108]:List UInt8)then(ae ac)else(ae O)))))))))))))))))
theorem lang_Reserved.calls (a0:ByteArray)(r:Bool)(w:World)(h:lang_Reserved.f a0=ae r):
 Calls au 167 #[.string a0] w fun e w'=>e=.returned (.bool r)/\Drawn0 w w':=by
 have H:=J h;clear h;go_enter Tryz.func167,Tryz.ntmps167
 go_wp2
 all_goals(
  go_ret;have h:=H.out;unfold lang_Reserved.f at h;refine⟨?_,by first | exact(ak _ _).alloc (ai _) _ | exact ak _ _ | (repeat(first | exact dh _ | apply di))⟩
  simp_all)
def letB (c:Int):Bool:=decide (97<=c/\c<=122\/65<=c/\c<=90\/c=95)
def digB (c:Int):Bool:=decide (48<=c/\c<=57)
def okB (s:ByteArray)(i:Nat):Bool:=letB (bt s i)||(decide (1<=i)&&digB (bt s i))
def nmB (s:ByteArray):Bool:=decide (1<=s.size)&&decide (s.size<=24)&&(cr s.size).all (okB s)
theorem bt_get (s:ByteArray)(pos:Nat)(h:pos<s.size):bt s (pos:Int)=((s[pos]'h).toNat:Int):=by simp[bt,h]
theorem width_pos (s:ByteArray)(pos:Nat)(h:pos<s.size):1<=(Utf8.decode s pos).2:=by
 by_cases ha:(s[pos]'h).toNat<128
 ·rw[decode_ascii s pos h ha];exact ai _
 ·exact(decode_high s pos h (by omega)).2
theorem sees (s:ByteArray)(pos:Nat)(h:pos<s.size):(((Utf8.decode s pos).1:Int)=bt s pos/\(Utf8.decode s pos).2=1)\/(128<=(Utf8.decode s pos).1/\128<=bt s pos):=by
 rw[bt_get s pos h]
 by_cases ha:(s[pos]'h).toNat<128
 ·rw[decode_ascii s pos h ha];exact .inl ⟨rfl,rfl⟩
 ·exact .inr ⟨(decode_high s pos h (by omega)).1,by omega⟩
theorem ret_bool {a b:Bool}(h:a=b):Ending.returned (.bool a)=.returned (.bool b):=by rw[h]
theorem all_yes {s:ByteArray}{pos:Nat}(h:s.size<=pos)(hk:∀i,i<pos->okB s i=ac):ac=(cr s.size).all (okB s):=by
 symm
 rw[ew];exact fun i hi=>hk i (by have:=gq.1 hi;omega)
theorem more_ok {s:ByteArray}{pos:Nat}(hk:∀i,i<pos->okB s i=ac)(h:okB s pos=ac):∀i,i<pos+1->okB s i=ac:=by
 intro i hi
 by_cases e:i=pos
 ·rw[e];exact h
 ·exact hk i (by omega)
theorem all_no {s:ByteArray}{pos:Nat}(h:pos<s.size)(hn:okB s pos=O):O=(cr s.size).all (okB s):=by
 symm
 rw[List.all_eq_false];exact⟨pos,gq.2 h,by rw[hn];decide⟩
theorem no_ok {s:ByteArray}{pos r wd:Nat}(h:((r:Int)=bt s pos/\wd=1)\/(128<=r/\128<=bt s pos))(hl:¬(97<=(r:Int)/\(r:Int)<=122)/\¬(65<=(r:Int)/\(r:Int)<=90)/\¬(r:Int)=95)(hd:pos=0\/(r:Int)<48\/57<(r:Int)):okB s pos=O:=by
 unfold okB letB digB;simp only[Bool.or_eq_false_iff,Bool.and_eq_false_iff,decide_eq_false_iff_not];omega
theorem yes_ok {s:ByteArray}{pos r wd:Nat}(h:((r:Int)=bt s pos/\wd=1)\/(128<=r/\128<=bt s pos))(hl:(97<=(r:Int)/\(r:Int)<=122\/65<=(r:Int)/\(r:Int)<=90\/(r:Int)=95)\/(1<=pos/\48<=(r:Int)/\(r:Int)<=57)):wd=1/\okB s pos=ac:=by
 refine⟨by omega,?_⟩;unfold okB letB digB;simp only[Bool.or_eq_true,dg,decide_eq_true_eq];omega
theorem bits_Name_long (s:ByteArray)(w:World)(h:s.size<1\/24<s.size):
 Calls au 166 #[.string s] w fun e w'=>e=.returned (.bool O)/\Below w.heap.size w w':=by
 rcases h with h | h
 ·go_enter Tryz.func166,Tryz.ntmps166
  go_wp2
  go_ret;exact⟨rfl,ak _ _⟩
 ·have h':¬s.size<1:=by omega
  go_enter Tryz.func166,Tryz.ntmps166
  go_wp2
  go_ret;exact⟨rfl,ak _ _⟩
theorem bits_Name_walk (s:ByteArray)(w:World)(h1:1<=s.size)(h2:s.size<=24):
 Calls au 166 #[.string s] w fun e w'=>e=.returned (.bool ((cr s.size).all (okB s)))/\Below w.heap.size w w':=by
 have n1:¬s.size<1:=by omega
 have n2:¬24<s.size:=by omega
 go_enter Tryz.func166,Tryz.ntmps166
 go_wp2
 go_loopw [3] (fun _ w'=>∃pos:Nat,w'=w.iter s pos/\pos<=s.size/\Aside0 (∀i,i<pos->okB s i=ac)) (fun _ w'=>s.size - w'.iterPos w.heap.size)
 case atStart=>exact⟨0,rfl,by omega,⟨fun i hi=>by omega⟩⟩
 case round=>
  obtain⟨pos,rfl,hle,hk⟩:=hrel
  by_cases hp:pos<s.size
  ·have hnx:∀ty,(Instr.next (.pointer (ae ⟨w.heap.size,0,aj⟩)) ac ty).run au (w.iter s pos)= _:=fun ty=>run_next_any w s pos ty hp;have hsee:=J (sees s pos hp);have hwd:=width_pos s pos hp;generalize hr:(Utf8.decode s pos).1=r at*;generalize hw:(Utf8.decode s pos).2=wd at*;clear hr hw
   go_wp2
   all_goals clear hnx
   all_goals first
    | (go_ret
       refine⟨?_,(ak _ _).alloc (ai _) _⟩;refine ret_bool (all_no hp ?_);refine no_ok hsee.out (r:=r) (by omega) ?_
       (try simp at*);omega)
    | (have hs1:(97<=(r:Int)/\(r:Int)<=122\/65<=(r:Int)/\(r:Int)<=90\/(r:Int)=95)\/(1<=pos/\48<=(r:Int)/\(r:Int)<=57):=by
        (try simp at*);omega
       obtain⟨g1,g2⟩:=yes_ok hsee.out hs1;subst g1;refine⟨⟨pos+1,by first | rfl | (congr 1;omega),by omega,⟨more_ok hk.out g2⟩⟩,?_⟩
       simp
       omega)
  ·have hnx:∀ty,(Instr.next (.pointer (ae ⟨w.heap.size,0,aj⟩)) ac ty).run au (w.iter s pos)= _:=fun ty=>run_next_end w s pos ty hp
   go_wp2
   go_ret;exact⟨ret_bool (all_yes (by omega) hk.out),(ak _ _).alloc (ai _) _⟩
theorem lH (s:ByteArray)(w:World):
 Calls au 166 #[.string s] w fun e w'=>e=.returned (.bool (nmB s))/\Below w.heap.size w w':=by
 by_cases h:1<=s.size/\s.size<=24
 ·have e:nmB s=(cr s.size).all (okB s):=by unfold nmB;rw[decide_eq_true h.1,decide_eq_true h.2];rfl
  rw[e];exact bits_Name_walk s w h.1 h.2
 ·have e:nmB s=O:=by
   unfold nmB
   by_cases h1:1<=s.size
   ·rw[decide_eq_false (show ¬s.size<=24 by omega)];simp
   ·rw[decide_eq_false h1];simp
  rw[e];exact bits_Name_long s w (by omega)
def bits_Name.f (a0:ByteArray):Option Bool:=ae (nmB a0)
theorem bits_Name.calls (a0:ByteArray)(r:Bool)(w:World)(h:bits_Name.f a0=ae r):
 Calls au 166 #[.string a0] w fun e w'=>e=.returned (.bool r)/\Below w.heap.size w w':=by
 obtain rfl:=cn h;exact lH a0 w
def lang_named.f (a0:ByteArray):Option (Bool):=(bits_Name.f a0).bind fun t101=>(if t101=ac then((lang_Reserved.f a0).bind fun t102=>(ae (!t102)))else(ae O))
theorem lang_named.calls (a0:ByteArray)(r:Bool)(w:World)(h:lang_named.f a0=ae r):
 Calls au 119 #[.string a0] w fun e w'=>e=.returned (.bool r)/\Below w.heap.size w w':=by
 have HB:=J (ak w.heap.size w);have H:((bits_Name.f a0).bind fun t101=>(if t101=ac then((lang_Reserved.f a0).bind fun t102=>(ae (!t102)))else(ae O)))=ae r:=h;clear h;replace H:=Option.bind_eq_some_iff.mp H;obtain⟨t101,A20,H⟩:=H;replace H:(if t101=ac then((lang_Reserved.f a0).bind fun t102=>(ae (!t102)))else(ae O))=ae r:=H;have A2:=J A20;clear A20
 by_cases c3:t101=ac
 ·subst c3
  have H1:((lang_Reserved.f a0).bind fun t102=>(ae (!t102)))=ae r:=by rw[if_pos rfl]at H;exact H
  clear H;have H:=H1;clear H1;replace H:=Option.bind_eq_some_iff.mp H;obtain⟨t102,A40,H⟩:=H;replace H:(ae (!t102))=ae r:=H;have A4:=J A40;clear A40;obtain rfl:=cn H;go_enter Tryz.func119,Tryz.ntmps119
  go_wp2_with (first | ((with_reducible refine cY (f:=166) rfl ?_);refine j9 (ae 4) rfl rfl Tryz.func166 (by kernel_rfl) rfl #[.string a0] rfl (by(try simp only[cd,cq,dc]);first | done | rfl | (simp only[eu,bq];rfl)) ?_;(with_reducible refine(bits_Name.calls a0 ac _ A2.out).mono ?_);rintro e w5 ⟨rfl,hb⟩;refine⟨_,rfl,?_⟩;have n0_:=J (iC (by repeat(first | (with_reducible first | exact HB.out | apply bC | apply aV | apply bI) | exact HB.out)) hb);clear HB;have HB:=n0_;clear n0_;(try clear hb);(try clear hb2);(try clear hk);(try clear hi)) | (go_at_call 167;(with_reducible refine(lang_Reserved.calls a0 t102 _ A4.out).mono ?_);rintro e w' ⟨rfl,⟨nd,rfl⟩⟩))
  go_ret;exact⟨by first | rfl | (simp[bZ,cA] <;> rfl) | (simp[*,bZ,cA] <;> rfl),by repeat(first | (with_reducible first | exact HB.out | apply bC | apply aV | apply bI) | exact HB.out)⟩
 ·replace c3:=Bool.eq_false_iff.mpr c3;subst c3
  have H1:(ae O)=ae r:=by rw[if_neg (show ¬(O=ac) by decide)]at H;exact H
  clear H;have H:=H1;clear H1;obtain rfl:=cn H;go_enter Tryz.func119,Tryz.ntmps119
  go_wp2_with (first | ((with_reducible refine cY (f:=166) rfl ?_);refine j9 (ae 4) rfl rfl Tryz.func166 (by kernel_rfl) rfl #[.string a0] rfl (by(try simp only[cd,cq,dc]);first | done | rfl | (simp only[eu,bq];rfl)) ?_;(with_reducible refine(bits_Name.calls a0 O _ A2.out).mono ?_);rintro e w6 ⟨rfl,hb⟩;refine⟨_,rfl,?_⟩;have n0_:=J (iC (by repeat(first | (with_reducible first | exact HB.out | apply bC | apply aV | apply bI) | exact HB.out)) hb);clear HB;have HB:=n0_;clear n0_;(try clear hb);(try clear hb2);(try clear hk);(try clear hi)))
  go_ret;exact⟨by first | rfl | (simp[bZ,cA] <;> rfl) | (simp[*,bZ,cA] <;> rfl),by repeat(first | (with_reducible first | exact HB.out | apply bC | apply aV | apply bI) | exact HB.out)⟩
def lang_none.f (a0_0:Int)(a0_1:Int)(a0_2:ByteArray)(l0_3:List (S116)):Option (Bool):=if a0_0=0 then(if a0_1=0 then(if a0_2.toList=([]:List UInt8)then(ae ((l0_3.length:Int)==0))else(ae O))else(ae O))else(ae O)
theorem lang_none.calls (a0_0:Int)(a0_1:Int)(a0_2:ByteArray)(A0_3:Option Addr)(c0_3:Nat)(l0_3:List (S116))(r:Bool)(w:World)(hr0_3:Kd.C cH w A0_3 l0_3.length l0_3)(hc0_3:l0_3.length<=c0_3)(h:lang_none.f a0_0 a0_1 a0_2 l0_3=ae r):
 Calls au 241 #[.agg #[.int .i64 a0_0,.int .u64 a0_1,.string a0_2,.slice A0_3 l0_3.length c0_3]] w fun e w'=>e=.returned (.bool r)/\Below w.heap.size w w':=by
 have H:=J h;clear h hr0_3 hc0_3;go_enter Tryz.func241,Tryz.ntmps241
 go_wp2
 all_goals(
  go_ret;have h:=H.out;unfold lang_none.f at h;refine⟨?_,by first | exact(ak _ _).alloc (ai _) _ | exact ak _ _ | (repeat(first | exact dh _ | apply di))⟩
  simp_all)
def cadenceref15_Reserved.l0:Nat->ByteArray->List ByteArray->Int->Option (Bool)
 |0,_,_,_=>aj
 |k+1,x0,x3,x4=>if x4<(x3.length:Int)then(if 0<=x4 then(if(kJ ba x3 x4).toList=x0.toList then(ae ac)else(cadenceref15_Reserved.l0 k x0 x3 (wrap64 (x4+1))))else(aj))else(ae O)
def cadenceref15_Reserved.f (k:Nat)(a0:ByteArray):Option (Bool):=cadenceref15_Reserved.l0 k a0 (([(⟨#[112,114,111,103,114,97,109]⟩:ByteArray),(⟨#[119,105,100,116,104]⟩:ByteArray),(⟨#[108,105,110,101]⟩:ByteArray),(⟨#[112,117,98,108,105,99]⟩:ByteArray),(⟨#[115,101,99,114,101,116]⟩:ByteArray),(⟨#[99,111,110,115,116]⟩:ByteArray),(⟨#[118,97,114]⟩:ByteArray),(⟨#[111,117,116]⟩:ByteArray),(⟨#[98,101,103,105,110]⟩:ByteArray),(⟨#[101,110,100]⟩:ByteArray),(⟨#[105,102]⟩:ByteArray),(⟨#[101,108,115,101]⟩:ByteArray),(⟨#[102,111,114]⟩:ByteArray),(⟨#[114,101,108,101,97,115,101]⟩:ByteArray),(⟨#[115,97,114]⟩:ByteArray),(⟨#[115,108,116]⟩:ByteArray),(⟨#[115,101,108]⟩:ByteArray)]:List ByteArray)) 0
theorem cadenceref15_Reserved.calls (k:Nat)(a0:ByteArray)(r:Bool)(w:World)(h:cadenceref15_Reserved.f k a0=ae r):
 Calls au 171 #[.string a0] w fun e w'=>e=.returned (.bool r)/\Below w.heap.size w w':=by
 have HB:=J (ak w.heap.size w);have H:(cadenceref15_Reserved.l0 k a0 (([(⟨#[112,114,111,103,114,97,109]⟩:ByteArray),(⟨#[119,105,100,116,104]⟩:ByteArray),(⟨#[108,105,110,101]⟩:ByteArray),(⟨#[112,117,98,108,105,99]⟩:ByteArray),(⟨#[115,101,99,114,101,116]⟩:ByteArray),(⟨#[99,111,110,115,116]⟩:ByteArray),(⟨#[118,97,114]⟩:ByteArray),(⟨#[111,117,116]⟩:ByteArray),(⟨#[98,101,103,105,110]⟩:ByteArray),(⟨#[101,110,100]⟩:ByteArray),(⟨#[105,102]⟩:ByteArray),(⟨#[101,108,115,101]⟩:ByteArray),(⟨#[102,111,114]⟩:ByteArray),(⟨#[114,101,108,101,97,115,101]⟩:ByteArray),(⟨#[115,97,114]⟩:ByteArray),(⟨#[115,108,116]⟩:ByteArray),(⟨#[115,101,108]⟩:ByteArray)]:List ByteArray)) 0)=ae r:=h;clear h;obtain⟨y132,hy132⟩:∃y_:List ByteArray,y_ =(([(⟨#[112,114,111,103,114,97,109]⟩:ByteArray),(⟨#[119,105,100,116,104]⟩:ByteArray),(⟨#[108,105,110,101]⟩:ByteArray),(⟨#[112,117,98,108,105,99]⟩:ByteArray),(⟨#[115,101,99,114,101,116]⟩:ByteArray),(⟨#[99,111,110,115,116]⟩:ByteArray),(⟨#[118,97,114]⟩:ByteArray),(⟨#[111,117,116]⟩:ByteArray),(⟨#[98,101,103,105,110]⟩:ByteArray),(⟨#[101,110,100]⟩:ByteArray),(⟨#[105,102]⟩:ByteArray),(⟨#[101,108,115,101]⟩:ByteArray),(⟨#[102,111,114]⟩:ByteArray),(⟨#[114,101,108,101,97,115,101]⟩:ByteArray),(⟨#[115,97,114]⟩:ByteArray),(⟨#[115,108,116]⟩:ByteArray),(⟨#[115,101,108]⟩:ByteArray)]:List ByteArray)):=⟨_,rfl⟩
 replace H:(cadenceref15_Reserved.l0 k a0 y132 0)=ae r:=by first | (rw[hy132];with_reducible exact H) | (have H2_:=(fw _ _).symm.trans H;rw[hy132];with_reducible exact H2_) | (have H2_:=(fw _ _).symm.trans H;with_reducible exact H2_) | with_reducible exact H | (rw[hy132];exact H) | exact H
 have Ny132:=J hy132;clear hy132;have H':=J H;clear H;go_enter Tryz.func171,Tryz.ntmps171
 go_wp2_with (first | ((with_reducible refine gate_dst (N:=5) rfl ?_);refine Kd.R_lit Kd.string _ 9 ?hg (N:=5) ?hd (xs:=([(⟨#[112,114,111,103,114,97,109]⟩:ByteArray),(⟨#[119,105,100,116,104]⟩:ByteArray),(⟨#[108,105,110,101]⟩:ByteArray),(⟨#[112,117,98,108,105,99]⟩:ByteArray),(⟨#[115,101,99,114,101,116]⟩:ByteArray),(⟨#[99,111,110,115,116]⟩:ByteArray),(⟨#[118,97,114]⟩:ByteArray),(⟨#[111,117,116]⟩:ByteArray),(⟨#[98,101,103,105,110]⟩:ByteArray),(⟨#[101,110,100]⟩:ByteArray),(⟨#[105,102]⟩:ByteArray),(⟨#[101,108,115,101]⟩:ByteArray),(⟨#[102,111,114]⟩:ByteArray),(⟨#[114,101,108,101,97,115,101]⟩:ByteArray),(⟨#[115,97,114]⟩:ByteArray),(⟨#[115,108,116]⟩:ByteArray),(⟨#[115,101,108]⟩:ByteArray)]:List ByteArray)) (inner:=[.string (⟨#[112,114,111,103,114,97,109]⟩:ByteArray),.string (⟨#[119,105,100,116,104]⟩:ByteArray),.string (⟨#[108,105,110,101]⟩:ByteArray),.string (⟨#[112,117,98,108,105,99]⟩:ByteArray),.string (⟨#[115,101,99,114,101,116]⟩:ByteArray),.string (⟨#[99,111,110,115,116]⟩:ByteArray),.string (⟨#[118,97,114]⟩:ByteArray),.string (⟨#[111,117,116]⟩:ByteArray),.string (⟨#[98,101,103,105,110]⟩:ByteArray),.string (⟨#[101,110,100]⟩:ByteArray),.string (⟨#[105,102]⟩:ByteArray),.string (⟨#[101,108,115,101]⟩:ByteArray),.string (⟨#[102,111,114]⟩:ByteArray),.string (⟨#[114,101,108,101,97,115,101]⟩:ByteArray),.string (⟨#[115,97,114]⟩:ByteArray),.string (⟨#[115,108,116]⟩:ByteArray),.string (⟨#[115,101,108]⟩:ByteArray)]) (ok:=fun _=>True) (okp:=fun _=>True) ?hr ?hp (fun _ hk=>hk) trivial (ak _ _) (ai _) (by simp) ?_;(case hd=>rfl);(case hg=>rfl);(case hr=>first | (go_simp;done) | (go_simp;rfl));(case hp=>exact(eY.one (show Kd.M Kd.string _ _ _ (⟨#[112,114,111,103,114,97,109]⟩:ByteArray) [.string (⟨#[112,114,111,103,114,97,109]⟩:ByteArray)] from rfl) (eY.one (show Kd.M Kd.string _ _ _ (⟨#[119,105,100,116,104]⟩:ByteArray) [.string (⟨#[119,105,100,116,104]⟩:ByteArray)] from rfl) (eY.one (show Kd.M Kd.string _ _ _ (⟨#[108,105,110,101]⟩:ByteArray) [.string (⟨#[108,105,110,101]⟩:ByteArray)] from rfl) (eY.one (show Kd.M Kd.string _ _ _ (⟨#[112,117,98,108,105,99]⟩:ByteArray) [.string (⟨#[112,117,98,108,105,99]⟩:ByteArray)] from rfl) (eY.one (show Kd.M Kd.string _ _ _ (⟨#[115,101,99,114,101,116]⟩:ByteArray) [.string (⟨#[115,101,99,114,101,116]⟩:ByteArray)] from rfl) (eY.one (show Kd.M Kd.string _ _ _ (⟨#[99,111,110,115,116]⟩:ByteArray) [.string (⟨#[99,111,110,115,116]⟩:ByteArray)] from rfl) (eY.one (show Kd.M Kd.string _ _ _ (⟨#[118,97,114]⟩:ByteArray) [.string (⟨#[118,97,114]⟩:ByteArray)] from rfl) (eY.one (show Kd.M Kd.string _ _ _ (⟨#[111,117,116]⟩:ByteArray) [.string (⟨#[111,117,116]⟩:ByteArray)] from rfl) (eY.one (show Kd.M Kd.string _ _ _ (⟨#[98,101,103,105,110]⟩:ByteArray) [.string (⟨#[98,101,103,105,110]⟩:ByteArray)] from rfl) (eY.one (show Kd.M Kd.string _ _ _ (⟨#[101,110,100]⟩:ByteArray) [.string (⟨#[101,110,100]⟩:ByteArray)] from rfl) (eY.one (show Kd.M Kd.string _ _ _ (⟨#[105,102]⟩:ByteArray) [.string (⟨#[105,102]⟩:ByteArray)] from rfl) (eY.one (show Kd.M Kd.string _ _ _ (⟨#[101,108,115,101]⟩:ByteArray) [.string (⟨#[101,108,115,101]⟩:ByteArray)] from rfl) (eY.one (show Kd.M Kd.string _ _ _ (⟨#[102,111,114]⟩:ByteArray) [.string (⟨#[102,111,114]⟩:ByteArray)] from rfl) (eY.one (show Kd.M Kd.string _ _ _ (⟨#[114,101,108,101,97,115,101]⟩:ByteArray) [.string (⟨#[114,101,108,101,97,115,101]⟩:ByteArray)] from rfl) (eY.one (show Kd.M Kd.string _ _ _ (⟨#[115,97,114]⟩:ByteArray) [.string (⟨#[115,97,114]⟩:ByteArray)] from rfl) (eY.one (show Kd.M Kd.string _ _ _ (⟨#[115,108,116]⟩:ByteArray) [.string (⟨#[115,108,116]⟩:ByteArray)] from rfl) (eY.one (show Kd.M Kd.string _ _ _ (⟨#[115,101,108]⟩:ByteArray) [.string (⟨#[115,101,108]⟩:ByteArray)] from rfl) (eY.none _ _)))))))))))))))))));intro v133 w2 ho3 hb hg_ hnew_;clear hg_ hnew_;(first | rw[←Ny132.out]at ho3 | (simp only[Int.reduceToNat]at ho3;rw[←Ny132.out]at ho3));have n0_:=J (Kd.R_lower ho3 (below_size (by repeat(first | (with_reducible first | exact HB.out | apply bC | apply aV | apply bI) | exact HB.out))));have n1_:=J (iC (by repeat(first | (with_reducible first | exact HB.out | apply bC | apply aV | apply bI) | exact HB.out)) hb);clear HB;have HO134:=n0_;have HB:=n1_;clear n0_ n1_;clear hb ho3))
 go_loopg [4] k (fun kq v4 w'=>∃(x4_1:Int),v4=.int .i64 x4_1/\Aside0 (cadenceref15_Reserved.l0 kq a0 y132 x4_1=ae r)/\Aside0 (kq<=k)/\Aside0 (Kd.R Kd.string 9 w' w.heap.size (fun _=>True) v133 y132)/\Aside0 (Below w.heap.size w w'))
 case atStart=>exact⟨(0),(by first | rfl | (simp;done) | (simp[*];done)),H',⟨ai _⟩,⟨by(with_reducible repeat(first | apply Kd.R_alloc | apply Kd.R_drewN | apply Kd.R_drew));exact HO134.out⟩,⟨by repeat(first | (with_reducible first | exact HB.out | apply bC | apply aV | apply bI) | exact HB.out)⟩⟩
 case round=>
  clear H'
  try clear p2
  try clear c3
  obtain⟨x4_1,rfl,HA,HK1,HO_3,HB⟩:=hrel
  cases gk with
  |zero=>exact absurd HA.out (by simp[cadenceref15_Reserved.l0])
  |succ k1=>
   have H:=HA.out;clear HA;simp only[cadenceref15_Reserved.l0]at H
   by_cases c4:x4_1<(y132.length:Int)
   ·rw[if_pos c4]at H;have c4b0:decide (x4_1<(y132.length:Int))=ac:=decide_eq_true c4;clear c4
    by_cases c5:0<=x4_1
    ·rw[if_pos c5]at H;have c5b0:decide (0<=x4_1)=ac:=decide_eq_true c5;clear c5
     by_cases c6:(kJ ba y132 x4_1).toList=a0.toList
     ·rw[if_pos c6]at H;have c6b0:((kJ ba y132 x4_1).toList==a0.toList)=ac:=beq_iff_eq.mpr c6;have c6b1:((kJ ba y132 x4_1).toList != a0.toList)=O:=bne_eq_false_iff_eq.mpr c6;clear c6;obtain rfl:=cn H;obtain⟨Ao7,co7,eo7⟩:=Kd.dG HO_3.out;subst eo7;have p135:0<=(x4_1:Int):=of_decide_eq_true (by first | (with_reducible assumption) | assumption);have q135:x4_1<(y132.length:Int):=of_decide_eq_true (by first | (with_reducible assumption) | assumption);obtain⟨ad135,e135,hx135_0⟩:=Kd.dY (Kd.kL HO_3.out).2.2 x4_1 p135 q135;cases e135;replace p135:=eq_true p135;replace q135:=eq_true q135
      go_wp2
      go_ret;exact⟨by first | rfl | (simp[bZ,cA] <;> rfl) | (simp[*,bZ,cA] <;> rfl),by repeat(first | (with_reducible first | exact HB.out | apply bC | apply aV | apply bI) | exact HB.out)⟩
     ·rw[if_neg c6]at H;have c6b0:((kJ ba y132 x4_1).toList==a0.toList)=O:=beq_eq_false_iff_ne.mpr c6;have c6b1:((kJ ba y132 x4_1).toList != a0.toList)=ac:=bne_iff_ne.mpr c6;have H':=J H;clear H;obtain⟨Ao8,co8,eo8⟩:=Kd.dG HO_3.out;subst eo8;have p135:0<=(x4_1:Int):=of_decide_eq_true (by first | (with_reducible assumption) | assumption);have q135:x4_1<(y132.length:Int):=of_decide_eq_true (by first | (with_reducible assumption) | assumption);obtain⟨ad135,e135,hx135_0⟩:=Kd.dY (Kd.kL HO_3.out).2.2 x4_1 p135 q135;cases e135;replace p135:=eq_true p135;replace q135:=eq_true q135
      go_wp2
      go_roundg k1
      case measure=>have:=HK1.out;omega
      case rel=>exact⟨(wrap64 (x4_1+1)),(by first | rfl | (simp;done) | (simp[*];done)),H',⟨by have:=HK1.out;omega⟩,⟨by(with_reducible repeat(first | apply Kd.R_alloc | apply Kd.R_drewN | apply Kd.R_drew));exact HO_3.out⟩,⟨by repeat(first | (with_reducible first | exact HB.out | apply bC | apply aV | apply bI) | exact HB.out)⟩⟩
    ·rw[if_neg c5]at H;exact absurd H (by simp)
   ·rw[if_neg c4]at H;have c4b0:decide (x4_1<(y132.length:Int))=O:=decide_eq_false c4;clear c4;obtain rfl:=cn H;obtain⟨Ao9,co9,eo9⟩:=Kd.dG HO_3.out;subst eo9
    go_wp2
    go_ret;exact⟨by first | rfl | (simp[bZ,cA] <;> rfl) | (simp[*,bZ,cA] <;> rfl),by repeat(first | (with_reducible first | exact HB.out | apply bC | apply aV | apply bI) | exact HB.out)⟩
def cadenceref01_Letter.f (a0:Int):Option (Bool):=if a0 ≥ 97 then(if a0<=122 then(ae ac)else(if a0 ≥ 65 then(if a0<=90 then(ae ac)else(ae (a0==95)))else(ae (a0==95))))else(if a0 ≥ 65 then(if a0<=90 then(ae ac)else(ae (a0==95)))else(ae (a0==95)))
theorem cadenceref01_Letter.calls (a0:Int)(r:Bool)(w:World)(h:cadenceref01_Letter.f a0=ae r):
 Calls au 242 #[.int .u8 a0] w fun e w'=>e=.returned (.bool r)/\Drawn0 w w':=by
 have H:(if a0 ≥ 97 then(if a0<=122 then(ae ac)else(if a0 ≥ 65 then(if a0<=90 then(ae ac)else(ae (a0==95)))else(ae (a0==95))))else(if a0 ≥ 65 then(if a0<=90 then(ae ac)else(ae (a0==95)))else(ae (a0==95))))=ae r:=h;clear h
 by_cases c2:a0 ≥ 97
 ·rw[if_pos c2]at H;have c2b0:decide (97<=a0)=ac:=decide_eq_true c2;clear c2
  by_cases c3:a0<=122
  ·rw[if_pos c3]at H;have c3b0:decide (a0<=122)=ac:=decide_eq_true c3;clear c3;obtain rfl:=cn H;go_enter gj,Tryz.ntmps242
   go_wp2
   go_ret;exact⟨by first | rfl | (simp;done) | (simp[*];done),by repeat(first | exact dh _ | apply di)⟩
  ·rw[if_neg c3]at H;have c3b0:decide (a0<=122)=O:=decide_eq_false c3;clear c3
   by_cases c4:a0 ≥ 65
   ·rw[if_pos c4]at H;have c4b0:decide (65<=a0)=ac:=decide_eq_true c4;clear c4
    by_cases c5:a0<=90
    ·rw[if_pos c5]at H;have c5b0:decide (a0<=90)=ac:=decide_eq_true c5;clear c5;obtain rfl:=cn H;go_enter gj,Tryz.ntmps242
     go_wp2
     go_ret;exact⟨by first | rfl | (simp;done) | (simp[*];done),by repeat(first | exact dh _ | apply di)⟩
    ·rw[if_neg c5]at H;have c5b0:decide (a0<=90)=O:=decide_eq_false c5;clear c5;obtain rfl:=cn H;go_enter gj,Tryz.ntmps242
     go_wp2
     go_ret;exact⟨by first | rfl | (simp;done) | (simp[*];done),by repeat(first | exact dh _ | apply di)⟩
   ·rw[if_neg c4]at H;have c4b0:decide (65<=a0)=O:=decide_eq_false c4;clear c4;obtain rfl:=cn H;go_enter gj,Tryz.ntmps242
    go_wp2
    go_ret;exact⟨by first | rfl | (simp;done) | (simp[*];done),by repeat(first | exact dh _ | apply di)⟩
 ·rw[if_neg c2]at H;have c2b0:decide (97<=a0)=O:=decide_eq_false c2;clear c2
  by_cases c6:a0 ≥ 65
  ·rw[if_pos c6]at H;have c6b0:decide (65<=a0)=ac:=decide_eq_true c6;clear c6
   by_cases c7:a0<=90
   ·rw[if_pos c7]at H;have c7b0:decide (a0<=90)=ac:=decide_eq_true c7;clear c7;obtain rfl:=cn H;go_enter gj,Tryz.ntmps242
    go_wp2
    go_ret;exact⟨by first | rfl | (simp;done) | (simp[*];done),by repeat(first | exact dh _ | apply di)⟩
   ·rw[if_neg c7]at H;have c7b0:decide (a0<=90)=O:=decide_eq_false c7;clear c7;obtain rfl:=cn H;go_enter gj,Tryz.ntmps242
    go_wp2
    go_ret;exact⟨by first | rfl | (simp;done) | (simp[*];done),by repeat(first | exact dh _ | apply di)⟩
  ·rw[if_neg c6]at H;have c6b0:decide (65<=a0)=O:=decide_eq_false c6;clear c6;obtain rfl:=cn H;go_enter gj,Tryz.ntmps242
   go_wp2
   go_ret;exact⟨by first | rfl | (simp;done) | (simp[*];done),by repeat(first | exact dh _ | apply di)⟩
mutual
def cadenceref01_Name.j0:Nat->ByteArray->Bool->Option (Bool)
 |0,_,_=>aj
 |k+1,x0,x17=>if x17=ac then(ae O)else(cadenceref01_Name.l0 k x0 1)
def cadenceref01_Name.l0:Nat->ByteArray->Int->Option (Bool)
 |0,_,_=>aj
 |k+1,x0,x3=>if x3<(x0.size:Int)then(if 0<=x3 then((cadenceref01_Letter.f (bt x0 x3)).bind fun t131=>(if t131=ac then(cadenceref01_Name.l0 k x0 (wrap64 (x3+1)))else(if(bt x0 x3)<48 then(ae O)else(if(bt x0 x3) > 57 then(ae O)else(cadenceref01_Name.l0 k x0 (wrap64 (x3+1)))))))else(aj))else(ae ac)
end
def cadenceref01_Name.f (k:Nat)(a0:ByteArray):Option (Bool):=if(a0.size:Int)<1 then(cadenceref01_Name.j0 k a0 ac)else(if(a0.size:Int) > 24 then(cadenceref01_Name.j0 k a0 ac)else(if 0<(a0.size:Int)then((cadenceref01_Letter.f (bt a0 0)).bind fun t130=>(cadenceref01_Name.j0 k a0 (!t130)))else(aj)))
theorem cadenceref01_Name.calls (k:Nat)(a0:ByteArray)(r:Bool)(w:World)(h:cadenceref01_Name.f k a0=ae r):
 Calls au 170 #[.string a0] w fun e w'=>e=.returned (.bool r)/\Drawn0 w w':=by
 have H:(if(a0.size:Int)<1 then(cadenceref01_Name.j0 k a0 ac)else(if(a0.size:Int) > 24 then(cadenceref01_Name.j0 k a0 ac)else(if 0<(a0.size:Int)then((cadenceref01_Letter.f (bt a0 0)).bind fun t130=>(cadenceref01_Name.j0 k a0 (!t130)))else(aj))))=ae r:=h;clear h;have HC2:=J H;clear H;go_enter Tryz.func170,Tryz.ntmps170
 go_upto_region 1 with (fail)
 go_cut [17] (fun v17 wc=>∃(kq:Nat) (x17_1:Bool),v17=.bool x17_1/\Aside0 (cadenceref01_Name.j0 kq a0 x17_1=ae r)/\Aside0 (kq<=k)/\Drawn0 w wc)
 case first=>
  have H:=HC2.out;clear HC2
  by_cases c3:(a0.size:Int)<1
  ·rw[if_pos c3]at H;have c3b0:decide ((a0.size:Int)<1)=ac:=decide_eq_true c3;have c3b1:decide (a0.size<1)=ac:=decide_eq_true (by omega);clear c3
   (first | rw[c3b0] | (simp only[aQ,aP];rw[c3b0]) | skip)
   have H':=J H;clear H
   go_wp2
   go_meet
   case rel=>exact⟨_,(ac),(by first | rfl | (simp;done) | (simp[*];done)),H',⟨by first | omega | exact ai _⟩,by repeat(first | exact dh _ | apply di)⟩
  ·rw[if_neg c3]at H;have c3b0:decide ((a0.size:Int)<1)=O:=decide_eq_false c3;have c3b1:decide (a0.size<1)=O:=decide_eq_false (by omega);clear c3
   (first | rw[c3b0] | (simp only[aQ,aP];rw[c3b0]) | skip)
   by_cases c4:(a0.size:Int) > 24
   ·rw[if_pos c4]at H;have c4b0:decide (24<(a0.size:Int))=ac:=decide_eq_true c4;have c4b1:decide (24<a0.size)=ac:=decide_eq_true (by omega);clear c4;have H':=J H;clear H
    go_wp2
    go_meet
    case rel=>exact⟨_,(ac),(by first | rfl | (simp;done) | (simp[*];done)),H',⟨by first | omega | exact ai _⟩,by repeat(first | exact dh _ | apply di)⟩
   ·rw[if_neg c4]at H;have c4b0:decide (24<(a0.size:Int))=O:=decide_eq_false c4;have c4b1:decide (24<a0.size)=O:=decide_eq_false (by omega);clear c4
    by_cases c5:0<(a0.size:Int)
    ·rw[if_pos c5]at H;have c5b0:decide (0<(a0.size:Int))=ac:=decide_eq_true c5;have c5b1:decide (0<a0.size)=ac:=decide_eq_true (by omega);clear c5;replace H:=Option.bind_eq_some_iff.mp H;obtain⟨t130,A70,H⟩:=H;replace H:(cadenceref01_Name.j0 k a0 (!t130))=ae r:=H;have A7:=J A70;clear A70;have H':=J H;clear H;have p6:0<=(0:Int):=(by omega);have q6:0<a0.size:=(by have:(0:Int)<(a0.size:Int):=of_decide_eq_true (by first | (with_reducible assumption) | assumption);omega);have hx6:∀h:0<a0.size,((a0[0]'h).toNat:Int)=bt a0 0:=bt_at a0 0;clear p6;have qi6:(0<(a0.size:Int))=True:=eq_true (of_decide_eq_true (by first | (with_reducible assumption) | assumption));replace q6:=eq_true q6
     go_wp2_with (first | (go_at_call 242;(with_reducible refine(cadenceref01_Letter.calls (bt a0 0) t130 _ A7.out).mono ?_);rintro e w' ⟨rfl,⟨nd,rfl⟩⟩))
     go_meet
     case rel=>exact⟨_,(!t130),(by first | rfl | (simp;done) | (simp[*];done)),H',⟨by first | omega | exact ai _⟩,by repeat(first | exact dh _ | apply di)⟩
    ·rw[if_neg c5]at H;exact absurd H (by simp)
 case rest=>
  clear HC2
  try clear p2
  try clear c3
  try clear c3b0
  try clear c3b1
  try clear c4
  try clear c4b0
  try clear c4b1
  try clear c5
  try clear c5b0
  try clear c5b1
  try clear p6
  try clear q6
  try clear hx6
  try clear qi6
  try clear p6
  try clear q6
  obtain⟨kq,x17_1,rfl,HA,HJ1,⟨mc1,rfl⟩⟩:=hcut
  cases kq with
  |zero=>exact absurd HA.out (by simp[cadenceref01_Name.j0])
  |succ kj1=>
   have H:=HA.out;clear HA;simp only[cadenceref01_Name.j0]at H
   by_cases c8:x17_1=ac
   ·subst c8
    have H1:(ae O)=ae r:=by rw[if_pos rfl]at H;exact H
    clear H;have H:=H1;clear H1;obtain rfl:=cn H
    go_wp2
    go_ret;exact⟨by first | rfl | (simp;done) | (simp[*];done),by repeat(first | exact dh _ | apply di)⟩
   ·replace c8:=Bool.eq_false_iff.mpr c8;subst c8
    have H1:(cadenceref01_Name.l0 kj1 a0 1)=ae r:=by rw[if_neg (show ¬(O=ac) by decide)]at H;exact H
    clear H;have H:=H1;clear H1;have H':=J H;clear H
    go_wp2
    go_loopg [3] kj1 (fun kq v3 w'=>∃(x3_2:Int),v3=.int .i64 x3_2/\Aside0 (cadenceref01_Name.l0 kq a0 x3_2=ae r)/\Aside0 (kq<=kj1)/\Drawn0 w w')
    case atStart=>exact⟨(1),(by first | rfl | (simp;done) | (simp[*];done)),H',⟨ai _⟩,by repeat(first | exact dh _ | apply di)⟩
    case round=>
     clear H'
     try clear c1
     try clear p2
     try clear c3
     try clear c3b0
     try clear c3b1
     try clear c4
     try clear c4b0
     try clear c4b1
     try clear c5
     try clear c5b0
     try clear c5b1
     try clear p6
     try clear q6
     try clear hx6
     try clear qi6
     try clear c8
     try clear p2
     try clear p6
     try clear q6
     obtain⟨x3_2,rfl,HA,HK2,⟨m2,rfl⟩⟩:=hrel
     cases gk with
     |zero=>exact absurd HA.out (by simp[cadenceref01_Name.l0])
     |succ k2=>
      have H:=HA.out;clear HA;simp only[cadenceref01_Name.l0]at H
      by_cases c9:x3_2<(a0.size:Int)
      ·rw[if_pos c9]at H;have c9b0:decide (x3_2<(a0.size:Int))=ac:=decide_eq_true c9;clear c9
       by_cases c10:0<=x3_2
       ·rw[if_pos c10]at H;have c10b0:decide (0<=x3_2)=ac:=decide_eq_true c10;clear c10;replace H:=Option.bind_eq_some_iff.mp H;obtain⟨t131,A120,H⟩:=H;replace H:(if t131=ac then(cadenceref01_Name.l0 k2 a0 (wrap64 (x3_2+1)))else(if(bt a0 x3_2)<48 then(ae O)else(if(bt a0 x3_2) > 57 then(ae O)else(cadenceref01_Name.l0 k2 a0 (wrap64 (x3_2+1))))))=ae r:=H;have A12:=J A120;clear A120
        by_cases c13:t131=ac
        ·subst c13
         have H1:(cadenceref01_Name.l0 k2 a0 (wrap64 (x3_2+1)))=ae r:=by rw[if_pos rfl]at H;exact H
         clear H;have H:=H1;clear H1;have H':=J H;clear H;have p11:0<=(x3_2:Int):=of_decide_eq_true (by first | (with_reducible assumption) | assumption);have q11:x3_2<(a0.size:Int):=of_decide_eq_true (by first | (with_reducible assumption) | assumption);have hx11:=bt_at a0 x3_2;replace p11:=eq_true p11;replace q11:=eq_true q11
         go_wp2_with (first | ((with_reducible refine cY (f:=242) rfl ?_);refine j9 (ae 27) rfl rfl gj (by kernel_rfl) rfl #[.int .u8 (bt a0 x3_2)] rfl (by(try simp only[cd,cq,dc]);first | done | rfl | (simp only[eu,bq];rfl)) ?_;(with_reducible refine(cadenceref01_Letter.calls (bt a0 x3_2) ac _ A12.out).mono ?_);rintro e w' ⟨rfl,⟨nd,rfl⟩⟩;refine⟨_,rfl,?_⟩))
         go_roundg k2
         case measure=>have:=HJ1.out;have:=HK2.out;omega
         case rel=>exact⟨(wrap64 (x3_2+1)),(by first | rfl | (simp;done) | (simp[*];done)),H',⟨by have:=HJ1.out;have:=HK2.out;omega⟩,by repeat(first | exact dh _ | apply di)⟩
        ·replace c13:=Bool.eq_false_iff.mpr c13;subst c13
         have H1:(if(bt a0 x3_2)<48 then(ae O)else(if(bt a0 x3_2) > 57 then(ae O)else(cadenceref01_Name.l0 k2 a0 (wrap64 (x3_2+1)))))=ae r:=by rw[if_neg (show ¬(O=ac) by decide)]at H;exact H
         clear H;have H:=H1;clear H1
         by_cases c15:(bt a0 x3_2)<48
         ·rw[if_pos c15]at H;have c15b0:decide ((bt a0 x3_2)<48)=ac:=decide_eq_true c15;clear c15;obtain rfl:=cn H;have p11:0<=(x3_2:Int):=of_decide_eq_true (by first | (with_reducible assumption) | assumption);have q11:x3_2<(a0.size:Int):=of_decide_eq_true (by first | (with_reducible assumption) | assumption);have hx11:=bt_at a0 x3_2;replace p11:=eq_true p11;replace q11:=eq_true q11
          go_wp2_with (first | ((with_reducible refine cY (f:=242) rfl ?_);refine j9 (ae 27) rfl rfl gj (by kernel_rfl) rfl #[.int .u8 (bt a0 x3_2)] rfl (by(try simp only[cd,cq,dc]);first | done | rfl | (simp only[eu,bq];rfl)) ?_;(with_reducible refine(cadenceref01_Letter.calls (bt a0 x3_2) O _ A12.out).mono ?_);rintro e w' ⟨rfl,⟨nd,rfl⟩⟩;refine⟨_,rfl,?_⟩;have p14:0<=(x3_2:Int):=of_decide_eq_true (by first | (with_reducible assumption) | assumption);have q14:x3_2<(a0.size:Int):=of_decide_eq_true (by first | (with_reducible assumption) | assumption);have hx14:=bt_at a0 x3_2;replace p14:=eq_true p14;replace q14:=eq_true q14))
          go_ret;exact⟨by first | rfl | (simp;done) | (simp[*];done),by repeat(first | exact dh _ | apply di)⟩
         ·rw[if_neg c15]at H;have c15b0:decide ((bt a0 x3_2)<48)=O:=decide_eq_false c15;clear c15
          by_cases c17:(bt a0 x3_2) > 57
          ·rw[if_pos c17]at H;have c17b0:decide (57<(bt a0 x3_2))=ac:=decide_eq_true c17;clear c17;obtain rfl:=cn H;have p11:0<=(x3_2:Int):=of_decide_eq_true (by first | (with_reducible assumption) | assumption);have q11:x3_2<(a0.size:Int):=of_decide_eq_true (by first | (with_reducible assumption) | assumption);have hx11:=bt_at a0 x3_2;replace p11:=eq_true p11;replace q11:=eq_true q11
           go_wp2_with (first | ((with_reducible refine cY (f:=242) rfl ?_);refine j9 (ae 27) rfl rfl gj (by kernel_rfl) rfl #[.int .u8 (bt a0 x3_2)] rfl (by(try simp only[cd,cq,dc]);first | done | rfl | (simp only[eu,bq];rfl)) ?_;(with_reducible refine(cadenceref01_Letter.calls (bt a0 x3_2) O _ A12.out).mono ?_);rintro e w' ⟨rfl,⟨nd,rfl⟩⟩;refine⟨_,rfl,?_⟩;have p14:0<=(x3_2:Int):=of_decide_eq_true (by first | (with_reducible assumption) | assumption);have q14:x3_2<(a0.size:Int):=of_decide_eq_true (by first | (with_reducible assumption) | assumption);have hx14:=bt_at a0 x3_2;replace p14:=eq_true p14;replace q14:=eq_true q14;have p16:0<=(x3_2:Int):=of_decide_eq_true (by first | (with_reducible assumption) | assumption);have q16:x3_2<(a0.size:Int):=of_decide_eq_true (by first | (with_reducible assumption) | assumption);have hx16:=bt_at a0 x3_2;replace p16:=eq_true p16;replace q16:=eq_true q16))
           go_ret;exact⟨by first | rfl | (simp;done) | (simp[*];done),by repeat(first | exact dh _ | apply di)⟩
          ·rw[if_neg c17]at H;have c17b0:decide (57<(bt a0 x3_2))=O:=decide_eq_false c17;clear c17;have H':=J H;clear H;have p11:0<=(x3_2:Int):=of_decide_eq_true (by first | (with_reducible assumption) | assumption);have q11:x3_2<(a0.size:Int):=of_decide_eq_true (by first | (with_reducible assumption) | assumption);have hx11:=bt_at a0 x3_2;replace p11:=eq_true p11;replace q11:=eq_true q11
           go_wp2_with (first | ((with_reducible refine cY (f:=242) rfl ?_);refine j9 (ae 27) rfl rfl gj (by kernel_rfl) rfl #[.int .u8 (bt a0 x3_2)] rfl (by(try simp only[cd,cq,dc]);first | done | rfl | (simp only[eu,bq];rfl)) ?_;(with_reducible refine(cadenceref01_Letter.calls (bt a0 x3_2) O _ A12.out).mono ?_);rintro e w' ⟨rfl,⟨nd,rfl⟩⟩;refine⟨_,rfl,?_⟩;have p14:0<=(x3_2:Int):=of_decide_eq_true (by first | (with_reducible assumption) | assumption);have q14:x3_2<(a0.size:Int):=of_decide_eq_true (by first | (with_reducible assumption) | assumption);have hx14:=bt_at a0 x3_2;replace p14:=eq_true p14;replace q14:=eq_true q14;have p16:0<=(x3_2:Int):=of_decide_eq_true (by first | (with_reducible assumption) | assumption);have q16:x3_2<(a0.size:Int):=of_decide_eq_true (by first | (with_reducible assumption) | assumption);have hx16:=bt_at a0 x3_2;replace p16:=eq_true p16;replace q16:=eq_true q16))
           go_roundg k2
           case measure=>have:=HJ1.out;have:=HK2.out;omega
           case rel=>exact⟨(wrap64 (x3_2+1)),(by first | rfl | (simp;done) | (simp[*];done)),H',⟨by have:=HJ1.out;have:=HK2.out;omega⟩,by repeat(first | exact dh _ | apply di)⟩
       ·rw[if_neg c10]at H;exact absurd H (by simp)
      ·rw[if_neg c9]at H;have c9b0:decide (x3_2<(a0.size:Int))=O:=decide_eq_false c9;clear c9;obtain rfl:=cn H
       go_wp2
       go_ret;exact⟨by first | rfl | (simp;done) | (simp[*];done),by repeat(first | exact dh _ | apply di)⟩
def cadenceref15_Name.f (k:Nat)(a0:ByteArray):Option (Bool):=(cadenceref01_Name.f k a0).bind fun t136=>(if t136=ac then((cadenceref15_Reserved.f k a0).bind fun t137=>(ae (!t137)))else(ae O))
theorem cadenceref15_Name.calls (k:Nat)(a0:ByteArray)(r:Bool)(w:World)(h:cadenceref15_Name.f k a0=ae r):
 Calls au 124 #[.string a0] w fun e w'=>e=.returned (.bool r)/\Below w.heap.size w w':=by
 have HB:=J (ak w.heap.size w);have H:((cadenceref01_Name.f k a0).bind fun t136=>(if t136=ac then((cadenceref15_Reserved.f k a0).bind fun t137=>(ae (!t137)))else(ae O)))=ae r:=h;clear h;replace H:=Option.bind_eq_some_iff.mp H;obtain⟨t136,A20,H⟩:=H;replace H:(if t136=ac then((cadenceref15_Reserved.f k a0).bind fun t137=>(ae (!t137)))else(ae O))=ae r:=H;have A2:=J A20;clear A20
 by_cases c3:t136=ac
 ·subst c3
  have H1:((cadenceref15_Reserved.f k a0).bind fun t137=>(ae (!t137)))=ae r:=by rw[if_pos rfl]at H;exact H
  clear H;have H:=H1;clear H1;replace H:=Option.bind_eq_some_iff.mp H;obtain⟨t137,A40,H⟩:=H;replace H:(ae (!t137))=ae r:=H;have A4:=J A40;clear A40;obtain rfl:=cn H;go_enter Tryz.func124,Tryz.ntmps124
  go_wp2_with (first | ((with_reducible refine cY (f:=170) rfl ?_);refine j9 (ae 4) rfl rfl Tryz.func170 (by kernel_rfl) rfl #[.string a0] rfl (by(try simp only[cd,cq,dc]);first | done | rfl | (simp only[eu,bq];rfl)) ?_;(with_reducible refine(cadenceref01_Name.calls k a0 ac _ A2.out).mono ?_);rintro e w' ⟨rfl,⟨nd,rfl⟩⟩;refine⟨_,rfl,?_⟩) | (go_at_call 171;(with_reducible refine(cadenceref15_Reserved.calls k a0 t137 _ A4.out).mono ?_);rintro e w5 ⟨rfl,hb⟩;have n0_:=J (iC (by repeat(first | (with_reducible first | exact HB.out | apply bC | apply aV | apply bI) | exact HB.out)) hb);clear HB;have HB:=n0_;clear n0_;(try clear hb);(try clear hb2);(try clear hk);(try clear hi)))
  go_ret;exact⟨by first | rfl | (simp[bZ,cA] <;> rfl) | (simp[*,bZ,cA] <;> rfl),by repeat(first | (with_reducible first | exact HB.out | apply bC | apply aV | apply bI) | exact HB.out)⟩
 ·replace c3:=Bool.eq_false_iff.mpr c3;subst c3
  have H1:(ae O)=ae r:=by rw[if_neg (show ¬(O=ac) by decide)]at H;exact H
  clear H;have H:=H1;clear H1;obtain rfl:=cn H;go_enter Tryz.func124,Tryz.ntmps124
  go_wp2_with (first | ((with_reducible refine cY (f:=170) rfl ?_);refine j9 (ae 4) rfl rfl Tryz.func170 (by kernel_rfl) rfl #[.string a0] rfl (by(try simp only[cd,cq,dc]);first | done | rfl | (simp only[eu,bq];rfl)) ?_;(with_reducible refine(cadenceref01_Name.calls k a0 O _ A2.out).mono ?_);rintro e w' ⟨rfl,⟨nd,rfl⟩⟩;refine⟨_,rfl,?_⟩))
  go_ret;exact⟨by first | rfl | (simp[bZ,cA] <;> rfl) | (simp[*,bZ,cA] <;> rfl),by repeat(first | (with_reducible first | exact HB.out | apply bC | apply aV | apply bI) | exact HB.out)⟩
def cadenceref15_none.f (a0_0:Int)(a0_1:Int)(a0_2:ByteArray)(l0_3:List (S116)):Option (Bool):=if a0_0=0 then(if a0_1=0 then(if a0_2.toList=([]:List UInt8)then(ae ((l0_3.length:Int)==0))else(ae O))else(ae O))else(ae O)
theorem cadenceref15_none.calls (a0_0:Int)(a0_1:Int)(a0_2:ByteArray)(A0_3:Option Addr)(c0_3:Nat)(l0_3:List (S116))(r:Bool)(w:World)(hr0_3:Kd.C cH w A0_3 l0_3.length l0_3)(hc0_3:l0_3.length<=c0_3)(h:cadenceref15_none.f a0_0 a0_1 a0_2 l0_3=ae r):
 Calls au 244 #[.agg #[.int .i64 a0_0,.int .u64 a0_1,.string a0_2,.slice A0_3 l0_3.length c0_3]] w fun e w'=>e=.returned (.bool r)/\Below w.heap.size w w':=by
 have H:=J h;clear h hr0_3 hc0_3;go_enter Tryz.func244,Tryz.ntmps244
 go_wp2
 all_goals(
  go_ret;have h:=H.out;unfold cadenceref15_none.f at h;refine⟨?_,by first | exact(ak _ _).alloc (ai _) _ | exact ak _ _ | (repeat(first | exact dh _ | apply di))⟩
  simp_all)
end
end Go.Proofs.YtfigjpehecibeaaGreat.L
namespace Go.Proofs.YtfigjpehecibeaaGreat.Gr
open Go.RowKit
def G (w:World):={ W:World // Below w.heap.size w W }
instance (w:World):Nonempty (G w):=⟨⟨w,ak _ _⟩⟩
def G.W {w:World}(g:G w):World:=g.1
theorem G.below {w:World}(g:G w):Below w.heap.size w g.W:=g.2
theorem G.cell {w:World}(g:G w){b o:Nat}(h:b<w.heap.size):g.W.cell? ⟨b,o,aj⟩=w.cell? ⟨b,o,aj⟩:=g.below.cell (p:=⟨b,o,aj⟩) h
section
variable {P:Program}
theorem bE {id:Nat}{Q:Exit->Act->World->Prop}{a:Act}{w:World}{l:List Oper}(hm:P.follows .mixedOrders=ac)(hB:Region.lexB .any l.toArray=ac)
 (h:wpQuiet P l.toArray (fun w'=>∃g:G w,w'=g.W) (fun a'=>∀w',(∃g:G w,w'=g.W)->Q .normal a' w') l a):(Code.region id l.toArray ac).wp P Q a w:=
 wp_region_quiet (C:=fun w'=>∃g:G w,w'=g.W) hm hB ⟨⟨_,(ak _ _).drew⟩,rfl⟩ (by simpa using h)
theorem aC {f:FuncId}{args:Array Value}{w:World}{g:G w}{v:Value}(h:Calls P f args g.W fun e w'=>e=.returned v/\Below g.W.heap.size g.W w'):
 Calls P f args g.W fun e w''=>e=.returned v/\∃g':G w,w''=g'.W:=
 h.mono fun _ w' ⟨he,hb⟩=>⟨he,⟨⟨w',g.below.trans (hb.mono g.below.size)⟩,rfl⟩⟩
end
theorem gA (w:World){o:Obj}(g:G (w.alloc o)):Below w.heap.size w g.W:=((ak _ _).alloc (ai _) _).trans (g.below.mono (by simp))
theorem gB (w:World){o o':Obj}(g:G ((w.alloc o).alloc o')):Below w.heap.size w g.W:=(((ak _ _).alloc (ai _) _).alloc (by simp) _).trans (g.below.mono (by simp;omega))
theorem bA (w:World)(o:Obj):Below w.heap.size w (w.alloc o):=(ak _ _).alloc (ai _) _
end Go.Proofs.YtfigjpehecibeaaGreat.Gr
namespace Go.Proofs.YtfigjpehecibeaaGreat.L
open Go.RowKit Go.Proofs.YtfigjpehecibeaaGreatW.PrintWords Go.Proofs.YtfigjpehecibeaaGreatW.PrintLast Go.Proofs.YtfigjpehecibeaaGreatW.PrintMore Go.Proofs.YtfigjpehecibeaaGreat.Gr
def gI (k:Int):Int:=if k<1 then -1 else if k > 26 then -1 else if k=1 then 0 else if k=2 then 0 else if k=3 then 1 else if k=4 then 1 else if k=5 then 1 else if k=26 then 3 else 2
theorem l6 (k:Int)(w:World):Calls au 281 #[.int .i64 k] w fun e w'=>e=.returned (.int .i64 (gI k))/\Below w.heap.size w w':=by
 have hk:k<1\/k > 26\/k=1\/k=2\/k=3\/k=4\/k=5\/k=6\/k=7\/k=8\/k=9\/k=10\/k=11\/k=12\/k=13\/k=14\/k=15\/k=16\/k=17\/k=18\/k=19\/k=20\/k=21\/k=22\/k=23\/k=24\/k=25\/k=26:=by omega
 rcases hk with h | h | rfl | rfl | rfl | rfl | rfl | rfl | rfl | rfl | rfl | rfl | rfl | rfl | rfl | rfl | rfl | rfl | rfl | rfl | rfl | rfl | rfl | rfl | rfl | rfl | rfl | rfl
 all_goals(
  go_enter Tryz.func281,Tryz.ntmps281
  go_wp2
  go_ret
  exact⟨by unfold gI;first | rfl | (simp[*];done) | kernel_rfl,ak _ _⟩)
theorem iM (k:Int)(w:World):Calls au 282 #[.int .i64 k] w fun e w'=>e=.returned (.int .i64 (gI k))/\Below w.heap.size w w':=by
 have hk:k<1\/k > 26\/k=1\/k=2\/k=3\/k=4\/k=5\/k=6\/k=7\/k=8\/k=9\/k=10\/k=11\/k=12\/k=13\/k=14\/k=15\/k=16\/k=17\/k=18\/k=19\/k=20\/k=21\/k=22\/k=23\/k=24\/k=25\/k=26:=by omega
 rcases hk with h | h | rfl | rfl | rfl | rfl | rfl | rfl | rfl | rfl | rfl | rfl | rfl | rfl | rfl | rfl | rfl | rfl | rfl | rfl | rfl | rfl | rfl | rfl | rfl | rfl | rfl | rfl
 all_goals(
  go_enter Tryz.func282,Tryz.ntmps282
  go_wp2
  go_ret
  exact⟨by unfold gI;first | rfl | (simp[*];done) | kernel_rfl,ak _ _⟩)
def resB (s:ByteArray):Bool:=(lang_Reserved.f s).getD O
theorem lU (s:ByteArray):lang_Reserved.f s=ae (resB s):=by
 have si:∀(c:Prop) [Decidable c] (b:Bool),(if c then ae ac else ae b)=ae (if c then ac else b):=fun c _ b=>by split <;> rfl
 have h:∃b,lang_Reserved.f s=ae b:=by
  unfold lang_Reserved.f;simp only[si];exact⟨_,rfl⟩
 obtain⟨b,h⟩:=h;unfold resB;rw[h];rfl
theorem found (s:ByteArray)(l:List ByteArray)(hl:l.length<=100):∀(d i k:Nat),i+d=l.length->d<k->
 cadenceref15_Reserved.l0 k s l (i:Int)=ae ((l.drop i).any fun x=>decide (s.toList=x.toList)):=by
 intro d
 induction d with
 |zero=>
  intro i k h hk;obtain⟨k,rfl⟩:∃a,k=a+1:=⟨k - 1,by omega⟩;rw[cadenceref15_Reserved.l0,if_neg (by omega),gr (by omega)];rfl
 |succ d ih=>
  intro i k h hk;obtain⟨k,rfl⟩:∃a,k=a+1:=⟨k - 1,by omega⟩
  have hi:i<l.length:=by omega
  have e:wrap64 ((i:Int)+1)=((i+1:Nat):Int):=by unfold wrap64;omega
  have er:kJ ba l (i:Int)=l[i]:=by simp[kJ,aw,hi]
  rw[cadenceref15_Reserved.l0,if_pos (by omega),if_pos (by omega),e,ih (i+1) k (by omega) (by omega),er,dw hi,gm]
  by_cases g:l[i].toList=s.toList
  ·rw[if_pos g,decide_eq_true g.symm];rfl
  ·rw[if_neg g,decide_eq_false (fun h=>g h.symm)];rfl
theorem refReserved_eq (s:ByteArray):cadenceref15_Reserved.f 30 s=ae (resB s):=by
 rw[←lU];unfold lang_Reserved.f cadenceref15_Reserved.f;rw[show(0:Int)=((0:Nat):Int) from rfl,found s _ (by decide) 17 0 30 rfl (by decide)];simp only[List.drop_zero,gm,List.any_nil]
 have lay:∀(l:List UInt8) (k:Bool),(decide (s.toList=(⟨l.toArray⟩:ByteArray).toList)||k)=if s.toList=l then ac else k:=by
  intro l k;rw[Lib.toList_data (⟨l.toArray⟩:ByteArray)]
  by_cases h:s.toList=l
  ·rw[if_pos h,decide_eq_true h];rfl
  ·rw[if_neg h,decide_eq_false h];rfl
 simp only[lay]
 have si:∀(c:Prop) [Decidable c] (b:Bool),(if c then ae ac else ae b)=ae (if c then ac else b):=fun c _ b=>by split <;> rfl
 simp only[si]
theorem Letter_eq (c:Int):cadenceref01_Letter.f c=ae (letB c):=by
 have h95:(c==95)=decide (c=95):=by by_cases h:c=95 <;> simp[h]
 unfold cadenceref01_Letter.f letB;rw[h95]
 repeat' split
 all_goals(congr 1;first | (symm;apply decide_eq_true;omega) | (rw[Bool.eq_iff_iff];simp only[decide_eq_true_eq];omega))
theorem tail_eq (s:ByteArray)(hs:s.size<=24):∀(d i k:Nat),i+d=s.size->d<k->1<=i->cadenceref01_Name.l0 k s (i:Int)=ae (((cr s.size).drop i).all (okB s)):=by
 intro d
 induction d with
 |zero=>
  intro i k h hk _;obtain⟨k,rfl⟩:∃a,k=a+1:=⟨k - 1,by omega⟩;rw[cadenceref01_Name.l0,if_neg (by omega),gr (by simp;omega)];rfl
 |succ d ih=>
  intro i k h hk hi1;obtain⟨k,rfl⟩:∃a,k=a+1:=⟨k - 1,by omega⟩
  have hw:wrap64 ((i:Int)+1)=((i+1:Nat):Int):=by unfold wrap64;omega
  rw[cadenceref01_Name.l0,if_pos (by omega),if_pos (by omega),Letter_eq,fw,hw,ih (i+1) k (by omega) (by omega) (by omega)]
  have hd:okB s i=(letB (bt s i)||digB (bt s i)):=by unfold okB;rw[decide_eq_true hi1];rfl
  rw[dw (show i<(cr s.size).length by simp;omega),List.all_cons,List.getElem_range]
  by_cases l:letB (bt s i)=ac
  ·rw[if_pos l,hd,l];rfl
  ·rw[if_neg l];have l':=Bool.eq_false_iff.2 l
   by_cases c1:bt s i<48
   ·rw[if_pos c1,show okB s i=O from by rw[hd,l'];unfold digB;simp;omega];rfl
   rw[if_neg c1]
   by_cases c2:bt s i > 57
   ·rw[if_pos c2,show okB s i=O from by rw[hd,l'];unfold digB;simp;omega];rfl
   rw[if_neg c2,show okB s i=ac from by rw[hd,l'];unfold digB;simp;omega];rfl
theorem refNm_eq (s:ByteArray):cadenceref01_Name.f 30 s=ae (nmB s):=by
 unfold cadenceref01_Name.f nmB
 by_cases h1:(s.size:Int)<1
 ·rw[if_pos h1,cadenceref01_Name.j0,if_pos rfl,decide_eq_false (show ¬1<=s.size by omega)];rfl
 rw[if_neg h1]
 by_cases h2:(s.size:Int) > 24
 ·rw[if_pos h2,cadenceref01_Name.j0,if_pos rfl,decide_eq_false (show ¬s.size<=24 by omega)];simp
 rw[if_neg h2,if_pos (by omega),Letter_eq,fw,decide_eq_true (show 1<=s.size by omega),decide_eq_true (show s.size<=24 by omega),cadenceref01_Name.j0]
 have h0:okB s 0=letB (bt s 0):=by unfold okB;simp
 by_cases l:letB (bt s 0)=ac
 ·rw[l,if_neg (by decide),show(1:Int)=((1:Nat):Int) from rfl,tail_eq s (by omega) (s.size - 1) 1 29 (by omega) (by omega) (by omega)]
  have e:(cr s.size).all (okB s)=((cr s.size).drop 0).all (okB s):=by rw[List.drop_zero]
  rw[e,dw (show 0<(cr s.size).length by simp;omega),List.all_cons,List.getElem_range,h0,l];rfl
 ·have l':=Bool.eq_false_iff.2 l;rw[l',if_pos (by decide)]
  congr 1
  symm
  simp only[Bool.true_and,List.all_eq_false];exact⟨0,gq.2 (by omega),by rw[h0,l'];decide⟩
def bM (s:ByteArray):Bool:=nmB s&& !resB s
theorem named_eq (s:ByteArray):lang_named.f s=ae (bM s):=by
 unfold lang_named.f bits_Name.f bM;rw[lU,fw,fw]
 by_cases h:nmB s=ac
 ·rw[if_pos h,h];rfl
 ·rw[if_neg h,Bool.eq_false_iff.2 h];rfl
theorem refName_eq (s:ByteArray):cadenceref15_Name.f 30 s=ae (bM s):=by
 unfold cadenceref15_Name.f bM;rw[refNm_eq,refReserved_eq,fw,fw]
 by_cases h:nmB s=ac
 ·rw[if_pos h,h];rfl
 ·rw[if_neg h,Bool.eq_false_iff.2 h];rfl
theorem iW (s:ByteArray)(w:World):Calls au 119 #[.string s] w fun e w'=>e=.returned (.bool (bM s))/\Below w.heap.size w w':=lang_named.calls s _ w (named_eq s)
theorem fT (s:ByteArray)(w:World):Calls au 124 #[.string s] w fun e w'=>e=.returned (.bool (bM s))/\Below w.heap.size w w':=cadenceref15_Name.calls 30 s _ w (refName_eq s)
def fR (x:S116):Bool:=x.f0==0&&x.f1==0&&x.f2.toList.isEmpty&&(x.f3.length:Int)==0
theorem none_eq (x:S116):lang_none.f x.f0 x.f1 x.f2 x.f3=ae (fR x):=by
 unfold lang_none.f fR
 by_cases h0:x.f0=0
 ·by_cases h1:x.f1=0
  ·by_cases h2:x.f2.toList=[]
   ·simp[h0,h1,h2]
   ·have:x.f2.toList.isEmpty=O:=by simpa using h2
    rw[if_pos h0,if_pos h1,if_neg h2,this];simp
  ·simp[h0,h1]
 ·simp[h0]
theorem none_calls (x:S116)(A:Option Addr)(c:Nat)(w:World)(hc:cH.C w A x.f3.length x.f3)(hl:x.f3.length<=c):Calls au 241 #[.agg #[.int .i64 x.f0,.int .u64 x.f1,.string x.f2,.slice A x.f3.length c]] w fun e w'=>e=.returned (.bool (fR x))/\Below w.heap.size w w':=lang_none.calls x.f0 x.f1 x.f2 A c x.f3 _ w hc hl (none_eq x)
theorem refNone_calls (x:S116)(A:Option Addr)(c:Nat)(w:World)(hc:cH.C w A x.f3.length x.f3)(hl:x.f3.length<=c):Calls au 244 #[.agg #[.int .i64 x.f0,.int .u64 x.f1,.string x.f2,.slice A x.f3.length c]] w fun e w'=>e=.returned (.bool (fR x))/\Below w.heap.size w w':=cadenceref15_none.calls x.f0 x.f1 x.f2 A c x.f3 _ w hc hl (none_eq x)
section
def hasB (k:Int):Bool:=k==2||k==3
def exOwn (x:S116):Bool:=(gI x.f0==(x.f3.length:Int))&&(hasB x.f0== !x.f2.toList.isEmpty)&&(!hasB x.f0||bM x.f2)&&(x.f0==1||x.f1==0)
mutual
def exB:S116->Bool
 | ⟨a,b,c,l⟩=>exOwn ⟨a,b,c,l⟩&&exL l
def exL:List S116->Bool
 | []=>ac
 |x::r=>exB x&&exL r
end
theorem exL_all (l:List S116):exL l=l.all exB:=by
 induction l with
 |nil=>rfl
 |cons x r ih=>rw[exL,ih,List.all_cons]
theorem exB_eq (x:S116):exB x=(exOwn x&&x.f3.all exB):=by
 obtain⟨a,b,c,l⟩:=x;rw[exB,exL_all]
theorem aA {a b:Bool}(h:a=b):Ending.returned (.bool a)=.returned (.bool b):=by rw[h]
attribute [local go_sem] G.cell
theorem all_has_no {l:List S116}{y:S116}(h:y∈l)(hn:exB y=O):O=l.all exB:=by
 symm
 rw[List.all_eq_false];exact⟨y,h,by rw[hn];decide⟩
theorem all_have {l:List S116}(h:∀j,j<l.length->exB (bF l (j:Int))=ac):ac=l.all exB:=by
 symm
 rw[ew];intro y hy;obtain⟨j,hj,rfl⟩:=ef hy;have:=h j hj;unfold bF at this
 rwa [ax,aw,av hj]at this
theorem aH (b:Bool):b=ac\/b=O:=by cases b <;> simp
theorem ex_ways (b2 b3 b1 z p nm e:Bool)(h21:b2=ac->b1=ac)(h31:b3=ac->b1=ac):
 (((p=ac/\b2=ac)\/(p=ac/\b2=O/\b3=ac)\/(p=ac/\b2=O/\b3=O)\/
 (p=O/\b2=ac/\e=ac)\/(p=O/\b2=O/\b3=ac/\e=ac)\/(p=O/\b2=O/\b3=O/\e=O)\/
 (p=O/\b2=ac/\e=O/\nm=O)\/(p=O/\b2=O/\b3=ac/\e=O/\nm=O)\/
 (p=O/\b2=ac/\e=O/\nm=ac/\b1=ac/\z=ac)\/(p=O/\b2=O/\b3=ac/\e=O/\nm=ac/\b1=ac/\z=ac)\/
 (p=O/\b2=O/\b3=O/\e=ac/\b1=ac/\z=ac))/\(!p&&((b2||b3)== !e)&&(!(b2||b3)||nm)&&(!b1|| !z))=O)\/
 (((p=O/\b2=ac/\e=O/\nm=ac/\b1=ac/\z=O)\/(p=O/\b2=O/\b3=ac/\e=O/\nm=ac/\b1=ac/\z=O)\/
 (p=O/\b2=O/\b3=O/\e=ac/\b1=O)\/(p=O/\b2=O/\b3=O/\e=ac/\b1=ac/\z=O))/\(!p&&((b2||b3)== !e)&&(!(b2||b3)||nm)&&(!b1|| !z))=ac):=by
 revert h21 h31
 cases b2 <;> cases b3 <;> cases b1 <;> cases z <;> cases p <;> cases nm <;> cases e <;> simp
theorem exOwn_eq (x:S116):exOwn x=(!(gI x.f0 != (x.f3.length:Int))&&(((x.f0==2)||(x.f0==3))== !x.f2.toList.isEmpty)&&(!((x.f0==2)||(x.f0==3))||bM x.f2)&&(!(x.f0 != 1)|| !(x.f1 != 0))):=by
 unfold exOwn hasB;simp[bne]
theorem exprForm_walk (x:S116)(A:Option Addr)(c:Nat)(w:World)(hc:cH.C w A x.f3.length x.f3)(hl:x.f3.length<=c)
 (ih:∀y∈x.f3,∀(A':Option Addr) (c':Nat) (w':World),cH.C w' A' y.f3.length y.f3->y.f3.length<=c'->Calls au 240 #[.agg #[.int .i64 y.f0,.int .u64 y.f1,.string y.f2,.slice A' y.f3.length c']] w' fun e w''=>e=.returned (.bool (exB y))/\Below w'.heap.size w' w''):
 Calls au 240 #[.agg #[.int .i64 x.f0,.int .u64 x.f1,.string x.f2,.slice A x.f3.length c]] w fun e w'=>e=.returned (.bool (exOwn x&&x.f3.all exB))/\Below w.heap.size w w':=by
 have hw:=ex_ways (x.f0==2) (x.f0==3) (x.f0 != 1) (x.f1 != 0) (gI x.f0 != (x.f3.length:Int)) (bM x.f2) x.f2.toList.isEmpty (by simp;omega) (by simp;omega);rw[←exOwn_eq]at hw;have IH:=J ih;have HC:=J hc;clear ih hc;obtain⟨x0,x1,x2,x3⟩:=x;simp only at*
 rcases hw with ⟨hw,ho⟩ | ⟨hw,ho⟩
 ·rw[ho,Bool.false_and];clear ho HC IH;generalize x3.length=n at*
  rcases hw with ⟨hp,h2⟩ | ⟨hp,h2,h3⟩ | ⟨hp,h2,h3⟩ | ⟨hp,h2,he⟩ | ⟨hp,h2,h3,he⟩ | ⟨hp,h2,h3,he⟩ | ⟨hp,h2,he,hn⟩ | ⟨hp,h2,h3,he,hn⟩ | ⟨hp,h2,he,hn,h1,hz⟩ | ⟨hp,h2,h3,he,hn,h1,hz⟩ | ⟨hp,h2,h3,he,h1,hz⟩
  all_goals
   try(have he2:x2.toList=[]:=dx.1 he)
   try(have he2:¬x2.toList=[]:=by intro h;rw[h]at he;exact absurd he (by decide))
   go_enter Tryz.func240,Tryz.ntmps240
   go_upto_region 2 with (fail)
   all_goals
    refine bE (by kernel_rfl) (by kernel_rfl) ?_
    repeat(go_big_quiet_step (first | (go_at_call 281;exact aC (l6 _ _)) | (go_at_call 119;(first | rw[←hn] | skip);exact aC (iW _ _))))
    refine wpQuiet_nil ?_;rintro _ ⟨g,rfl⟩
    go_wp2
    go_ret;exact⟨rfl,((ak _ _).alloc (ai _) _).trans (g.below.mono (by simp))⟩
 ·rw[ho,Bool.true_and];clear ho;have hlm:=HC.out.2.1
  rcases hw with ⟨hp,h2,he,hn,h1,hz⟩ | ⟨hp,h2,h3,he,hn,h1,hz⟩ | ⟨hp,h2,h3,he,h1⟩ | ⟨hp,h2,h3,he,h1,hz⟩
  all_goals
   try(have he2:x2.toList=[]:=dx.1 he)
   try(have he2:¬x2.toList=[]:=by intro h;rw[h]at he;exact absurd he (by decide))
   go_enter Tryz.func240,Tryz.ntmps240
   go_upto_region 2 with (fail)
   all_goals
    refine bE (by kernel_rfl) (by kernel_rfl) ?_
    repeat(go_big_quiet_step (first | (go_at_call 281;exact aC (l6 _ _)) | (go_at_call 119;(first | rw[←hn] | skip);exact aC (iW _ _))))
    refine wpQuiet_nil ?_;rintro _ ⟨g,rfl⟩;have HG:=J (((ak w.heap.size w).alloc (ai _) _).trans (g.below.mono (by simp)));clear hp h2 he h1 he2
    try clear hn
    try clear hz
    try clear h3
    go_wp2
    go_loopw [50] (fun i W=>∃k:Nat,i=.int .i64 k/\k<=x3.length/\Aside0 (Below w.heap.size w W)/\Aside0 (∀j,j<k->exB (bF x3 (j:Int))=ac)) (fun i _=>x3.length - (intOf i).toNat)
    case atStart=>exact⟨0,rfl,br _,HG,⟨fun j hj=>absurd hj (dn _)⟩⟩
    case round=>
     clear HG;obtain⟨k,rfl,hk,HB,HK⟩:=hrel
     by_cases hlt:k<x3.length
     ·obtain⟨ad,A3,c3,e1,q0,q1,q2,q3,l3,g3⟩:=iR HC.out (k:Int) (bc _) (by omega);cases e1;rw[ax]at q0 q1 q2 q3;have b0:=ah w _ q0;replace q0:=(HB.out.cell b0).trans q0;replace q1:=(HB.out.cell (ah w _ q1)).trans q1;replace q2:=(HB.out.cell (ah w _ q2)).trans q2;replace q3:=(HB.out.cell (ah w _ q3)).trans q3
      have hi1:(k:Int)<(x3.length:Int):=by omega
      have G3:=J g3;have L3:=J l3;clear g3 l3;have MEM:=J (show bF x3 (k:Int)∈x3 by unfold bF;rw[ax,aw,av hlt];exact dz _);have HB2:=J (HB.out.alloc (HB.out.size) (.cells #[Value.int IntKind.i64 (bF x3 (k:Int)).f0,Value.int IntKind.u64 (bF x3 (k:Int)).f1,Value.string (bF x3 (k:Int)).f2,Value.slice A3 (bF x3 (k:Int)).f3.length c3] 116));have hy:=aH (exB (bF x3 (k:Int)))
      rcases hy with hy | hy
      all_goals
       have HY:=J hy;clear hy;go_wp2_with fail;refine(IH.out _ MEM.out A3 c3 _ (Kd.aF G3.out HB2.out) L3.out).mono ?_;rw[HY.out];rintro e w' ⟨rfl,hb⟩;have HB3:=J (HB2.out.trans (hb.mono (HB2.out.size)));clear hb
       go_wp2
      ·refine⟨⟨k+1,by go_num,by omega,HB3,⟨fun j hj=> ?_⟩⟩,by simp[intOf];omega⟩
       by_cases hj2:j=k
       ·rw[hj2];exact HY.out
       ·exact HK.out j (by omega)
      ·go_ret;exact⟨aA (all_has_no MEM.out HY.out),HB3.out⟩
     ·go_wp2
      go_ret;exact⟨aA (all_have (fun j hj=>HK.out j (by omega))),HB.out⟩
theorem exprForm_calls:∀(n:Nat) (x:S116),cu x<=n->∀(A:Option Addr) (c:Nat) (w:World),cH.C w A x.f3.length x.f3->x.f3.length<=c->Calls au 240 #[.agg #[.int .i64 x.f0,.int .u64 x.f1,.string x.f2,.slice A x.f3.length c]] w fun e w'=>e=.returned (.bool (exB x))/\Below w.heap.size w w':=by
 intro n
 induction n with
 |zero=>intro x h;obtain⟨a,b,c,l⟩:=x;simp at h
 |succ n ih=>
  intro x h A c w hc hl;rw[exB_eq];refine exprForm_walk x A c w hc hl fun y hy A' c' w' hc' hl'=>ih y ?_ A' c' w' hc' hl';have:=fe hy;obtain⟨a,b,c,l⟩:=x
  simp at h this
  omega
end
section
attribute [local go_sem] G.cell
abbrev gw {w:World}(_:G w):World:=w
theorem kE (x:S116)(A:Option Addr)(c:Nat)(w:World)(hc:cH.C w A x.f3.length x.f3)(hl:x.f3.length<=c)
 (ih:∀y∈x.f3,∀(A':Option Addr) (c':Nat) (w':World),cH.C w' A' y.f3.length y.f3->y.f3.length<=c'->Calls au 243 #[.agg #[.int .i64 y.f0,.int .u64 y.f1,.string y.f2,.slice A' y.f3.length c']] w' fun e w''=>e=.returned (.bool (exB y))/\Below w'.heap.size w' w''):
 Calls au 243 #[.agg #[.int .i64 x.f0,.int .u64 x.f1,.string x.f2,.slice A x.f3.length c]] w fun e w'=>e=.returned (.bool (exOwn x&&x.f3.all exB))/\Below w.heap.size w w':=by
 have hw:=ex_ways (x.f0==2) (x.f0==3) (x.f0 != 1) (x.f1 != 0) ((x.f3.length:Int) != gI x.f0) (bM x.f2) x.f2.toList.isEmpty (by simp;omega) (by simp;omega);rw[show((x.f3.length:Int) != gI x.f0)=(gI x.f0 != (x.f3.length:Int)) from bne_comm,←exOwn_eq,show(gI x.f0 != (x.f3.length:Int))=((x.f3.length:Int) != gI x.f0) from bne_comm]at hw;have IH:=J ih;have HC:=J hc;clear ih hc;obtain⟨x0,x1,x2,x3⟩:=x;simp only at*
 rcases hw with ⟨hw,ho⟩ | ⟨hw,ho⟩
 ·rw[ho,Bool.false_and];clear ho HC IH;generalize x3.length=n at*
  rcases hw with ⟨hp,h2⟩ | ⟨hp,h2,h3⟩ | ⟨hp,h2,h3⟩ | ⟨hp,h2,he⟩ | ⟨hp,h2,h3,he⟩ | ⟨hp,h2,h3,he⟩ | ⟨hp,h2,he,hn⟩ | ⟨hp,h2,h3,he,hn⟩ | ⟨hp,h2,he,hn,h1,hz⟩ | ⟨hp,h2,h3,he,hn,h1,hz⟩ | ⟨hp,h2,h3,he,h1,hz⟩
  all_goals
   try(have he2:x2.toList=[]:=dx.1 he)
   try(have he2:¬x2.toList=[]:=by intro h;rw[h]at he;exact absurd he (by decide))
   go_enter Tryz.func243,Tryz.ntmps243
   go_upto_region 2 with (fail)
   all_goals
    refine bE (by kernel_rfl) (by kernel_rfl) ?_
    repeat(go_big_quiet_step (first | (go_at_call 282;exact aC (iM _ _)) | (go_at_call 124;(first | rw[←hn] | skip);exact aC (fT _ _))))
    refine wpQuiet_nil ?_;rintro _ ⟨g,rfl⟩
    go_wp2
    go_ret;exact⟨rfl,((ak _ _).alloc (ai _) _).trans (g.below.mono (by simp))⟩
 ·rw[ho,Bool.true_and];clear ho;have hlm:=HC.out.2.1
  rcases hw with ⟨hp,h2,he,hn,h1,hz⟩ | ⟨hp,h2,h3,he,hn,h1,hz⟩ | ⟨hp,h2,h3,he,h1⟩ | ⟨hp,h2,h3,he,h1,hz⟩
  all_goals
   try(have he2:x2.toList=[]:=dx.1 he)
   try(have he2:¬x2.toList=[]:=by intro h;rw[h]at he;exact absurd he (by decide))
   go_enter Tryz.func243,Tryz.ntmps243
   go_upto_region 2 with (fail)
   all_goals
    refine bE (by kernel_rfl) (by kernel_rfl) ?_
    repeat(go_big_quiet_step (first | (go_at_call 282;exact aC (iM _ _)) | (go_at_call 124;(first | rw[←hn] | skip);exact aC (fT _ _))))
    refine wpQuiet_nil ?_;rintro _ ⟨g,rfl⟩;clear hp h2 he h1 he2
    try clear hn
    try clear hz
    try clear h3
    have gout:=@gA w
    go_wp2
    go_loopw [4] (fun i W=>∃(k:Nat) (g':G (gw g)),i=.int .i64 k/\W=g'.W/\k<=x3.length/\Aside0 (∀j,j<k->exB (bF x3 (j:Int))=ac)) (fun i _=>x3.length - (intOf i).toNat)
    case atStart=>exact⟨0,g,rfl,rfl,br _,⟨fun j hj=>absurd hj (dn _)⟩⟩
    case round=>
     obtain⟨k,g',rfl,rfl,hk,HK⟩:=hrel
     by_cases hlt:k<x3.length
     ·obtain⟨ad,A3,c3,e1,q0,q1,q2,q3,l3,g3⟩:=iR HC.out (k:Int) (bc _) (by omega);cases e1;rw[ax]at q0 q1 q2 q3;replace q0:=((gout g').cell (ah w _ q0)).trans q0;replace q1:=((gout g').cell (ah w _ q1)).trans q1;replace q2:=((gout g').cell (ah w _ q2)).trans q2;replace q3:=((gout g').cell (ah w _ q3)).trans q3
      have hi1:(k:Int)<(x3.length:Int):=by omega
      have G3:=J g3;have L3:=J l3;clear g3 l3;have MEM:=J (show bF x3 (k:Int)∈x3 by unfold bF;rw[ax,aw,av hlt];exact dz _);have hy:=aH (exB (bF x3 (k:Int)))
      rcases hy with hy | hy
      all_goals
       have HY:=J hy;clear hy;go_wp2_with fail;refine(aC (IH.out _ MEM.out A3 c3 _ (Kd.aF G3.out (gout _)) L3.out)).mono ?_;rw[HY.out];rintro _ _ ⟨rfl,gg,rfl⟩
       go_wp2
      ·refine⟨⟨k+1,gg,by go_num,rfl,by omega,⟨fun j hj=> ?_⟩⟩,by simp[intOf];omega⟩
       by_cases hj2:j=k
       ·rw[hj2];exact HY.out
       ·exact HK.out j (by omega)
      ·go_ret;exact⟨aA (all_has_no MEM.out HY.out),gout _⟩
     ·go_wp2
      go_ret;exact⟨aA (all_have (fun j hj=>HK.out j (by omega))),gout _⟩
theorem jW:∀(n:Nat) (x:S116),cu x<=n->∀(A:Option Addr) (c:Nat) (w:World),cH.C w A x.f3.length x.f3->x.f3.length<=c->Calls au 243 #[.agg #[.int .i64 x.f0,.int .u64 x.f1,.string x.f2,.slice A x.f3.length c]] w fun e w'=>e=.returned (.bool (exB x))/\Below w.heap.size w w':=by
 intro n
 induction n with
 |zero=>intro x h;obtain⟨a,b,c,l⟩:=x;simp at h
 |succ n ih=>
  intro x h A c w hc hl;rw[exB_eq];refine kE x A c w hc hl fun y hy A' c' w' hc' hl'=>ih y ?_ A' c' w' hc' hl';have:=fe hy;obtain⟨a,b,c,l⟩:=x
  simp at h this
  omega
end
def aS (x:S119):Bool:=decide (1<=x.f0)&&decide (x.f0<=5)&&(if x.f0=3 then x.f1.toList.isEmpty else bM x.f1)&&(if x.f0=2 then exB x.f2 else fR x.f2)&&(if x.f0<=3 then exB x.f3 else fR x.f3)&&(if x.f0=4 then ac else x.f4==0&&x.f5==0)&&(if x.f0=3\/x.f0=4 then ac else x.f6.isEmpty)&&(if x.f0=3 then ac else x.f7.isEmpty)
mutual
def stB:S119->Bool
 | ⟨a,b,c,d,e,f,g,h⟩=>aS ⟨a,b,c,d,e,f,g,h⟩&&bdB g&&bdB h
def bdB:List S119->Bool
 | []=>ac
 |x::r=>stB x&&bdB r
end
theorem iO (l:List S119):bdB l=l.all stB:=by
 induction l with
 |nil=>rfl
 |cons x r ih=>rw[bdB,ih,List.all_cons]
theorem stB_eq (x:S119):stB x=(aS x&&bdB x.f6&&bdB x.f7):=by
 obtain⟨a,b,c,d,e,f,g,h⟩:=x;rw[stB]
theorem fU {s:ByteArray}(h:s.toList=[]):bM s=O:=by
 have h2:s.size=0:=by rw[Lib.toList_data,Array.toList_eq_nil_iff]at h;show s.data.size=0;rw[h];rfl
 unfold bM nmB;rw[h2];rfl
def fZ (f:FuncId)(l:List S119):Prop:=∀(A:Option Addr) (c:Nat) (w':World),cU.C w' A l.length l->l.length<=c->Calls au f #[.slice A l.length c] w' fun e w''=>e=.returned (.bool (bdB l))/\Below w'.heap.size w' w''
theorem bQ {P:Program}{c:Code}{Q:Exit->Act->World->Prop}{a:Act}{w:World}(h:∀g:G w,c.wp P Q a g.W):c.wp P Q a w:=h ⟨w,ak _ _⟩
theorem dZ {s:ByteArray}{v:Bool}(h:bM s=v)(w:World):Calls au 119 #[.string s] w fun e w'=>e=.returned (.bool v)/\Below w.heap.size w w':=h ▸ iW s w
theorem cB {s:ByteArray}{v:Bool}(h:bM s=v)(w:World):Calls au 124 #[.string s] w fun e w'=>e=.returned (.bool v)/\Below w.heap.size w w':=h ▸ fT s w
theorem gH {x:S116}{v:Bool}(h:fR x=v)(A:Option Addr)(c:Nat)(w:World)(hc:cH.C w A x.f3.length x.f3)(hl:x.f3.length<=c):Calls au 241 #[.agg #[.int .i64 x.f0,.int .u64 x.f1,.string x.f2,.slice A x.f3.length c]] w fun e w'=>e=.returned (.bool v)/\Below w.heap.size w w':=h ▸ none_calls x A c w hc hl
theorem cM {x:S116}{v:Bool}(h:fR x=v)(A:Option Addr)(c:Nat)(w:World)(hc:cH.C w A x.f3.length x.f3)(hl:x.f3.length<=c):Calls au 244 #[.agg #[.int .i64 x.f0,.int .u64 x.f1,.string x.f2,.slice A x.f3.length c]] w fun e w'=>e=.returned (.bool v)/\Below w.heap.size w w':=h ▸ refNone_calls x A c w hc hl
theorem dS {x:S116}{v:Bool}(h:exB x=v)(A:Option Addr)(c:Nat)(w:World)(hc:cH.C w A x.f3.length x.f3)(hl:x.f3.length<=c):Calls au 240 #[.agg #[.int .i64 x.f0,.int .u64 x.f1,.string x.f2,.slice A x.f3.length c]] w fun e w'=>e=.returned (.bool v)/\Below w.heap.size w w':=h ▸ exprForm_calls _ x (ai _) A c w hc hl
theorem cC {x:S116}{v:Bool}(h:exB x=v)(A:Option Addr)(c:Nat)(w:World)(hc:cH.C w A x.f3.length x.f3)(hl:x.f3.length<=c):Calls au 243 #[.agg #[.int .i64 x.f0,.int .u64 x.f1,.string x.f2,.slice A x.f3.length c]] w fun e w'=>e=.returned (.bool v)/\Below w.heap.size w w':=h ▸ jW _ x (ai _) A c w hc hl
theorem bK {f:FuncId}{l:List S119}(hb:fZ f l){v:Bool}(h:bdB l=v)(A:Option Addr)(c:Nat)(w':World)(hc:cU.C w' A l.length l)(hl:l.length<=c):Calls au f #[.slice A l.length c] w' fun e w''=>e=.returned (.bool v)/\Below w'.heap.size w' w'':=h ▸ hb A c w' hc hl
section
attribute [local go_sem] G.cell
def StmtC (f:FuncId)(x:S119):Prop:=∀(A5:Option Addr) (c5:Nat) (A9:Option Addr) (c9:Nat) (A12:Option Addr) (c12:Nat) (A13:Option Addr) (c13:Nat) (w:World),
 x.f2.f3.length<=c5->cH.C w A5 x.f2.f3.length x.f2.f3->x.f3.f3.length<=c9->cH.C w A9 x.f3.f3.length x.f3.f3->x.f6.length<=c12->cU.C w A12 x.f6.length x.f6->x.f7.length<=c13->cU.C w A13 x.f7.length x.f7->
 Calls au f #[.agg #[.int .i64 x.f0,.string x.f1,.int .i64 x.f2.f0,.int .u64 x.f2.f1,.string x.f2.f2,.slice A5 x.f2.f3.length c5,.int .i64 x.f3.f0,.int .u64 x.f3.f1,.string x.f3.f2,.slice A9 x.f3.f3.length c9,.int .u64 x.f4,.int .u64 x.f5,.slice A12 x.f6.length c12,.slice A13 x.f7.length c13]] w fun e w'=>e=.returned (.bool (stB x))/\Below w.heap.size w w'
theorem jG {l:List S119}{y:S119}(h:y∈l)(hn:stB y=O):O=l.all stB:=by
 symm
 rw[List.all_eq_false];exact⟨y,h,by rw[hn];decide⟩
theorem lF {l:List S119}(h:∀j,j<l.length->stB (aI l (j:Int))=ac):ac=l.all stB:=by
 symm
 rw[ew];intro y hy;obtain⟨j,hj,rfl⟩:=ef hy;have:=h j hj;unfold aI at this
 rwa [ax,aw,av hj]at this
theorem rd77_mem {l:List S119}{k:Nat}(hlt:k<l.length):aI l (k:Int)∈l:=by
 unfold aI;rw[ax,aw,av hlt];exact dz _
theorem G.ball {w:World}(g:G w)(o:Obj):Below w.heap.size w (g.W.alloc o):=g.below.alloc g.below.size o
theorem bL {P:Program}{f:FuncId}{args:Array Value}{w:World}{g:G w}{o:Obj}{v:Value}(h:Calls P f args (g.W.alloc o) fun e w'=>e=.returned v/\Below (g.W.alloc o).heap.size (g.W.alloc o) w'):
 Calls P f args (g.W.alloc o) fun e w''=>e=.returned v/\∃g':G w,w''=g'.W:=
 h.mono fun _ w' ⟨he,hb⟩=>⟨he,⟨⟨w',(G.ball g o).trans (hb.mono (G.ball g o).size)⟩,rfl⟩⟩
theorem jI (l:List S119)(A:Option Addr)(c:Nat)(w:World)(hc:cU.C w A l.length l)(hl:l.length<=c)(ih:∀x∈l,StmtC 168 x):
 Calls au 121 #[.slice A l.length c] w fun e w'=>e=.returned (.bool (l.all stB))/\Below w.heap.size w w':=by
 have IH:=J ih;have HC:=J hc;have hlm:=hc.2.1;clear ih hc;go_enter Tryz.func121,Tryz.ntmps121
 go_wp2
 go_loopw [7] (fun i W=>∃(k:Nat) (g:G w),i=.int .i64 k/\W=g.W/\k<=l.length/\Aside0 (∀j,j<k->stB (aI l (j:Int))=ac)) (fun i _=>l.length - (intOf i).toNat)
 case atStart=>exact⟨0,⟨w,ak _ _⟩,rfl,rfl,br _,⟨fun j hj=>absurd hj (dn _)⟩⟩
 case round=>
  obtain⟨k,g,rfl,rfl,hk,HK⟩:=hrel
  by_cases hlt:k<l.length
  ·obtain⟨ad,A5,c5,A9,c9,A12,c12,A13,c13,e1,q0,q1,q2,q3,q4,q5,q6,q7,q8,q9,q10,q11,q12,q13,l5,g5,l9,g9,l12,g12,l13,g13⟩:=lG HC.out (k:Int) (bc _) (by omega);cases e1;rw[ax]at q0 q1 q2 q3 q4 q5 q6 q7 q8 q9 q10 q11 q12 q13;replace q0:=(g.below.cell (ah w _ q0)).trans q0;replace q1:=(g.below.cell (ah w _ q1)).trans q1;replace q2:=(g.below.cell (ah w _ q2)).trans q2;replace q3:=(g.below.cell (ah w _ q3)).trans q3;replace q4:=(g.below.cell (ah w _ q4)).trans q4;replace q5:=(g.below.cell (ah w _ q5)).trans q5;replace q6:=(g.below.cell (ah w _ q6)).trans q6;replace q7:=(g.below.cell (ah w _ q7)).trans q7;replace q8:=(g.below.cell (ah w _ q8)).trans q8;replace q9:=(g.below.cell (ah w _ q9)).trans q9;replace q10:=(g.below.cell (ah w _ q10)).trans q10;replace q11:=(g.below.cell (ah w _ q11)).trans q11;replace q12:=(g.below.cell (ah w _ q12)).trans q12;replace q13:=(g.below.cell (ah w _ q13)).trans q13
   have hi1:(k:Int)<(l.length:Int):=by omega
   have K:=J (aq l5 (aq g5 (aq l9 (aq g9 (aq l12 (aq g12 (aq l13 g13)))))));clear l5 g5 l9 g9 l12 g12 l13 g13;have MEM:=J (rd77_mem hlt)
   rcases aH (stB (aI l (k:Int)))with hy | hy
   all_goals
    have HY:=J hy;clear hy;go_wp2_with fail;refine(bL (IH.out _ MEM.out A5 c5 A9 c9 A12 c12 A13 c13 _ K.out.1 (Kd.aF K.out.2.1 (G.ball g _)) K.out.2.2.1 (Kd.aF K.out.2.2.2.1 (G.ball g _)) K.out.2.2.2.2.1 (Kd.aF K.out.2.2.2.2.2.1 (G.ball g _)) K.out.2.2.2.2.2.2.1 (Kd.aF K.out.2.2.2.2.2.2.2 (G.ball g _)))).mono ?_;rw[HY.out];rintro _ _ ⟨rfl,gg,rfl⟩
    go_wp2
   ·refine⟨⟨k+1,gg,by go_num,rfl,by omega,⟨fun j hj=> ?_⟩⟩,by simp[intOf];omega⟩
    by_cases hj2:j=k
    ·rw[hj2];exact HY.out
    ·exact HK.out j (by omega)
   ·go_ret;exact⟨aA (jG MEM.out HY.out),gg.below⟩
  ·go_wp2
   go_ret;exact⟨aA (lF (fun j hj=>HK.out j (by omega))),g.below⟩
theorem iL (l:List S119)(A:Option Addr)(c:Nat)(w:World)(hc:cU.C w A l.length l)(hl:l.length<=c)(ih:∀x∈l,StmtC 172 x):
 Calls au 126 #[.slice A l.length c] w fun e w'=>e=.returned (.bool (l.all stB))/\Below w.heap.size w w':=by
 have IH:=J ih;have HC:=J hc;have hlm:=hc.2.1;clear ih hc;go_enter Tryz.func126,Tryz.ntmps126
 go_wp2
 go_loopw [3] (fun i W=>∃(k:Nat) (g:G w),i=.int .i64 k/\W=g.W/\k<=l.length/\Aside0 (∀j,j<k->stB (aI l (j:Int))=ac)) (fun i _=>l.length - (intOf i).toNat)
 case atStart=>exact⟨0,⟨w,ak _ _⟩,rfl,rfl,br _,⟨fun j hj=>absurd hj (dn _)⟩⟩
 case round=>
  obtain⟨k,g,rfl,rfl,hk,HK⟩:=hrel
  by_cases hlt:k<l.length
  ·obtain⟨ad,A5,c5,A9,c9,A12,c12,A13,c13,e1,q0,q1,q2,q3,q4,q5,q6,q7,q8,q9,q10,q11,q12,q13,l5,g5,l9,g9,l12,g12,l13,g13⟩:=lG HC.out (k:Int) (bc _) (by omega);cases e1;rw[ax]at q0 q1 q2 q3 q4 q5 q6 q7 q8 q9 q10 q11 q12 q13;replace q0:=(g.below.cell (ah w _ q0)).trans q0;replace q1:=(g.below.cell (ah w _ q1)).trans q1;replace q2:=(g.below.cell (ah w _ q2)).trans q2;replace q3:=(g.below.cell (ah w _ q3)).trans q3;replace q4:=(g.below.cell (ah w _ q4)).trans q4;replace q5:=(g.below.cell (ah w _ q5)).trans q5;replace q6:=(g.below.cell (ah w _ q6)).trans q6;replace q7:=(g.below.cell (ah w _ q7)).trans q7;replace q8:=(g.below.cell (ah w _ q8)).trans q8;replace q9:=(g.below.cell (ah w _ q9)).trans q9;replace q10:=(g.below.cell (ah w _ q10)).trans q10;replace q11:=(g.below.cell (ah w _ q11)).trans q11;replace q12:=(g.below.cell (ah w _ q12)).trans q12;replace q13:=(g.below.cell (ah w _ q13)).trans q13
   have hi1:(k:Int)<(l.length:Int):=by omega
   have K:=J (aq l5 (aq g5 (aq l9 (aq g9 (aq l12 (aq g12 (aq l13 g13)))))));clear l5 g5 l9 g9 l12 g12 l13 g13;have MEM:=J (rd77_mem hlt)
   rcases aH (stB (aI l (k:Int)))with hy | hy
   all_goals
    have HY:=J hy;clear hy;go_wp2_with fail;refine(aC (IH.out _ MEM.out A5 c5 A9 c9 A12 c12 A13 c13 _ K.out.1 (Kd.aF K.out.2.1 g.below) K.out.2.2.1 (Kd.aF K.out.2.2.2.1 g.below) K.out.2.2.2.2.1 (Kd.aF K.out.2.2.2.2.2.1 g.below) K.out.2.2.2.2.2.2.1 (Kd.aF K.out.2.2.2.2.2.2.2 g.below))).mono ?_;rw[HY.out];rintro _ _ ⟨rfl,gg,rfl⟩
    go_wp2
   ·refine⟨⟨k+1,gg,by go_num,rfl,by omega,⟨fun j hj=> ?_⟩⟩,by simp[intOf];omega⟩
    by_cases hj2:j=k
    ·rw[hj2];exact HY.out
    ·exact HK.out j (by omega)
   ·go_ret;exact⟨aA (jG MEM.out HY.out),gg.below⟩
  ·go_wp2
   go_ret;exact⟨aA (lF (fun j hj=>HK.out j (by omega))),g.below⟩
end
section
attribute [local go_sem] G.cell
theorem stmtForm_klt (a:Int)(h1:a<1)(b:ByteArray)(cc d:S116)(e f:Int)(g hh:List S119){A5:Option Addr}{c5:Nat}{A9:Option Addr}{c9:Nat}{A12:Option Addr}{c12:Nat}{A13:Option Addr}{c13:Nat}(w:World)
 (L:Aside0 (cc.f3.length<=c5/\d.f3.length<=c9/\g.length<=c12/\hh.length<=c13)) (H:Aside0 (cH.C w A5 cc.f3.length cc.f3/\cH.C w A9 d.f3.length d.f3/\cU.C w A12 g.length g/\cU.C w A13 hh.length hh))
 (IH:Aside0 (∀l,l=g\/l=hh->fZ 121 l)):
 Calls au 168 #[.agg #[.int .i64 a,.string b,.int .i64 cc.f0,.int .u64 cc.f1,.string cc.f2,.slice A5 cc.f3.length c5,.int .i64 d.f0,.int .u64 d.f1,.string d.f2,.slice A9 d.f3.length c9,.int .u64 e,.int .u64 f,.slice A12 g.length c12,.slice A13 hh.length c13]] w fun e' w'=>e'=.returned (.bool (aS ⟨a,b,cc,d,e,f,g,hh⟩&&bdB g&&bdB hh))/\Below w.heap.size w w':=by
 have gout:=@gA w
 have h0:aS ⟨a,b,cc,d,e,f,g,hh⟩=O:=by simp[aS];omega
 rw[h0]
 have e2:(a==2)=O:=by simp;omega
 have e3:(a==3)=O:=by simp;omega
 have e4:(a==4)=O:=by simp;omega
 clear h0;go_enter Tryz.func168,Tryz.ntmps168
 go_upto_region 1 with (fail)
 refine bE (by kernel_rfl) (by kernel_rfl) ?_
 repeat go_big_quiet_step (fail)
 refine wpQuiet_nil ?_;rintro _ ⟨gg,rfl⟩;go_wp2_with fail;go_ret;exact⟨aA (by simp),gout _⟩
end
section
attribute [local go_sem] G.cell
theorem stmtForm_kgt (a:Int)(h1:¬a<1)(h2:a > 5)(b:ByteArray)(cc d:S116)(e f:Int)(g hh:List S119){A5:Option Addr}{c5:Nat}{A9:Option Addr}{c9:Nat}{A12:Option Addr}{c12:Nat}{A13:Option Addr}{c13:Nat}(w:World)
 (L:Aside0 (cc.f3.length<=c5/\d.f3.length<=c9/\g.length<=c12/\hh.length<=c13)) (H:Aside0 (cH.C w A5 cc.f3.length cc.f3/\cH.C w A9 d.f3.length d.f3/\cU.C w A12 g.length g/\cU.C w A13 hh.length hh))
 (IH:Aside0 (∀l,l=g\/l=hh->fZ 121 l)):
 Calls au 168 #[.agg #[.int .i64 a,.string b,.int .i64 cc.f0,.int .u64 cc.f1,.string cc.f2,.slice A5 cc.f3.length c5,.int .i64 d.f0,.int .u64 d.f1,.string d.f2,.slice A9 d.f3.length c9,.int .u64 e,.int .u64 f,.slice A12 g.length c12,.slice A13 hh.length c13]] w fun e' w'=>e'=.returned (.bool (aS ⟨a,b,cc,d,e,f,g,hh⟩&&bdB g&&bdB hh))/\Below w.heap.size w w':=by
 have gout:=@gA w
 have h0:aS ⟨a,b,cc,d,e,f,g,hh⟩=O:=by simp[aS];omega
 rw[h0]
 have e2:(a==2)=O:=by simp;omega
 have e3:(a==3)=O:=by simp;omega
 have e4:(a==4)=O:=by simp;omega
 clear h0;go_enter Tryz.func168,Tryz.ntmps168
 go_upto_region 1 with (fail)
 refine bE (by kernel_rfl) (by kernel_rfl) ?_
 repeat go_big_quiet_step (fail)
 refine wpQuiet_nil ?_;rintro _ ⟨gg,rfl⟩;go_wp2_with fail;go_ret;exact⟨aA (by simp),gout _⟩
end
section
attribute [local go_sem] G.cell
theorem stmtForm_k1 (b:ByteArray)(cc d:S116)(e f:Int)(g hh:List S119){A5:Option Addr}{c5:Nat}{A9:Option Addr}{c9:Nat}{A12:Option Addr}{c12:Nat}{A13:Option Addr}{c13:Nat}(w:World)
 (L:Aside0 (cc.f3.length<=c5/\d.f3.length<=c9/\g.length<=c12/\hh.length<=c13)) (H:Aside0 (cH.C w A5 cc.f3.length cc.f3/\cH.C w A9 d.f3.length d.f3/\cU.C w A12 g.length g/\cU.C w A13 hh.length hh))
 (IH:Aside0 (∀l,l=g\/l=hh->fZ 121 l)):
 Calls au 168 #[.agg #[.int .i64 1,.string b,.int .i64 cc.f0,.int .u64 cc.f1,.string cc.f2,.slice A5 cc.f3.length c5,.int .i64 d.f0,.int .u64 d.f1,.string d.f2,.slice A9 d.f3.length c9,.int .u64 e,.int .u64 f,.slice A12 g.length c12,.slice A13 hh.length c13]] w fun e' w'=>e'=.returned (.bool (aS ⟨1,b,cc,d,e,f,g,hh⟩&&bdB g&&bdB hh))/\Below w.heap.size w w':=by
 have gout:=@gA w;go_enter Tryz.func168,Tryz.ntmps168
 go_upto_region 1 with (fail)
 refine bE (by kernel_rfl) (by kernel_rfl) ?_
 repeat go_big_quiet_step (fail)
 refine wpQuiet_nil ?_;rintro _ ⟨gg,rfl⟩;go_wp2_with fail
 rcases aH (bM b)with hh8 | hh8
 ·refine(aC (g:=gg) (dZ hh8 gg.W)).mono ?_;rintro _ _ ⟨rfl,gg,rfl⟩;go_wp2_with fail
  rcases aH (fR cc)with hh7 | hh7
  ·refine(aC (g:=gg) (gH hh7 _ _ gg.W (Kd.aF H.out.1 (gout gg)) L.out.1)).mono ?_;rintro _ _ ⟨rfl,gg,rfl⟩;go_wp2_with fail
   rcases aH (exB d)with hh6 | hh6
   ·refine(aC (g:=gg) (dS hh6 _ _ gg.W (Kd.aF H.out.2.1 (gout gg)) L.out.2.1)).mono ?_;rintro _ _ ⟨rfl,gg,rfl⟩
    rcases aH (e != 0)with hh5 | hh5
    ·have he5:¬e=0:=by simpa using hh5
     go_wp2_with fail;go_ret;exact⟨aA (by simp[aS,hh8,hh7,hh6,he5]),gout _⟩
    ·have he5:e=0:=by simpa using hh5
     rcases aH (f != 0)with hh4 | hh4
     ·have he4:¬f=0:=by simpa using hh4
      go_wp2_with fail;go_ret;exact⟨aA (by simp[aS,hh8,hh7,hh6,he5,he4]),gout _⟩
     ·have he4:f=0:=by simpa using hh4
      rcases bu g.length with hh3 | hh3
      ·have he3:g.isEmpty=ac:=by rw[bk hh3];rfl
       have hn3:¬0<g.length:=by omega
       have hm3:decide (0<g.length)=O:=decide_eq_false hn3;clear hh3
       rcases bu hh.length with hh2 | hh2
       ·have he2:hh.isEmpty=ac:=by rw[bk hh2];rfl
        have hn2:¬0<hh.length:=by omega
        have hm2:decide (0<hh.length)=O:=decide_eq_false hn2;clear hh2;go_wp2_with fail
        rcases aH (bdB g)with hh1 | hh1
        ·refine(aC (g:=gg) (bK (IH.out _ (bi rfl)) hh1 _ _ gg.W (Kd.aF H.out.2.2.1 (gout gg)) L.out.2.2.1)).mono ?_;rintro _ _ ⟨rfl,gg,rfl⟩;go_wp2_with fail
         rcases aH (bdB hh)with hh0 | hh0
         ·refine(aC (g:=gg) (bK (IH.out _ (Or.inr rfl)) hh0 _ _ gg.W (Kd.aF H.out.2.2.2 (gout gg)) L.out.2.2.2)).mono ?_;rintro _ _ ⟨rfl,gg,rfl⟩;go_wp2_with fail;go_ret;exact⟨aA (by simp[aS,hh8,hh7,hh6,he5,he4,he3,he2,hh1,hh0]),gout _⟩
         ·refine(aC (g:=gg) (bK (IH.out _ (Or.inr rfl)) hh0 _ _ gg.W (Kd.aF H.out.2.2.2 (gout gg)) L.out.2.2.2)).mono ?_;rintro _ _ ⟨rfl,gg,rfl⟩;go_wp2_with fail;go_ret;exact⟨aA (by simp[aS,hh8,hh7,hh6,he5,he4,he3,he2,hh1,hh0]),gout _⟩
        ·refine(aC (g:=gg) (bK (IH.out _ (bi rfl)) hh1 _ _ gg.W (Kd.aF H.out.2.2.1 (gout gg)) L.out.2.2.1)).mono ?_;rintro _ _ ⟨rfl,gg,rfl⟩;go_wp2_with fail;go_ret;exact⟨aA (by simp[aS,hh8,hh7,hh6,he5,he4,he3,he2,hh1]),gout _⟩
       ·have he2:hh.isEmpty=O:=by rw[bv];rintro rfl;exact absurd hh2 (by simp)
        go_wp2_with fail;go_ret;exact⟨aA (by simp[aS,hh8,hh7,hh6,he5,he4,he3,he2]),gout _⟩
      ·have he3:g.isEmpty=O:=by rw[bv];rintro rfl;exact absurd hh3 (by simp)
       go_wp2_with fail;go_ret;exact⟨aA (by simp[aS,hh8,hh7,hh6,he5,he4,he3]),gout _⟩
   ·refine(aC (g:=gg) (dS hh6 _ _ gg.W (Kd.aF H.out.2.1 (gout gg)) L.out.2.1)).mono ?_;rintro _ _ ⟨rfl,gg,rfl⟩;go_wp2_with fail;go_ret;exact⟨aA (by simp[aS,hh8,hh7,hh6]),gout _⟩
  ·refine(aC (g:=gg) (gH hh7 _ _ gg.W (Kd.aF H.out.1 (gout gg)) L.out.1)).mono ?_;rintro _ _ ⟨rfl,gg,rfl⟩;go_wp2_with fail;go_ret;exact⟨aA (by simp[aS,hh8,hh7]),gout _⟩
 ·refine(aC (g:=gg) (dZ hh8 gg.W)).mono ?_;rintro _ _ ⟨rfl,gg,rfl⟩;go_wp2_with fail;go_ret;exact⟨aA (by simp[aS,hh8]),gout _⟩
end
section
attribute [local go_sem] G.cell
theorem stmtForm_k2 (b:ByteArray)(cc d:S116)(e f:Int)(g hh:List S119){A5:Option Addr}{c5:Nat}{A9:Option Addr}{c9:Nat}{A12:Option Addr}{c12:Nat}{A13:Option Addr}{c13:Nat}(w:World)
 (L:Aside0 (cc.f3.length<=c5/\d.f3.length<=c9/\g.length<=c12/\hh.length<=c13)) (H:Aside0 (cH.C w A5 cc.f3.length cc.f3/\cH.C w A9 d.f3.length d.f3/\cU.C w A12 g.length g/\cU.C w A13 hh.length hh))
 (IH:Aside0 (∀l,l=g\/l=hh->fZ 121 l)):
 Calls au 168 #[.agg #[.int .i64 2,.string b,.int .i64 cc.f0,.int .u64 cc.f1,.string cc.f2,.slice A5 cc.f3.length c5,.int .i64 d.f0,.int .u64 d.f1,.string d.f2,.slice A9 d.f3.length c9,.int .u64 e,.int .u64 f,.slice A12 g.length c12,.slice A13 hh.length c13]] w fun e' w'=>e'=.returned (.bool (aS ⟨2,b,cc,d,e,f,g,hh⟩&&bdB g&&bdB hh))/\Below w.heap.size w w':=by
 have gout:=@gA w;go_enter Tryz.func168,Tryz.ntmps168
 go_upto_region 1 with (fail)
 refine bE (by kernel_rfl) (by kernel_rfl) ?_
 repeat go_big_quiet_step (fail)
 refine wpQuiet_nil ?_;rintro _ ⟨gg,rfl⟩;go_wp2_with fail
 rcases aH (bM b)with hh8 | hh8
 ·refine(aC (g:=gg) (dZ hh8 gg.W)).mono ?_;rintro _ _ ⟨rfl,gg,rfl⟩;go_wp2_with fail
  rcases aH (exB cc)with hh7 | hh7
  ·refine(aC (g:=gg) (dS hh7 _ _ gg.W (Kd.aF H.out.1 (gout gg)) L.out.1)).mono ?_;rintro _ _ ⟨rfl,gg,rfl⟩;go_wp2_with fail
   rcases aH (exB d)with hh6 | hh6
   ·refine(aC (g:=gg) (dS hh6 _ _ gg.W (Kd.aF H.out.2.1 (gout gg)) L.out.2.1)).mono ?_;rintro _ _ ⟨rfl,gg,rfl⟩
    rcases aH (e != 0)with hh5 | hh5
    ·have he5:¬e=0:=by simpa using hh5
     go_wp2_with fail;go_ret;exact⟨aA (by simp[aS,hh8,hh7,hh6,he5]),gout _⟩
    ·have he5:e=0:=by simpa using hh5
     rcases aH (f != 0)with hh4 | hh4
     ·have he4:¬f=0:=by simpa using hh4
      go_wp2_with fail;go_ret;exact⟨aA (by simp[aS,hh8,hh7,hh6,he5,he4]),gout _⟩
     ·have he4:f=0:=by simpa using hh4
      rcases bu g.length with hh3 | hh3
      ·have he3:g.isEmpty=ac:=by rw[bk hh3];rfl
       have hn3:¬0<g.length:=by omega
       have hm3:decide (0<g.length)=O:=decide_eq_false hn3;clear hh3
       rcases bu hh.length with hh2 | hh2
       ·have he2:hh.isEmpty=ac:=by rw[bk hh2];rfl
        have hn2:¬0<hh.length:=by omega
        have hm2:decide (0<hh.length)=O:=decide_eq_false hn2;clear hh2;go_wp2_with fail
        rcases aH (bdB g)with hh1 | hh1
        ·refine(aC (g:=gg) (bK (IH.out _ (bi rfl)) hh1 _ _ gg.W (Kd.aF H.out.2.2.1 (gout gg)) L.out.2.2.1)).mono ?_;rintro _ _ ⟨rfl,gg,rfl⟩;go_wp2_with fail
         rcases aH (bdB hh)with hh0 | hh0
         ·refine(aC (g:=gg) (bK (IH.out _ (Or.inr rfl)) hh0 _ _ gg.W (Kd.aF H.out.2.2.2 (gout gg)) L.out.2.2.2)).mono ?_;rintro _ _ ⟨rfl,gg,rfl⟩;go_wp2_with fail;go_ret;exact⟨aA (by simp[aS,hh8,hh7,hh6,he5,he4,he3,he2,hh1,hh0]),gout _⟩
         ·refine(aC (g:=gg) (bK (IH.out _ (Or.inr rfl)) hh0 _ _ gg.W (Kd.aF H.out.2.2.2 (gout gg)) L.out.2.2.2)).mono ?_;rintro _ _ ⟨rfl,gg,rfl⟩;go_wp2_with fail;go_ret;exact⟨aA (by simp[aS,hh8,hh7,hh6,he5,he4,he3,he2,hh1,hh0]),gout _⟩
        ·refine(aC (g:=gg) (bK (IH.out _ (bi rfl)) hh1 _ _ gg.W (Kd.aF H.out.2.2.1 (gout gg)) L.out.2.2.1)).mono ?_;rintro _ _ ⟨rfl,gg,rfl⟩;go_wp2_with fail;go_ret;exact⟨aA (by simp[aS,hh8,hh7,hh6,he5,he4,he3,he2,hh1]),gout _⟩
       ·have he2:hh.isEmpty=O:=by rw[bv];rintro rfl;exact absurd hh2 (by simp)
        go_wp2_with fail;go_ret;exact⟨aA (by simp[aS,hh8,hh7,hh6,he5,he4,he3,he2]),gout _⟩
      ·have he3:g.isEmpty=O:=by rw[bv];rintro rfl;exact absurd hh3 (by simp)
       go_wp2_with fail;go_ret;exact⟨aA (by simp[aS,hh8,hh7,hh6,he5,he4,he3]),gout _⟩
   ·refine(aC (g:=gg) (dS hh6 _ _ gg.W (Kd.aF H.out.2.1 (gout gg)) L.out.2.1)).mono ?_;rintro _ _ ⟨rfl,gg,rfl⟩;go_wp2_with fail;go_ret;exact⟨aA (by simp[aS,hh8,hh7,hh6]),gout _⟩
  ·refine(aC (g:=gg) (dS hh7 _ _ gg.W (Kd.aF H.out.1 (gout gg)) L.out.1)).mono ?_;rintro _ _ ⟨rfl,gg,rfl⟩;go_wp2_with fail;go_ret;exact⟨aA (by simp[aS,hh8,hh7]),gout _⟩
 ·refine(aC (g:=gg) (dZ hh8 gg.W)).mono ?_;rintro _ _ ⟨rfl,gg,rfl⟩;go_wp2_with fail;go_ret;exact⟨aA (by simp[aS,hh8]),gout _⟩
end
section
attribute [local go_sem] G.cell
theorem stmtForm_k3 (b:ByteArray)(cc d:S116)(e f:Int)(g hh:List S119){A5:Option Addr}{c5:Nat}{A9:Option Addr}{c9:Nat}{A12:Option Addr}{c12:Nat}{A13:Option Addr}{c13:Nat}(w:World)
 (L:Aside0 (cc.f3.length<=c5/\d.f3.length<=c9/\g.length<=c12/\hh.length<=c13)) (H:Aside0 (cH.C w A5 cc.f3.length cc.f3/\cH.C w A9 d.f3.length d.f3/\cU.C w A12 g.length g/\cU.C w A13 hh.length hh))
 (IH:Aside0 (∀l,l=g\/l=hh->fZ 121 l)):
 Calls au 168 #[.agg #[.int .i64 3,.string b,.int .i64 cc.f0,.int .u64 cc.f1,.string cc.f2,.slice A5 cc.f3.length c5,.int .i64 d.f0,.int .u64 d.f1,.string d.f2,.slice A9 d.f3.length c9,.int .u64 e,.int .u64 f,.slice A12 g.length c12,.slice A13 hh.length c13]] w fun e' w'=>e'=.returned (.bool (aS ⟨3,b,cc,d,e,f,g,hh⟩&&bdB g&&bdB hh))/\Below w.heap.size w w':=by
 have gout:=@gA w;go_enter Tryz.func168,Tryz.ntmps168
 go_upto_region 1 with (fail)
 refine bE (by kernel_rfl) (by kernel_rfl) ?_
 repeat go_big_quiet_step (fail)
 refine wpQuiet_nil ?_;rintro _ ⟨gg,rfl⟩
 rcases aH b.toList.isEmpty with hh6 | hh6
 ·have he6:b.toList=[]:=by exact dx.1 hh6
  go_wp2_with fail
  rcases aH (fR cc)with hh5 | hh5
  ·refine(aC (g:=gg) (gH hh5 _ _ gg.W (Kd.aF H.out.1 (gout gg)) L.out.1)).mono ?_;rintro _ _ ⟨rfl,gg,rfl⟩;go_wp2_with fail
   rcases aH (exB d)with hh4 | hh4
   ·refine(aC (g:=gg) (dS hh4 _ _ gg.W (Kd.aF H.out.2.1 (gout gg)) L.out.2.1)).mono ?_;rintro _ _ ⟨rfl,gg,rfl⟩
    rcases aH (e != 0)with hh3 | hh3
    ·have he3:¬e=0:=by simpa using hh3
     go_wp2_with fail;go_ret;exact⟨aA (by simp[aS,hh6,hh5,hh4,he3]),gout _⟩
    ·have he3:e=0:=by simpa using hh3
     rcases aH (f != 0)with hh2 | hh2
     ·have he2:¬f=0:=by simpa using hh2
      go_wp2_with fail;go_ret;exact⟨aA (by simp[aS,hh6,hh5,hh4,he3,he2]),gout _⟩
     ·have he2:f=0:=by simpa using hh2
      go_wp2_with fail
      rcases aH (bdB g)with hh1 | hh1
      ·refine(aC (g:=gg) (bK (IH.out _ (bi rfl)) hh1 _ _ gg.W (Kd.aF H.out.2.2.1 (gout gg)) L.out.2.2.1)).mono ?_;rintro _ _ ⟨rfl,gg,rfl⟩;go_wp2_with fail
       rcases aH (bdB hh)with hh0 | hh0
       ·refine(aC (g:=gg) (bK (IH.out _ (Or.inr rfl)) hh0 _ _ gg.W (Kd.aF H.out.2.2.2 (gout gg)) L.out.2.2.2)).mono ?_;rintro _ _ ⟨rfl,gg,rfl⟩;go_wp2_with fail;go_ret;exact⟨aA (by simp[aS,hh6,hh5,hh4,he3,he2,hh1,hh0]),gout _⟩
       ·refine(aC (g:=gg) (bK (IH.out _ (Or.inr rfl)) hh0 _ _ gg.W (Kd.aF H.out.2.2.2 (gout gg)) L.out.2.2.2)).mono ?_;rintro _ _ ⟨rfl,gg,rfl⟩;go_wp2_with fail;go_ret;exact⟨aA (by simp[aS,hh6,hh5,hh4,he3,he2,hh1,hh0]),gout _⟩
      ·refine(aC (g:=gg) (bK (IH.out _ (bi rfl)) hh1 _ _ gg.W (Kd.aF H.out.2.2.1 (gout gg)) L.out.2.2.1)).mono ?_;rintro _ _ ⟨rfl,gg,rfl⟩;go_wp2_with fail;go_ret;exact⟨aA (by simp[aS,hh6,hh5,hh4,he3,he2,hh1]),gout _⟩
   ·refine(aC (g:=gg) (dS hh4 _ _ gg.W (Kd.aF H.out.2.1 (gout gg)) L.out.2.1)).mono ?_;rintro _ _ ⟨rfl,gg,rfl⟩;go_wp2_with fail;go_ret;exact⟨aA (by simp[aS,hh6,hh5,hh4]),gout _⟩
  ·refine(aC (g:=gg) (gH hh5 _ _ gg.W (Kd.aF H.out.1 (gout gg)) L.out.1)).mono ?_;rintro _ _ ⟨rfl,gg,rfl⟩;go_wp2_with fail;go_ret;exact⟨aA (by simp[aS,hh6,hh5]),gout _⟩
 ·have he6:¬b.toList=[]:=by intro h;rw[h]at hh6;exact absurd hh6 (by decide)
  go_wp2_with fail;go_ret;exact⟨aA (by simp[aS,hh6]),gout _⟩
end
section
attribute [local go_sem] G.cell
theorem stmtForm_k4 (b:ByteArray)(cc d:S116)(e f:Int)(g hh:List S119){A5:Option Addr}{c5:Nat}{A9:Option Addr}{c9:Nat}{A12:Option Addr}{c12:Nat}{A13:Option Addr}{c13:Nat}(w:World)
 (L:Aside0 (cc.f3.length<=c5/\d.f3.length<=c9/\g.length<=c12/\hh.length<=c13)) (H:Aside0 (cH.C w A5 cc.f3.length cc.f3/\cH.C w A9 d.f3.length d.f3/\cU.C w A12 g.length g/\cU.C w A13 hh.length hh))
 (IH:Aside0 (∀l,l=g\/l=hh->fZ 121 l)):
 Calls au 168 #[.agg #[.int .i64 4,.string b,.int .i64 cc.f0,.int .u64 cc.f1,.string cc.f2,.slice A5 cc.f3.length c5,.int .i64 d.f0,.int .u64 d.f1,.string d.f2,.slice A9 d.f3.length c9,.int .u64 e,.int .u64 f,.slice A12 g.length c12,.slice A13 hh.length c13]] w fun e' w'=>e'=.returned (.bool (aS ⟨4,b,cc,d,e,f,g,hh⟩&&bdB g&&bdB hh))/\Below w.heap.size w w':=by
 have gout:=@gA w;go_enter Tryz.func168,Tryz.ntmps168
 go_upto_region 1 with (fail)
 refine bE (by kernel_rfl) (by kernel_rfl) ?_
 repeat go_big_quiet_step (fail)
 refine wpQuiet_nil ?_;rintro _ ⟨gg,rfl⟩;go_wp2_with fail
 rcases aH (bM b)with hh5 | hh5
 ·refine(aC (g:=gg) (dZ hh5 gg.W)).mono ?_;rintro _ _ ⟨rfl,gg,rfl⟩;go_wp2_with fail
  rcases aH (fR cc)with hh4 | hh4
  ·refine(aC (g:=gg) (gH hh4 _ _ gg.W (Kd.aF H.out.1 (gout gg)) L.out.1)).mono ?_;rintro _ _ ⟨rfl,gg,rfl⟩;go_wp2_with fail
   rcases aH (fR d)with hh3 | hh3
   ·refine(aC (g:=gg) (gH hh3 _ _ gg.W (Kd.aF H.out.2.1 (gout gg)) L.out.2.1)).mono ?_;rintro _ _ ⟨rfl,gg,rfl⟩
    rcases bu hh.length with hh2 | hh2
    ·have he2:hh.isEmpty=ac:=by rw[bk hh2];rfl
     have hn2:¬0<hh.length:=by omega
     have hm2:decide (0<hh.length)=O:=decide_eq_false hn2;clear hh2;go_wp2_with fail
     rcases aH (bdB g)with hh1 | hh1
     ·refine(aC (g:=gg) (bK (IH.out _ (bi rfl)) hh1 _ _ gg.W (Kd.aF H.out.2.2.1 (gout gg)) L.out.2.2.1)).mono ?_;rintro _ _ ⟨rfl,gg,rfl⟩;go_wp2_with fail
      rcases aH (bdB hh)with hh0 | hh0
      ·refine(aC (g:=gg) (bK (IH.out _ (Or.inr rfl)) hh0 _ _ gg.W (Kd.aF H.out.2.2.2 (gout gg)) L.out.2.2.2)).mono ?_;rintro _ _ ⟨rfl,gg,rfl⟩;go_wp2_with fail;go_ret;exact⟨aA (by simp[aS,hh5,hh4,hh3,he2,hh1,hh0]),gout _⟩
      ·refine(aC (g:=gg) (bK (IH.out _ (Or.inr rfl)) hh0 _ _ gg.W (Kd.aF H.out.2.2.2 (gout gg)) L.out.2.2.2)).mono ?_;rintro _ _ ⟨rfl,gg,rfl⟩;go_wp2_with fail;go_ret;exact⟨aA (by simp[aS,hh5,hh4,hh3,he2,hh1,hh0]),gout _⟩
     ·refine(aC (g:=gg) (bK (IH.out _ (bi rfl)) hh1 _ _ gg.W (Kd.aF H.out.2.2.1 (gout gg)) L.out.2.2.1)).mono ?_;rintro _ _ ⟨rfl,gg,rfl⟩;go_wp2_with fail;go_ret;exact⟨aA (by simp[aS,hh5,hh4,hh3,he2,hh1]),gout _⟩
    ·have he2:hh.isEmpty=O:=by rw[bv];rintro rfl;exact absurd hh2 (by simp)
     go_wp2_with fail;go_ret;exact⟨aA (by simp[aS,hh5,hh4,hh3,he2]),gout _⟩
   ·refine(aC (g:=gg) (gH hh3 _ _ gg.W (Kd.aF H.out.2.1 (gout gg)) L.out.2.1)).mono ?_;rintro _ _ ⟨rfl,gg,rfl⟩;go_wp2_with fail;go_ret;exact⟨aA (by simp[aS,hh5,hh4,hh3]),gout _⟩
  ·refine(aC (g:=gg) (gH hh4 _ _ gg.W (Kd.aF H.out.1 (gout gg)) L.out.1)).mono ?_;rintro _ _ ⟨rfl,gg,rfl⟩;go_wp2_with fail;go_ret;exact⟨aA (by simp[aS,hh5,hh4]),gout _⟩
 ·refine(aC (g:=gg) (dZ hh5 gg.W)).mono ?_;rintro _ _ ⟨rfl,gg,rfl⟩;go_wp2_with fail;go_ret;exact⟨aA (by simp[aS,hh5]),gout _⟩
end
end Go.Proofs.YtfigjpehecibeaaGreat.L
