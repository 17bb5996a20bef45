/- The law WfNames where what it reads is of bulk at most 1048576: it returns true and leaves its arguments as they were. No other condition. -/
import Derived.Test.YtfigjpehecibeaaGreatRows
import Derived.WalkKit
import Derived.ProofKit
import Derived.OpenShut
import Derived.ShutString
import Derived.ChangeOld
import Derived.Below
import Derived.SizedLaws
import Derived.Deep.CondSized
import Derived.JoinedCond
import Derived.Test.YtfigjpehecibeaaGreatZi1
import Derived.Test.YtfigjpehecibeaaGreatZi6
namespace Go.Proofs.YtfigjpehecibeaaGreat.wfNamesUpto
open Go.ChangeShapes Go.WideShapes Go.ChangeAt Go.RowKit
open Go.ChangeMaps (open_string shut_string)
set_option linter.unusedVariables false
set_option linter.unusedSimpArgs false
theorem own:ownKnob Tryz.prog.godebug=none:=by kernel_rfl
theorem laidOut:laidOutB Tryz.prog=true:=by kernel_rfl
set_option maxRecDepth 100000 in
theorem lifted (os:Os)(started:os.Started)(H:Type)(enc:TypeId × Value->H)(F0:Stop.Interp):
 ReturnsInHanded {} Tryz.checked os 7 .any ((Rows.OpenSpec.upto Rows.wfNamesSpec).pre6 enc Tryz.prog Tryz.f7 Rows.wfNamesUptoRow.domain false) (((Rows.OpenSpec.upto Rows.wfNamesSpec).at F0).post enc Tryz.prog Tryz.f7 false true false false):=by
 refine returnsInHanded_of_cond_sized (C:=Tryz.checked) (s:=Rows.OpenSpec.upto Rows.wfNamesSpec) (k:=Rows.uptoSmall) rfl own started (by kernel_rfl) Tryz.func7
  (OpenSpec.witness (enc:=enc) (C:=Tryz.checked) (s:=Rows.OpenSpec.upto Rows.wfNamesSpec) (k:=Rows.uptoSmall) rfl false ⟨#[],#[.agg #[.string ByteArray.empty,.int .i64 0,.int .i64 0,.slice none 0 0,.slice none 0 0],.int .i64 0],[]⟩ 8 (by kernel_rfl) (by kernel_rfl) (by kernel_rfl)
    (x:=([.agg [.lit (.string []),.lit (.int .i64 0),.lit (.int .i64 0),.nil,.nil],.lit (.int .i64 0)],[],[])) (by kernel_rfl) (by kernel_rfl) (by kernel_rfl)) ?_
 intro W base args ds gs before hval0 hW _ hk0 hsz0 _
 have hk:Rows.uptoBulkAll (ds++gs)<=1048576:=of_decide_eq_true hk0
 have hsz:(DataW.weightsEach Tryz.prog (Tryz.f7.params.toList++Rows.wfNamesSpec.plain.varTypes Tryz.prog) (ds++gs)).all (· <=reachBytes)=true:=hsz0
 have hval:∀(j:Nat) t v,Tryz.f7.params[j]? =some t->args[j]? =some v->Value.okWide Tryz.prog W .any base t v:=hval0
 have hW':=hW
 obtain⟨p,q,hA0,hV,rfl,hfz,hnd⟩:=hW
 have hA:DataW.TrodAll enc Tryz.prog W 0 (fun _=>true) true Tryz.f7.params.toList args.toList ds p:=hA0
 rw[Tryz.params7]at hA hval hsz
 obtain⟨v0,vs0,d0,ds0,p0,q0,hargs,rfl,rfl,h0,r0⟩:=trodAll_cons hA
 obtain⟨v1,vs1,d1,ds1,p1,q1,rfl,rfl,rfl,h1,r1⟩:=trodAll_cons r0
 obtain⟨rfl,rfl,rfl⟩:=trodAll_nil r1
 obtain rfl:args= #[v0,v1]:=by cases args;simp_all
 obtain⟨rfl,rfl⟩:=trodVars_none hV
 have up:Rows.uptoBulk d0+Rows.uptoBulk d1<=1048576:=by
  have h:=hk
  simp[Rows.uptoBulkAll]at h
  omega
 have lt0:∀x∈p0,x.block<W.heap.size:=by obtain⟨m,hm⟩:=h0;exact DataW.trod_lt m _ _ _ hm
 obtain⟨x0,k0,g0,b0⟩:∃x,Ot.opensP_K W x v0.cells.toList/\Ot.lT x/\Ot.kT x<=Rows.uptoBulk d0:=by
  obtain⟨fuel,hf⟩:=h0
  exact Ot.opensP fuel _ _ hf (Op.weights_at hsz (j:=0) rfl rfl)
 have s0:=okWide_struct Tryz.underlying25 (hval 0 25 v0 rfl rfl)
 obtain⟨a1,rfl,rfl,rfl,w1⟩:=open_int Tryz.underlying3 (hval 1 3 v1 rfl rfl) h1
 clear hA0 hval0 hsz0 hsz
 refine(Go.Proofs.YtfigjpehecibeaaGreat.L.wfNames_law v0 x0 a1 W s0 k0 g0 b0 w1 up).mono fun e W' ⟨he,bel⟩=> ?_
 subst he
 exact⟨_,rfl,_,_,_,[],_,[],hW',trodAll_mk1 (shut_bool Tryz.underlying4 _),(trodAll_cons_mk (Below.trod laidOut (by kernel_rfl) (of_decide_eq_true (by kernel_rfl)) h0 bel lt0) (trodAll_cons_mk (shut_int Tryz.underlying3 w1) trodAll_mk0)),rfl,bel.frame _,fun h=>by cases h⟩
set_option maxHeartbeats 4000000 in
theorem over:Rows.wfNamesUptoRow.holds Tryz.pinned (Rows.OpenSpec.upto Rows.wfNamesSpec):=by
 refine OpenClaim.holds_of_cond 7 Tryz.f7 rfl rfl rfl rfl rfl rfl rfl ⟨rfl,rfl,rfl,rfl,rfl⟩ rfl rfl rfl rfl rfl ?a Tryz.func7 ?b (of_decide_eq_true ?c) ?d (fun os started H enc _ F0=>lifted os started H enc F0)
 case a=>as_aux_lemma=>kernel_rfl
 case b=>as_aux_lemma=>kernel_rfl
 case c=>as_aux_lemma=>kernel_rfl
 case d=>
  as_aux_lemma=>
  unfold Func.isWrapper
  rw[if_neg (by decide+kernel)]
  exact⟨rfl,rfl⟩
theorem proved:Rows.WfNamesUptoSaid:=over
#print axioms proved
end Go.Proofs.YtfigjpehecibeaaGreat.wfNamesUpto
namespace Go.Proofs.YtfigjpehecibeaaGreat
theorem wfNamesUpto_holds:Rows.WfNamesUptoSaid:=wfNamesUpto.proved
end Go.Proofs.YtfigjpehecibeaaGreat
