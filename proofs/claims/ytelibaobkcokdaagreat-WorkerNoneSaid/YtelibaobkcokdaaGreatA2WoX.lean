/- WorkerNone: the statement: for every input the call returns true, and the input reads as it did. -/
import Derived.Test.YtelibaobkcokdaaGreatA2Mxt
import Derived.Test.YtelibaobkcokdaaGreatRows
import Derived.WalkKit
import Derived.ProofKit
import Derived.OpenShut
import Derived.ShutString
import Derived.ChangeOld
namespace Go.Proofs.YtelibaobkcokdaaGreat
set_option linter.unusedVariables false
set_option linter.unusedSimpArgs false
open Go Go.Kx Go.Proofs
open Go.ChangeShapes Go.WideShapes Go.ChangeAt Go.RowKit
theorem own:ownKnob Tryz.prog.godebug=none:=by kernel_rfl
set_option maxRecDepth 100000 in
theorem lifted (os:Os) (started:os.Started) (H:Type) (enc:TypeId×Value→H):
  ReturnsInHanded {} Tryz.checked os 3 .any (Rows.workerNoneSpec.pre6 enc Tryz.prog Tryz.f3 Rows.workerNoneRow.domain false) (Rows.workerNoneSpec.post enc Tryz.prog Tryz.f3 false true false false):=by
 refine returnsInHanded_of_change (C:=Tryz.checked) own started (by kernel_rfl) Tryz.func3
  (ChangeSpec.witness6 (enc:=enc) (C:=Tryz.checked) false ⟨#[],#[.int .i64 0,.int .i64 0,.int .i64 0],[]⟩ 8 (by kernel_rfl) (by kernel_rfl) (by kernel_rfl) (by kernel_rfl)) ?_
 intro W base args ds gs before hval0 hW hcnd _
 have hval:∀(j:Nat) t v,Tryz.f3.params[j]?=some t→args[j]?=some v→Value.okWide Tryz.prog W .any base t v:=hval0
 have hW':=hW
 obtain ⟨p,q,hA0,hV,rfl,hfz,hnd⟩:=hW
 have hA:DataW.TrodAll enc Tryz.prog W 0 (fun _=>true) true Tryz.f3.params.toList args.toList ds p:=hA0
 rw[Tryz.params3] at hA hval
 obtain ⟨v0,vs0,d0,ds0,p0,q0,hargs,rfl,rfl,h0,r0⟩:=trodAll_cons hA
 obtain ⟨v1,vs1,d1,ds1,p1,q1,rfl,rfl,rfl,h1,r1⟩:=trodAll_cons r0
 obtain ⟨v2,vs2,d2,ds2,p2,q2,rfl,rfl,rfl,h2,r2⟩:=trodAll_cons r1
 obtain ⟨rfl,rfl,rfl⟩:=trodAll_nil r2
 obtain rfl:args=#[v0,v1,v2]:=by cases args;simp_all
 obtain ⟨rfl,rfl⟩:=trodVars_none hV
 obtain ⟨x0,rfl,rfl,rfl,w0⟩:=open_int Tryz.underlying3 (hval 0 3 v0 rfl rfl) h0
 obtain ⟨x1,rfl,rfl,rfl,w1⟩:=open_int Tryz.underlying3 (hval 1 3 v1 rfl rfl) h1
 obtain ⟨x2,rfl,rfl,rfl,w2⟩:=open_int Tryz.underlying3 (hval 2 3 v2 rfl rfl) h2
 clear hA0 hval0
 refine (law_run (Mx.WorkerNone_a x0 x1 x2 ) (.one (.v (.int .i64 x0)) (.one (.v (.int .i64 x1)) (.one (.v (.int .i64 x2)) (.nil _)))) (by trivial) W rfl).mono fun e W' ⟨v,he,⟨hS,hv⟩,hsame⟩=>?_
 subst he
 subst hv
 have bel:Below W.heap.size W W':=below_of hS hsame
 exact ⟨_,rfl,_,_,_,[],_,[],hW',trodAll_mk1 (shut_bool Tryz.underlying4 _),(trodAll_cons_mk (shut_int Tryz.underlying3 w0) (trodAll_cons_mk (shut_int Tryz.underlying3 w1) (trodAll_cons_mk (shut_int Tryz.underlying3 w2) trodAll_mk0))),rfl,bel.frame _,fun h=>by cases h⟩
theorem Q05 {a b:Bool} (h:a=true) (k:b=true):(a&&b)=true:=by rw[h,k];rfl
theorem kinds_t {c:OpenClaim} (h:c.domain.isEmpty=true) (k:c.kinds=[]) (X:List (Option IntKind)):(c.kinds==(if c.domain.isEmpty then [] else X))=true:=by rw[h,k];rfl
theorem jf0:(Rows.workerNoneRow.wf (OpenSpec.ofChange Rows.workerNoneSpec))=true:=by kernel_rfl
theorem jf1:(laidOutB Tryz.prog)=true:=by kernel_rfl
theorem jf2:(mapsRowed Tryz.prog)=true:=by kernel_rfl
theorem jf3:(Tryz.f3.params.all (Tryz.prog.readableRec ·))=true:=by kernel_rfl
theorem jf4:(namedTie Tryz.prog Rows.workerNoneRow.named Rows.workerNoneSpec.vars)=true:=by kernel_rfl
theorem jf5:(Rows.workerNoneRow.stops==[])=true:=by kernel_rfl
theorem jf6:(Tryz.prog.stops==[])=true:=by kernel_rfl
theorem jf7:(Rows.workerNoneRow.knobs==[])=true:=by kernel_rfl
theorem jf8:(Tryz.prog.stopKnobs==[])=true:=by kernel_rfl
theorem jf9:(Rows.workerNoneRow.inPlace==Tryz.prog.inPlace 3)=true:=by kernel_rfl
theorem jf10:(Rows.workerNoneRow.unfollowed==Tryz.prog.unfollowed 3)=true:=by kernel_rfl
theorem jf11:(Rows.workerNoneRow.recurses==Tryz.prog.recurses 3)=true:=by kernel_rfl
theorem jf12:(Rows.workerNoneRow.named==Tryz.prog.varsNamed 3)=true:=by kernel_rfl
theorem jf13:(Rows.workerNoneRow.maps==(Tryz.f3.params.toList++Rows.workerNoneSpec.plain.varTypes Tryz.prog).any (Tryz.prog.mapsRec ·))=true:=by kernel_rfl
theorem jf14:(Rows.workerNoneRow.ifaces==(Tryz.f3.params.toList++Rows.workerNoneSpec.plain.varTypes Tryz.prog).any (Tryz.prog.ifacesRec ·))=true:=by kernel_rfl
theorem jf15:(Rows.workerNoneRow.mapsOut==Tryz.prog.mapsAmong Tryz.f3.resultTypes.toList)=true:=by kernel_rfl
theorem jf16:(Rows.workerNoneRow.loops==(Tryz.f3.params.toList++Rows.workerNoneSpec.plain.varTypes Tryz.prog).any (Tryz.prog.loopsFrom ·))=true:=by kernel_rfl
theorem jf17:(Rows.workerNoneRow.wideKeys==(Tryz.f3.params.toList++Rows.workerNoneSpec.plain.varTypes Tryz.prog++Tryz.f3.resultTypes.toList).any (Tryz.prog.wideKeysFrom ·))=true:=by kernel_rfl
theorem jf18:(Rows.workerNoneSpec.vars.all (Tryz.prog.varReadable ·))=true:=by kernel_rfl
theorem jf19:(Tryz.f3.resultTypes.all (fun t=>Tryz.prog.readableRec t&&decide (t < Tryz.prog.types.size)))=true:=by kernel_rfl
theorem jf20:(Rows.workerNoneRow.ifacesOut==Tryz.f3.resultTypes.toList.any (Tryz.prog.ifacesRec ·))=true:=by kernel_rfl
theorem jf21:(Rows.workerNoneRow.loopsOut==Tryz.f3.resultTypes.toList.any (Tryz.prog.loopsFrom ·))=true:=by kernel_rfl
theorem jf22:(Rows.workerNoneRow.plainKeys==Tryz.prog.plainKeys)=true:=by kernel_rfl
theorem jf23:(Rows.workerNoneRow.shortTexts.isNone)=true:=by kernel_rfl
theorem jf24:(Tryz.prog.stopsHeard)=true:=by kernel_rfl
theorem jf25:(Tryz.prog.mayEnter)=true:=by kernel_rfl
theorem jf26:(Rows.workerNoneRow.lifted==Tryz.prog.liftsFinal)=true:=by kernel_rfl
theorem jf27:(Tryz.prog.make==some Rows.workerNoneRow.make)=true:=by kernel_rfl
theorem jf29:(Rows.workerNoneRow.pinned==Rows.workerNoneRow.pinnedBy)=true:=by kernel_rfl
theorem jf30:(Rows.workerNoneRow.veiled==(Tryz.f3.params.toList++Rows.workerNoneSpec.plain.varTypes Tryz.prog++Tryz.f3.resultTypes.toList).any (Tryz.prog.veiledRec ·))=true:=by kernel_rfl
theorem jf31:(Rows.workerNoneRow.veiledFits Tryz.prog Tryz.f3.params.toList (Tryz.f3.params.toList++Rows.workerNoneSpec.plain.varTypes Tryz.prog++Tryz.f3.resultTypes.toList))=true:=by kernel_rfl
theorem closed:joinedFacts Tryz.prog 3 Tryz.f3 Rows.workerNoneSpec Rows.workerNoneRow=true:=by
 unfold joinedFacts
 exact (Q05 (Q05 (Q05 (Q05 (Q05 (Q05 (Q05 (Q05 (Q05 (Q05 (Q05 (Q05 (Q05 (Q05 (Q05 (Q05 (Q05 (Q05 (Q05 (Q05 (Q05 (Q05 (Q05 (Q05 (Q05 (Q05 (Q05 (Q05 (Q05 (Q05 (Q05 jf0 jf1) jf2) jf3) jf4) jf5) jf6) jf7) jf8) jf9) jf10) jf11) jf12) jf13) jf14) jf15) jf16) jf17) jf18) jf19) jf20) jf21) jf22) jf23) jf24) jf25) jf26) jf27) (kinds_t rfl rfl _)) jf29) jf30) jf31)
theorem named:Tryz.prog.funcNamed Rows.workerNoneRow.func=some 3:=by kernel_rfl
theorem over:Rows.workerNoneRow.holds Tryz.pinned (OpenSpec.ofChange Rows.workerNoneSpec):=
 OpenClaim.holds_of_wide 3 Tryz.f3 rfl rfl rfl rfl rfl rfl rfl ⟨rfl,rfl,rfl,rfl,rfl⟩ rfl rfl rfl rfl rfl named Tryz.func3 closed
  (of_decide_eq_true (by kernel_rfl)) (by unfold Func.isWrapper;first|(rw[if_pos (by decide +kernel)];kernel_rfl)|(rw[if_neg (by decide +kernel)];exact ⟨rfl,rfl⟩))
  (fun os started H enc _=>lifted os started H enc)
theorem workerNone_proved:Rows.WorkerNoneSaid:=over
end Go.Proofs.YtelibaobkcokdaaGreat
