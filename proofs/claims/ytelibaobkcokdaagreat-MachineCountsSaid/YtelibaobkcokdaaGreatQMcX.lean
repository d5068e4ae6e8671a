/- MachineCounts: the statement: for every input the call returns true, and the input reads as it did. -/
import Derived.Test.YtelibaobkcokdaaGreatQM5
import Derived.Test.YtelibaobkcokdaaGreatRows
import Derived.WalkKit
import Derived.ProofKit
import Derived.OpenShut
import Derived.ShutString
import Derived.ChangeOld
namespace Go.Proofs.YtelibaobkcokdaaGreat
set_option linter.unusedVariables false
set_option linter.unusedSimpArgs false
open Go Go.Kx Go.Proofs
open Go.ChangeShapes Go.WideShapes Go.ChangeAt Go.RowKit
theorem own:ownKnob Tryz.prog.godebug=none:=by kernel_rfl
theorem laidOut:laidOutB Tryz.prog=true:=by kernel_rfl
set_option maxRecDepth 100000 in
theorem lifted (os:Os) (started:os.Started) (H:Type) (enc:TypeId×Value→H):
  ReturnsInHanded {} Tryz.checked os 7 .any (Rows.machineCountsSpec.pre6 enc Tryz.prog Tryz.f7 Rows.machineCountsRow.domain false) (Rows.machineCountsSpec.post enc Tryz.prog Tryz.f7 false true false false):=by
 refine returnsInHanded_of_change (C:=Tryz.checked) own started (by kernel_rfl) Tryz.func7
  (ChangeSpec.witness6 (enc:=enc) (C:=Tryz.checked) false ⟨#[],#[.slice none 0 0,.int .i64 0],[]⟩ 8 (by kernel_rfl) (by kernel_rfl) (by kernel_rfl) (by kernel_rfl)) ?_
 intro W base args ds gs before hval0 hW hcnd _
 have hval:∀(j:Nat) t v,Tryz.f7.params[j]?=some t→args[j]?=some v→Value.okWide Tryz.prog W .any base t v:=hval0
 have hW':=hW
 obtain ⟨p,q,hA0,hV,rfl,hfz,hnd⟩:=hW
 have hA:DataW.TrodAll enc Tryz.prog W 0 (fun _=>true) true Tryz.f7.params.toList args.toList ds p:=hA0
 rw[Tryz.params7] at hA hval
 obtain ⟨v0,vs0,d0,ds0,p0,q0,hargs,rfl,rfl,h0,r0⟩:=trodAll_cons hA
 obtain ⟨v1,vs1,d1,ds1,p1,q1,rfl,rfl,rfl,h1,r1⟩:=trodAll_cons r0
 obtain ⟨rfl,rfl,rfl⟩:=trodAll_nil r1
 obtain rfl:args=#[v0,v1]:=by cases args;simp_all
 obtain ⟨rfl,rfl⟩:=trodVars_none hV
 obtain ⟨a0,len0,cap0,rfl⟩:=okWide_slice Tryz.underlying48 (hval 0 48 v0 rfl rfl)
 have k0:=h0
 have lt0:∀x∈p0,x.block < W.heap.size:=by obtain ⟨m,hm⟩:=k0;exact DataW.trod_lt m _ _ _ hm
 obtain ⟨as0,en0,rel0⟩:∃cs,Enc Mx.shVts cs∧RelL (gAll W.heap) cs [.slice a0 len0 cap0]:=by
  obtain ⟨fuel,hf⟩:=h0
  exact (trod_enc Mx.shVts).1 48 fuel _ _ Mx.shVts_ok hf
 obtain ⟨x0,rfl,hx0⟩:=Mx.shVts_read en0
 obtain ⟨x1,rfl,rfl,rfl,w1⟩:=open_int Tryz.underlying3 (hval 1 3 v1 rfl rfl) h1
 clear hA0 hval0
 refine (law_run (Mx.JH x0 x1 hx0) (.one (rel0.2 0 _ _ rfl rfl) (.one (.v (.int .i64 x1)) (.nil _))) (by trivial) W rfl).mono fun e W' ⟨v,he,⟨hS,hv⟩,hsame⟩=>?_
 subst he
 subst hv
 have bel:Below W.heap.size W W':=below_of hS hsame
 exact ⟨_,rfl,_,_,_,[],_,[],hW',trodAll_mk1 (shut_bool Tryz.underlying4 _),(trodAll_cons_mk (Below.trod laidOut (by kernel_rfl) (of_decide_eq_true (by kernel_rfl)) k0 bel lt0) (trodAll_cons_mk (shut_int Tryz.underlying3 w1) trodAll_mk0)),rfl,bel.frame _,fun h=>by cases h⟩
theorem Q14 {a b:Bool} (h:a=true) (k:b=true):(a&&b)=true:=by rw[h,k];rfl
theorem kinds_t {c:OpenClaim} (h:c.domain.isEmpty=true) (k:c.kinds=[]) (X:List (Option IntKind)):(c.kinds==(if c.domain.isEmpty then [] else X))=true:=by rw[h,k];rfl
theorem jf0:(Rows.machineCountsRow.wf (OpenSpec.ofChange Rows.machineCountsSpec))=true:=by kernel_rfl
theorem jf1:(laidOutB Tryz.prog)=true:=by kernel_rfl
theorem jf2:(mapsRowed Tryz.prog)=true:=by kernel_rfl
theorem jf3:(Tryz.f7.params.all (Tryz.prog.readableRec ·))=true:=by kernel_rfl
theorem jf4:(namedTie Tryz.prog Rows.machineCountsRow.named Rows.machineCountsSpec.vars)=true:=by kernel_rfl
theorem jf5:(Rows.machineCountsRow.stops==[])=true:=by kernel_rfl
theorem jf6:(Tryz.prog.stops==[])=true:=by kernel_rfl
theorem jf7:(Rows.machineCountsRow.knobs==[])=true:=by kernel_rfl
theorem jf8:(Tryz.prog.stopKnobs==[])=true:=by kernel_rfl
theorem jf9:(Rows.machineCountsRow.inPlace==Tryz.prog.inPlace 7)=true:=by kernel_rfl
theorem jf10:(Rows.machineCountsRow.unfollowed==Tryz.prog.unfollowed 7)=true:=by kernel_rfl
theorem jf11:(Rows.machineCountsRow.recurses==Tryz.prog.recurses 7)=true:=by kernel_rfl
theorem jf12:(Rows.machineCountsRow.named==Tryz.prog.varsNamed 7)=true:=by kernel_rfl
theorem jf13:(Rows.machineCountsRow.maps==(Tryz.f7.params.toList++Rows.machineCountsSpec.plain.varTypes Tryz.prog).any (Tryz.prog.mapsRec ·))=true:=by kernel_rfl
theorem jf14:(Rows.machineCountsRow.ifaces==(Tryz.f7.params.toList++Rows.machineCountsSpec.plain.varTypes Tryz.prog).any (Tryz.prog.ifacesRec ·))=true:=by kernel_rfl
theorem jf15:(Rows.machineCountsRow.mapsOut==Tryz.prog.mapsAmong Tryz.f7.resultTypes.toList)=true:=by kernel_rfl
theorem jf16:(Rows.machineCountsRow.loops==(Tryz.f7.params.toList++Rows.machineCountsSpec.plain.varTypes Tryz.prog).any (Tryz.prog.loopsFrom ·))=true:=by kernel_rfl
theorem jf17:(Rows.machineCountsRow.wideKeys==(Tryz.f7.params.toList++Rows.machineCountsSpec.plain.varTypes Tryz.prog++Tryz.f7.resultTypes.toList).any (Tryz.prog.wideKeysFrom ·))=true:=by kernel_rfl
theorem jf18:(Rows.machineCountsSpec.vars.all (Tryz.prog.varReadable ·))=true:=by kernel_rfl
theorem jf19:(Tryz.f7.resultTypes.all (fun t=>Tryz.prog.readableRec t&&decide (t < Tryz.prog.types.size)))=true:=by kernel_rfl
theorem jf20:(Rows.machineCountsRow.ifacesOut==Tryz.f7.resultTypes.toList.any (Tryz.prog.ifacesRec ·))=true:=by kernel_rfl
theorem jf21:(Rows.machineCountsRow.loopsOut==Tryz.f7.resultTypes.toList.any (Tryz.prog.loopsFrom ·))=true:=by kernel_rfl
theorem jf22:(Rows.machineCountsRow.plainKeys==Tryz.prog.plainKeys)=true:=by kernel_rfl
theorem jf23:(Rows.machineCountsRow.shortTexts.isNone)=true:=by kernel_rfl
theorem jf24:(Tryz.prog.stopsHeard)=true:=by kernel_rfl
theorem jf25:(Tryz.prog.mayEnter)=true:=by kernel_rfl
theorem jf26:(Rows.machineCountsRow.lifted==Tryz.prog.liftsFinal)=true:=by kernel_rfl
theorem jf27:(Tryz.prog.make==some Rows.machineCountsRow.make)=true:=by kernel_rfl
theorem jf29:(Rows.machineCountsRow.pinned==Rows.machineCountsRow.pinnedBy)=true:=by kernel_rfl
theorem jf30:(Rows.machineCountsRow.veiled==(Tryz.f7.params.toList++Rows.machineCountsSpec.plain.varTypes Tryz.prog++Tryz.f7.resultTypes.toList).any (Tryz.prog.veiledRec ·))=true:=by kernel_rfl
theorem jf31:(Rows.machineCountsRow.veiledFits Tryz.prog Tryz.f7.params.toList (Tryz.f7.params.toList++Rows.machineCountsSpec.plain.varTypes Tryz.prog++Tryz.f7.resultTypes.toList))=true:=by kernel_rfl
theorem closed:joinedFacts Tryz.prog 7 Tryz.f7 Rows.machineCountsSpec Rows.machineCountsRow=true:=by
 unfold joinedFacts
 exact (Q14 (Q14 (Q14 (Q14 (Q14 (Q14 (Q14 (Q14 (Q14 (Q14 (Q14 (Q14 (Q14 (Q14 (Q14 (Q14 (Q14 (Q14 (Q14 (Q14 (Q14 (Q14 (Q14 (Q14 (Q14 (Q14 (Q14 (Q14 (Q14 (Q14 (Q14 jf0 jf1) jf2) jf3) jf4) jf5) jf6) jf7) jf8) jf9) jf10) jf11) jf12) jf13) jf14) jf15) jf16) jf17) jf18) jf19) jf20) jf21) jf22) jf23) jf24) jf25) jf26) jf27) (kinds_t rfl rfl _)) jf29) jf30) jf31)
theorem named:Tryz.prog.funcNamed Rows.machineCountsRow.func=some 7:=by kernel_rfl
theorem over:Rows.machineCountsRow.holds Tryz.pinned (OpenSpec.ofChange Rows.machineCountsSpec):=
 OpenClaim.holds_of_wide 7 Tryz.f7 rfl rfl rfl rfl rfl rfl rfl ⟨rfl,rfl,rfl,rfl,rfl⟩ rfl rfl rfl rfl rfl named Tryz.func7 closed
  (of_decide_eq_true (by kernel_rfl)) (by unfold Func.isWrapper;first|(rw[if_pos (by decide +kernel)];kernel_rfl)|(rw[if_neg (by decide +kernel)];exact ⟨rfl,rfl⟩))
  (fun os started H enc _=>lifted os started H enc)
theorem machineCounts_proved:Rows.MachineCountsSaid:=over
end Go.Proofs.YtelibaobkcokdaaGreat
