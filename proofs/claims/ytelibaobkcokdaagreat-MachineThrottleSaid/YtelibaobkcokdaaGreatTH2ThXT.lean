/- MachineThrottle: the statement: for every input the call returns true, and the i -/
import Derived.Test.YtelibaobkcokdaaGreatTH2G36
import Derived.Test.YtelibaobkcokdaaGreatRows
import Derived.WalkKit
import Derived.ProofKit
import Derived.OpenShut
import Derived.ShutString
import Derived.ChangeOld
namespace Go.Proofs.YtelibaobkcokdaaGreat
set_option linter.unusedVariables false
set_option linter.unusedSimpArgs false
open Go Go.Kx Go.Proofs
open Go.ChangeShapes Go.WideShapes Go.ChangeAt Go.RowKit
theorem own:ownKnob Tryz.prog.godebug=none:=by kernel_rfl
theorem laidOut:laidOutB Tryz.prog=true:=by kernel_rfl
theorem c3:Tryz.prog.cellsOf 3=1:=by kernel_rfl
set_option maxRecDepth 100000 in
theorem lifted (os:Os) (started:os.Started) (H:Type) (enc:TypeId×Value→H):
  ReturnsInHanded {} Tryz.checked os 4 .any (Rows.machineThrottleSpec.pre6 enc Tryz.prog Tryz.f4 Rows.machineThrottleRow.domain false) (Rows.machineThrottleSpec.post enc Tryz.prog Tryz.f4 false true false false):=by
 refine returnsInHanded_of_change (C:=Tryz.checked) own started (by kernel_rfl) Tryz.func4
  (ChangeSpec.witness6 (enc:=enc) (C:=Tryz.checked) false ⟨#[],#[.agg #[.int .i64 0,.slice none 0 0],.slice none 0 0,.agg #[.int .i64 0,.int .i64 0,.int .i64 0,.int .i64 0,.int .i64 0,.bool false,.bool false],.slice none 0 0],[]⟩ 8 (by kernel_rfl) (by kernel_rfl) (by kernel_rfl) (by kernel_rfl)) ?_
 intro W base args ds gs before hval0 hW hcnd _;have hval:∀(j:Nat) t v,Tryz.f4.params[j]?=some t→args[j]?=some v→Value.okWide Tryz.prog W .any base t v:=hval0;have hW':=hW;obtain ⟨p,q,hA0,hV,rfl,hfz,hnd⟩:=hW;have hA:DataW.TrodAll enc Tryz.prog W 0 (fun _=>true) true Tryz.f4.params.toList args.toList ds p:=hA0;rw[Tryz.params4] at hA hval;obtain ⟨v0,vs0,d0,ds0,p0,q0,hargs,rfl,rfl,h0,r0⟩:=trodAll_cons hA;obtain ⟨v1,vs1,d1,ds1,p1,q1,rfl,rfl,rfl,h1,r1⟩:=trodAll_cons r0;obtain ⟨v2,vs2,d2,ds2,p2,q2,rfl,rfl,rfl,h2,r2⟩:=trodAll_cons r1;obtain ⟨v3,vs3,d3,ds3,p3,q3,rfl,rfl,rfl,h3,r3⟩:=trodAll_cons r2;obtain ⟨rfl,rfl,rfl⟩:=trodAll_nil r3;obtain rfl:args=#[v0,v1,v2,v3]:=by cases args;simp_all
 obtain ⟨rfl,rfl⟩:=trodVars_none hV;obtain ⟨a0,rfl,_⟩:=okWide_struct Tryz.underlying33 (hval 0 33 v0 rfl rfl);have k0:=h0;have lt0:∀x∈p0,x.block < W.heap.size:=by obtain ⟨m,hm⟩:=k0;exact DataW.trod_lt m _ _ _ hm
 obtain ⟨as0,en0,rel0⟩:∃cs,Enc shPr cs∧RelL (gAll W.heap) cs a0.toList:=by obtain ⟨fuel,hf⟩:=h0;exact (Y68 shPr).1 33 fuel _ _ shPr_ok hf
 obtain ⟨x0,rfl,hx0⟩:=shPr_read en0;obtain ⟨a1,len1,cap1,rfl⟩:=okWide_slice Tryz.underlying34 (hval 1 34 v1 rfl rfl);have k1:=h1;have lt1:∀x∈p1,x.block < W.heap.size:=by obtain ⟨m,hm⟩:=k1;exact DataW.trod_lt m _ _ _ hm
 obtain ⟨x1,hx1⟩:∃xs,Ints (hp W.heap) (.slice a1 len1 cap1) xs:=by obtain ⟨fuel,hf⟩:=h1;exact ints1_in Tryz.underlying34 Tryz.underlying3 c3 hf
 obtain ⟨a2,rfl,_⟩:=okWide_struct Tryz.underlying36 (hval 2 36 v2 rfl rfl);have k2:=h2;have lt2:∀x∈p2,x.block < W.heap.size:=by obtain ⟨m,hm⟩:=k2;exact DataW.trod_lt m _ _ _ hm
 obtain ⟨as2,en2,rel2⟩:∃cs,Enc Mx.shPa cs∧RelL (gAll W.heap) cs a2.toList:=by obtain ⟨fuel,hf⟩:=h2;exact (Y68 Mx.shPa).1 36 fuel _ _ Mx.shPa_ok hf
 obtain ⟨x2,rfl,hx2⟩:=Mx.shPa_read en2;obtain ⟨a3,len3,cap3,rfl⟩:=okWide_slice Tryz.underlying37 (hval 3 37 v3 rfl rfl);have k3:=h3;have lt3:∀x∈p3,x.block < W.heap.size:=by obtain ⟨m,hm⟩:=k3;exact DataW.trod_lt m _ _ _ hm
 obtain ⟨as3,en3,rel3⟩:∃cs,Enc Mx.shPxs cs∧RelL (gAll W.heap) cs [.slice a3 len3 cap3]:=by obtain ⟨fuel,hf⟩:=h3;exact (Y68 Mx.shPxs).1 37 fuel _ _ Mx.shPxs_ok hf
 obtain ⟨x3,rfl,hx3⟩:=Mx.shPxs_read en3;clear hA0 hval0;refine (law_run (Mx.X64 x0 x1 x2 x3 hx0 hx1.1.le hx2 hx3) (.one (rel_agg rel0) (.one (RelV_ints hx1) (.one (rel_agg rel2) (.one (rel3.2 0 _ _ rfl rfl) (.nil _))))) (by trivial) W rfl).mono fun e W' ⟨v,he,⟨hS,hv⟩,hsame⟩=>?_;subst he;subst hv;have bel:Below W.heap.size W W':=below_of hS hsame;exact ⟨_,rfl,_,_,_,[],_,[],hW',trodAll_mk1 (shut_bool Tryz.underlying4 _),(trodAll_cons_mk (Below.trod laidOut (by kernel_rfl) (of_decide_eq_true (by kernel_rfl)) k0 bel lt0) (trodAll_cons_mk (Below.trod laidOut (by kernel_rfl) (of_decide_eq_true (by kernel_rfl)) k1 bel lt1) (trodAll_cons_mk (Below.trod laidOut (by kernel_rfl) (of_decide_eq_true (by kernel_rfl)) k2 bel lt2) (trodAll_cons_mk (Below.trod laidOut (by kernel_rfl) (of_decide_eq_true (by kernel_rfl)) k3 bel lt3) trodAll_mk0)))),rfl,bel.frame _,fun h=>by cases h⟩
theorem Q29 {a b:Bool} (h:a=true) (k:b=true):(a&&b)=true:=by rw[h,k];rfl
theorem kinds_t {c:OpenClaim} (h:c.domain.isEmpty=true) (k:c.kinds=[]) (X:List (Option IntKind)):(c.kinds==(if c.domain.isEmpty then [] else X))=true:=by rw[h,k];rfl
theorem jf0:(Rows.machineThrottleRow.wf (OpenSpec.ofChange Rows.machineThrottleSpec))=true:=by kernel_rfl
theorem jf1:(laidOutB Tryz.prog)=true:=by kernel_rfl
theorem jf2:(mapsRowed Tryz.prog)=true:=by kernel_rfl
theorem jf3:(Tryz.f4.params.all (Tryz.prog.readableRec ·))=true:=by kernel_rfl
theorem jf4:(namedTie Tryz.prog Rows.machineThrottleRow.named Rows.machineThrottleSpec.vars)=true:=by kernel_rfl
theorem jf5:(Rows.machineThrottleRow.stops==[])=true:=by kernel_rfl
theorem jf6:(Tryz.prog.stops==[])=true:=by kernel_rfl
theorem jf7:(Rows.machineThrottleRow.knobs==[])=true:=by kernel_rfl
theorem jf8:(Tryz.prog.stopKnobs==[])=true:=by kernel_rfl
theorem jf9:(Rows.machineThrottleRow.inPlace==Tryz.prog.inPlace 4)=true:=by kernel_rfl
theorem jf10:(Rows.machineThrottleRow.unfollowed==Tryz.prog.unfollowed 4)=true:=by kernel_rfl
theorem jf11:(Rows.machineThrottleRow.recurses==Tryz.prog.recurses 4)=true:=by kernel_rfl
theorem jf12:(Rows.machineThrottleRow.named==Tryz.prog.varsNamed 4)=true:=by kernel_rfl
theorem jf13:(Rows.machineThrottleRow.maps==(Tryz.f4.params.toList++Rows.machineThrottleSpec.plain.varTypes Tryz.prog).any (Tryz.prog.mapsRec ·))=true:=by kernel_rfl
theorem jf14:(Rows.machineThrottleRow.ifaces==(Tryz.f4.params.toList++Rows.machineThrottleSpec.plain.varTypes Tryz.prog).any (Tryz.prog.ifacesRec ·))=true:=by kernel_rfl
theorem jf15:(Rows.machineThrottleRow.mapsOut==Tryz.prog.mapsAmong Tryz.f4.resultTypes.toList)=true:=by kernel_rfl
theorem jf16:(Rows.machineThrottleRow.loops==(Tryz.f4.params.toList++Rows.machineThrottleSpec.plain.varTypes Tryz.prog).any (Tryz.prog.loopsFrom ·))=true:=by kernel_rfl
theorem jf17:(Rows.machineThrottleRow.wideKeys==(Tryz.f4.params.toList++Rows.machineThrottleSpec.plain.varTypes Tryz.prog++Tryz.f4.resultTypes.toList).any (Tryz.prog.wideKeysFrom ·))=true:=by kernel_rfl
theorem jf18:(Rows.machineThrottleSpec.vars.all (Tryz.prog.varReadable ·))=true:=by kernel_rfl
theorem jf19:(Tryz.f4.resultTypes.all (fun t=>Tryz.prog.readableRec t&&decide (t < Tryz.prog.types.size)))=true:=by kernel_rfl
theorem jf20:(Rows.machineThrottleRow.ifacesOut==Tryz.f4.resultTypes.toList.any (Tryz.prog.ifacesRec ·))=true:=by kernel_rfl
theorem jf21:(Rows.machineThrottleRow.loopsOut==Tryz.f4.resultTypes.toList.any (Tryz.prog.loopsFrom ·))=true:=by kernel_rfl
theorem jf22:(Rows.machineThrottleRow.plainKeys==Tryz.prog.plainKeys)=true:=by kernel_rfl
theorem jf23:(Rows.machineThrottleRow.shortTexts.isNone)=true:=by kernel_rfl
theorem jf24:(Tryz.prog.stopsHeard)=true:=by kernel_rfl
theorem jf25:(Tryz.prog.mayEnter)=true:=by kernel_rfl
theorem jf26:(Rows.machineThrottleRow.lifted==Tryz.prog.liftsFinal)=true:=by kernel_rfl
theorem jf27:(Tryz.prog.make==some Rows.machineThrottleRow.make)=true:=by kernel_rfl
theorem jf29:(Rows.machineThrottleRow.pinned==Rows.machineThrottleRow.pinnedBy)=true:=by kernel_rfl
theorem jf30:(Rows.machineThrottleRow.veiled==(Tryz.f4.params.toList++Rows.machineThrottleSpec.plain.varTypes Tryz.prog++Tryz.f4.resultTypes.toList).any (Tryz.prog.veiledRec ·))=true:=by kernel_rfl
theorem jf31:(Rows.machineThrottleRow.veiledFits Tryz.prog Tryz.f4.params.toList (Tryz.f4.params.toList++Rows.machineThrottleSpec.plain.varTypes Tryz.prog++Tryz.f4.resultTypes.toList))=true:=by kernel_rfl
theorem closed:joinedFacts Tryz.prog 4 Tryz.f4 Rows.machineThrottleSpec Rows.machineThrottleRow=true:=by unfold joinedFacts;exact (Q29 (Q29 (Q29 (Q29 (Q29 (Q29 (Q29 (Q29 (Q29 (Q29 (Q29 (Q29 (Q29 (Q29 (Q29 (Q29 (Q29 (Q29 (Q29 (Q29 (Q29 (Q29 (Q29 (Q29 (Q29 (Q29 (Q29 (Q29 (Q29 (Q29 (Q29 jf0 jf1) jf2) jf3) jf4) jf5) jf6) jf7) jf8) jf9) jf10) jf11) jf12) jf13) jf14) jf15) jf16) jf17) jf18) jf19) jf20) jf21) jf22) jf23) jf24) jf25) jf26) jf27) (kinds_t rfl rfl _)) jf29) jf30) jf31)
theorem named:Tryz.prog.funcNamed Rows.machineThrottleRow.func=some 4:=by kernel_rfl
theorem over:Rows.machineThrottleRow.holds Tryz.pinned (OpenSpec.ofChange Rows.machineThrottleSpec):=
 OpenClaim.holds_of_wide 4 Tryz.f4 rfl rfl rfl rfl rfl rfl rfl ⟨rfl,rfl,rfl,rfl,rfl⟩ rfl rfl rfl rfl rfl named Tryz.func4 closed
  (of_decide_eq_true (by kernel_rfl)) (by unfold Func.isWrapper;first|(rw[if_pos (by decide +kernel)];kernel_rfl)|(rw[if_neg (by decide +kernel)];exact ⟨rfl,rfl⟩))
  (fun os started H enc _=>lifted os started H enc)
theorem machineThrottle_proved:Rows.MachineThrottleSaid:=over
end Go.Proofs.YtelibaobkcokdaaGreat
