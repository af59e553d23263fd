/- ClosureKnown: its statement. -/
import Derived.WalkKit
import Derived.ProofKit
import Derived.OpenShut
import Derived.Test.YtjeonjoifjbohaaGreatClosureKnownP7
namespace Go.Proofs.YtjeonjoifjbohaaGreat
set_option linter.unusedSimpArgs false
set_option linter.unusedVariables false
set_option linter.unnecessarySimpa false
set_option linter.unusedSectionVars false
open Go.ChangeShapes Go.WideShapes Go.ChangeAt Go.RowKit

theorem closureKnown_own:ownKnob Tryz.prog.godebug=none:=by kernel_rfl

set_option maxRecDepth 100000 in
theorem closureKnown_lifted(os:Os)(started:os.Started)(H:Type)(enc:TypeId×Value->H):
 ReturnsInHanded {} Tryz.checked os 5 .any (Rows.closureKnownSpec.pre6 enc Tryz.prog Tryz.f5 Rows.closureKnownRow.domain false) (Rows.closureKnownSpec.post enc Tryz.prog Tryz.f5 false true false false):=by
 refine returnsInHanded_of_change (C:=Tryz.checked) closureKnown_own started (by kernel_rfl) Tryz.func5
  (ChangeSpec.witness6 (enc:=enc) (C:=Tryz.checked) false ⟨#[],#[],[]⟩ 8 (by kernel_rfl) (by kernel_rfl) (by kernel_rfl) (by kernel_rfl)) ?_
 intro W base args ds gs before hval0 hW hcnd _
 have hval:∀(j:Nat) t v,Tryz.f5.params[j]?=some t->args[j]?=some v->Value.okWide Tryz.prog W .any base t v:=hval0
 have hW':=hW
 obtain⟨p,q,hA0,hV,rfl,hfz,hnd⟩:=hW
 have hA:DataW.TrodAll enc Tryz.prog W 0 (fun _=>true) true Tryz.f5.params.toList args.toList ds p:=hA0
 rw[Tryz.params5]at hA hval
 obtain⟨rfl,rfl,rfl⟩:=trodAll_none hA
 obtain⟨rfl,rfl⟩:=trodVars_none hV
 clear hA0 hval0
 simp only[List.append_nil]at hW'
 refine(closureKnown_any W ).mono fun e W' ⟨he,hm⟩=>?_
 subst he
 exact⟨_,rfl,post_of_mod (pa:=[]) (pv:=[]) hW' hm (fun _=>(trodAll_cons_mk (shut_bool Tryz.underlying4 _) trodAll_mk0)) (by rfl) (by rfl)⟩

theorem closureKnown_band{a b:Bool}(h:a=true)(k:b=true):(a&&b)=true:=by rw[h,k];rfl
theorem closureKnown_k0:Rows.closureKnownRow.wf (OpenSpec.ofChange Rows.closureKnownSpec)=true:=by kernel_rfl
theorem closureKnown_k1:laidOutB Tryz.prog=true:=by kernel_rfl
theorem closureKnown_k2:mapsRowed Tryz.prog=true:=by kernel_rfl
theorem closureKnown_k3:Tryz.f5.params.all (Tryz.prog.readableRec ·)=true:=by kernel_rfl
theorem closureKnown_k4:namedTie Tryz.prog Rows.closureKnownRow.named Rows.closureKnownSpec.vars=true:=by kernel_rfl
theorem closureKnown_k5:(Rows.closureKnownRow.stops==[])=true:=by kernel_rfl
theorem closureKnown_k6:(Tryz.prog.stops==[])=true:=by kernel_rfl
theorem closureKnown_k7:(Rows.closureKnownRow.knobs==[])=true:=by kernel_rfl
theorem closureKnown_k8:(Tryz.prog.stopKnobs==[])=true:=by kernel_rfl
theorem closureKnown_k9:(Rows.closureKnownRow.inPlace==Tryz.prog.inPlace 5)=true:=by kernel_rfl
theorem closureKnown_k10:(Rows.closureKnownRow.unfollowed==Tryz.prog.unfollowed 5)=true:=by kernel_rfl
theorem closureKnown_k11:(Rows.closureKnownRow.recurses==Tryz.prog.recurses 5)=true:=by kernel_rfl
theorem closureKnown_k12:(Rows.closureKnownRow.named==Tryz.prog.varsNamed 5)=true:=by kernel_rfl
theorem closureKnown_k13:(Rows.closureKnownRow.maps==(Tryz.f5.params.toList++Rows.closureKnownSpec.plain.varTypes Tryz.prog).any (Tryz.prog.mapsRec ·))=true:=by kernel_rfl
theorem closureKnown_k14:(Rows.closureKnownRow.ifaces==(Tryz.f5.params.toList++Rows.closureKnownSpec.plain.varTypes Tryz.prog).any (Tryz.prog.ifacesRec ·))=true:=by kernel_rfl
theorem closureKnown_k15:(Rows.closureKnownRow.mapsOut==Tryz.prog.mapsAmong Tryz.f5.resultTypes.toList)=true:=by kernel_rfl
theorem closureKnown_k16:(Rows.closureKnownRow.loops==(Tryz.f5.params.toList++Rows.closureKnownSpec.plain.varTypes Tryz.prog).any (Tryz.prog.loopsFrom ·))=true:=by kernel_rfl
theorem closureKnown_k17:(Rows.closureKnownRow.wideKeys==(Tryz.f5.params.toList++Rows.closureKnownSpec.plain.varTypes Tryz.prog++Tryz.f5.resultTypes.toList).any (Tryz.prog.wideKeysFrom ·))=true:=by kernel_rfl
theorem closureKnown_k18:Rows.closureKnownSpec.vars.all (Tryz.prog.varReadable ·)=true:=by kernel_rfl
theorem closureKnown_k19:Tryz.f5.resultTypes.all (fun t=>Tryz.prog.readableRec t&&decide (t<Tryz.prog.types.size))=true:=by kernel_rfl
theorem closureKnown_k20:(Rows.closureKnownRow.ifacesOut==Tryz.f5.resultTypes.toList.any (Tryz.prog.ifacesRec ·))=true:=by kernel_rfl
theorem closureKnown_k21:(Rows.closureKnownRow.loopsOut==Tryz.f5.resultTypes.toList.any (Tryz.prog.loopsFrom ·))=true:=by kernel_rfl
theorem closureKnown_k22:(Rows.closureKnownRow.plainKeys==Tryz.prog.plainKeys)=true:=by kernel_rfl
theorem closureKnown_k23:Rows.closureKnownRow.shortTexts.isNone=true:=by kernel_rfl
theorem closureKnown_k24:Tryz.prog.stopsHeard=true:=by kernel_rfl
theorem closureKnown_k25:Tryz.prog.mayEnter=true:=by kernel_rfl
theorem closureKnown_k26:(Rows.closureKnownRow.lifted==Tryz.prog.liftsFinal)=true:=by kernel_rfl
theorem closureKnown_k27:(Tryz.prog.make==some Rows.closureKnownRow.make)=true:=by kernel_rfl
theorem closureKnown_k29:(Rows.closureKnownRow.pinned==Rows.closureKnownRow.pinnedBy)=true:=by kernel_rfl
theorem closureKnown_k30:(Rows.closureKnownRow.veiled==(Tryz.f5.params.toList++Rows.closureKnownSpec.plain.varTypes Tryz.prog++Tryz.f5.resultTypes.toList).any (Tryz.prog.veiledRec ·))=true:=by kernel_rfl
theorem closureKnown_k31:Rows.closureKnownRow.veiledFits Tryz.prog Tryz.f5.params.toList (Tryz.f5.params.toList++Rows.closureKnownSpec.plain.varTypes Tryz.prog++Tryz.f5.resultTypes.toList)=true:=by kernel_rfl
theorem closureKnown_closed:joinedFacts Tryz.prog 5 Tryz.f5 Rows.closureKnownSpec Rows.closureKnownRow=true:=by
 unfold joinedFacts
 exact closureKnown_band (closureKnown_band (closureKnown_band (closureKnown_band (closureKnown_band (closureKnown_band (closureKnown_band (closureKnown_band (closureKnown_band (closureKnown_band (closureKnown_band (closureKnown_band (closureKnown_band (closureKnown_band (closureKnown_band (closureKnown_band (closureKnown_band (closureKnown_band (closureKnown_band (closureKnown_band (closureKnown_band (closureKnown_band (closureKnown_band (closureKnown_band (closureKnown_band (closureKnown_band (closureKnown_band (closureKnown_band (closureKnown_band (closureKnown_band (closureKnown_band closureKnown_k0 closureKnown_k1) closureKnown_k2) closureKnown_k3) closureKnown_k4) closureKnown_k5) closureKnown_k6) closureKnown_k7) closureKnown_k8) closureKnown_k9) closureKnown_k10) closureKnown_k11) closureKnown_k12) closureKnown_k13) closureKnown_k14) closureKnown_k15) closureKnown_k16) closureKnown_k17) closureKnown_k18) closureKnown_k19) closureKnown_k20) closureKnown_k21) closureKnown_k22) closureKnown_k23) closureKnown_k24) closureKnown_k25) closureKnown_k26) closureKnown_k27) (by kernel_rfl)) closureKnown_k29) closureKnown_k30) closureKnown_k31
theorem closureKnown_named:Tryz.prog.funcNamed Rows.closureKnownRow.func=some 5:=by kernel_rfl
theorem closureKnown_inst:Tryz.f5.isInstance Tryz.prog Rows.closureKnownRow.origin Rows.closureKnownRow.targs:=of_decide_eq_true (by kernel_rfl)
theorem closureKnown_wrap:Tryz.f5.isWrapper Tryz.prog Rows.closureKnownRow.wrapper Rows.closureKnownRow.mainSum:=by unfold Func.isWrapper;first|(rw[if_pos (by decide+kernel)];kernel_rfl)|(rw[if_neg (by decide+kernel)];exact⟨rfl,rfl⟩)

theorem closureKnown_over:Rows.closureKnownRow.holds Tryz.pinned (OpenSpec.ofChange Rows.closureKnownSpec):=
 OpenClaim.holds_of_wide 5 Tryz.f5 rfl rfl rfl rfl rfl rfl rfl ⟨rfl,rfl,rfl,rfl,rfl⟩ rfl rfl rfl rfl rfl closureKnown_named Tryz.func5 closureKnown_closed
  closureKnown_inst closureKnown_wrap
  (fun os started H enc _=>closureKnown_lifted os started H enc)

theorem closureKnown_proved:Rows.ClosureKnownSaid:=
 closureKnown_over
#print axioms closureKnown_proved
end Go.Proofs.YtjeonjoifjbohaaGreat
