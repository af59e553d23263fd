/- ClosureNone: its statement. -/
import Derived.Test.YtjeonjoifjbohaaGreatClosureNoneP7
namespace Go.Proofs.YtjeonjoifjbohaaGreat
set_option linter.unusedSimpArgs false
set_option linter.unusedVariables false
set_option linter.unnecessarySimpa false
set_option linter.unusedSectionVars false
open Go.ChangeShapes Go.WideShapes Go.ChangeAt Go.RowKit

theorem closureNone_readID:Tryz.prog.readableRec 24=true:=by kernel_rfl
theorem closureNone_rowID:24<Tryz.prog.types.size:=of_decide_eq_true (by kernel_rfl)
theorem closureNone_own:ownKnob Tryz.prog.godebug=none:=by kernel_rfl

set_option maxRecDepth 100000 in
theorem closureNone_lifted(os:Os)(started:os.Started)(H:Type)(enc:TypeId×Value->H):
 ReturnsInHanded {} Tryz.checked os 4 .any (Rows.closureNoneSpec.pre6 enc Tryz.prog Tryz.f4 Rows.closureNoneRow.domain false) (Rows.closureNoneSpec.post enc Tryz.prog Tryz.f4 false true false false):=by
 refine returnsInHanded_of_change (C:=Tryz.checked) closureNone_own started (by kernel_rfl) Tryz.func4
  (ChangeSpec.witness6 (enc:=enc) (C:=Tryz.checked) false ⟨#[],#[.agg #[.int .u8 0,.int .u8 0,.int .u8 0,.int .u8 0,.int .u8 0,.int .u8 0,.int .u8 0,.int .u8 0,.int .u8 0,.int .u8 0,.int .u8 0,.int .u8 0,.int .u8 0,.int .u8 0,.int .u8 0,.int .u8 0,.int .u8 0,.int .u8 0,.int .u8 0,.int .u8 0,.int .u8 0,.int .u8 0,.int .u8 0,.int .u8 0,.int .u8 0,.int .u8 0,.int .u8 0,.int .u8 0,.int .u8 0,.int .u8 0,.int .u8 0,.int .u8 0]],[]⟩ 8 (by kernel_rfl) (by kernel_rfl) (by kernel_rfl) (by kernel_rfl)) ?_
 intro W base args ds gs before hval0 hW hcnd _
 have hval:∀(j:Nat) t v,Tryz.f4.params[j]?=some t->args[j]?=some v->Value.okWide Tryz.prog W .any base t v:=hval0
 have hW':=hW
 obtain⟨p,q,hA0,hV,rfl,hfz,hnd⟩:=hW
 have hA:DataW.TrodAll enc Tryz.prog W 0 (fun _=>true) true Tryz.f4.params.toList args.toList ds p:=hA0
 rw[Tryz.params4]at hA hval
 obtain⟨v0,vs0,d0,ds0,p0,q0,hargs,rfl,rfl,h0,r0⟩:=trodAll_cons hA
 obtain⟨rfl,rfl,rfl⟩:=trodAll_nil r0
 obtain rfl:args=#[v0]:=by cases args;simp_all
 obtain⟨rfl,rfl⟩:=trodVars_none hV
 obtain⟨a0,rfl,w0⟩:=open_id (hval 0 24 v0 rfl rfl) h0
 clear hA0 hval0
 simp only[List.append_nil,List.nil_append]at hW'
 refine(closureNone_any W a0 w0).mono fun e W' ⟨he,hm⟩=>?_
 subst he
 exact⟨_,rfl,post_of_mod (pv:=[]) hW' hm (fun _=>(trodAll_cons_mk (shut_bool Tryz.underlying4 _) trodAll_mk0))
  (trodAll_cons_mk (carry closureNone_readID closureNone_rowID hm h0) trodAll_mk0) (by rfl)⟩

theorem closureNone_band{a b:Bool}(h:a=true)(k:b=true):(a&&b)=true:=by rw[h,k];rfl
theorem closureNone_k0:Rows.closureNoneRow.wf (OpenSpec.ofChange Rows.closureNoneSpec)=true:=by kernel_rfl
theorem closureNone_k1:laidOutB Tryz.prog=true:=by kernel_rfl
theorem closureNone_k2:mapsRowed Tryz.prog=true:=by kernel_rfl
theorem closureNone_k3:Tryz.f4.params.all (Tryz.prog.readableRec ·)=true:=by kernel_rfl
theorem closureNone_k4:namedTie Tryz.prog Rows.closureNoneRow.named Rows.closureNoneSpec.vars=true:=by kernel_rfl
theorem closureNone_k5:(Rows.closureNoneRow.stops==[])=true:=by kernel_rfl
theorem closureNone_k6:(Tryz.prog.stops==[])=true:=by kernel_rfl
theorem closureNone_k7:(Rows.closureNoneRow.knobs==[])=true:=by kernel_rfl
theorem closureNone_k8:(Tryz.prog.stopKnobs==[])=true:=by kernel_rfl
theorem closureNone_k9:(Rows.closureNoneRow.inPlace==Tryz.prog.inPlace 4)=true:=by kernel_rfl
theorem closureNone_k10:(Rows.closureNoneRow.unfollowed==Tryz.prog.unfollowed 4)=true:=by kernel_rfl
theorem closureNone_k11:(Rows.closureNoneRow.recurses==Tryz.prog.recurses 4)=true:=by kernel_rfl
theorem closureNone_k12:(Rows.closureNoneRow.named==Tryz.prog.varsNamed 4)=true:=by kernel_rfl
theorem closureNone_k13:(Rows.closureNoneRow.maps==(Tryz.f4.params.toList++Rows.closureNoneSpec.plain.varTypes Tryz.prog).any (Tryz.prog.mapsRec ·))=true:=by kernel_rfl
theorem closureNone_k14:(Rows.closureNoneRow.ifaces==(Tryz.f4.params.toList++Rows.closureNoneSpec.plain.varTypes Tryz.prog).any (Tryz.prog.ifacesRec ·))=true:=by kernel_rfl
theorem closureNone_k15:(Rows.closureNoneRow.mapsOut==Tryz.prog.mapsAmong Tryz.f4.resultTypes.toList)=true:=by kernel_rfl
theorem closureNone_k16:(Rows.closureNoneRow.loops==(Tryz.f4.params.toList++Rows.closureNoneSpec.plain.varTypes Tryz.prog).any (Tryz.prog.loopsFrom ·))=true:=by kernel_rfl
theorem closureNone_k17:(Rows.closureNoneRow.wideKeys==(Tryz.f4.params.toList++Rows.closureNoneSpec.plain.varTypes Tryz.prog++Tryz.f4.resultTypes.toList).any (Tryz.prog.wideKeysFrom ·))=true:=by kernel_rfl
theorem closureNone_k18:Rows.closureNoneSpec.vars.all (Tryz.prog.varReadable ·)=true:=by kernel_rfl
theorem closureNone_k19:Tryz.f4.resultTypes.all (fun t=>Tryz.prog.readableRec t&&decide (t<Tryz.prog.types.size))=true:=by kernel_rfl
theorem closureNone_k20:(Rows.closureNoneRow.ifacesOut==Tryz.f4.resultTypes.toList.any (Tryz.prog.ifacesRec ·))=true:=by kernel_rfl
theorem closureNone_k21:(Rows.closureNoneRow.loopsOut==Tryz.f4.resultTypes.toList.any (Tryz.prog.loopsFrom ·))=true:=by kernel_rfl
theorem closureNone_k22:(Rows.closureNoneRow.plainKeys==Tryz.prog.plainKeys)=true:=by kernel_rfl
theorem closureNone_k23:Rows.closureNoneRow.shortTexts.isNone=true:=by kernel_rfl
theorem closureNone_k24:Tryz.prog.stopsHeard=true:=by kernel_rfl
theorem closureNone_k25:Tryz.prog.mayEnter=true:=by kernel_rfl
theorem closureNone_k26:(Rows.closureNoneRow.lifted==Tryz.prog.liftsFinal)=true:=by kernel_rfl
theorem closureNone_k27:(Tryz.prog.make==some Rows.closureNoneRow.make)=true:=by kernel_rfl
theorem closureNone_k29:(Rows.closureNoneRow.pinned==Rows.closureNoneRow.pinnedBy)=true:=by kernel_rfl
theorem closureNone_k30:(Rows.closureNoneRow.veiled==(Tryz.f4.params.toList++Rows.closureNoneSpec.plain.varTypes Tryz.prog++Tryz.f4.resultTypes.toList).any (Tryz.prog.veiledRec ·))=true:=by kernel_rfl
theorem closureNone_k31:Rows.closureNoneRow.veiledFits Tryz.prog Tryz.f4.params.toList (Tryz.f4.params.toList++Rows.closureNoneSpec.plain.varTypes Tryz.prog++Tryz.f4.resultTypes.toList)=true:=by kernel_rfl
theorem closureNone_closed:joinedFacts Tryz.prog 4 Tryz.f4 Rows.closureNoneSpec Rows.closureNoneRow=true:=by
 unfold joinedFacts
 exact closureNone_band (closureNone_band (closureNone_band (closureNone_band (closureNone_band (closureNone_band (closureNone_band (closureNone_band (closureNone_band (closureNone_band (closureNone_band (closureNone_band (closureNone_band (closureNone_band (closureNone_band (closureNone_band (closureNone_band (closureNone_band (closureNone_band (closureNone_band (closureNone_band (closureNone_band (closureNone_band (closureNone_band (closureNone_band (closureNone_band (closureNone_band (closureNone_band (closureNone_band (closureNone_band (closureNone_band closureNone_k0 closureNone_k1) closureNone_k2) closureNone_k3) closureNone_k4) closureNone_k5) closureNone_k6) closureNone_k7) closureNone_k8) closureNone_k9) closureNone_k10) closureNone_k11) closureNone_k12) closureNone_k13) closureNone_k14) closureNone_k15) closureNone_k16) closureNone_k17) closureNone_k18) closureNone_k19) closureNone_k20) closureNone_k21) closureNone_k22) closureNone_k23) closureNone_k24) closureNone_k25) closureNone_k26) closureNone_k27) (by kernel_rfl)) closureNone_k29) closureNone_k30) closureNone_k31
theorem closureNone_named:Tryz.prog.funcNamed Rows.closureNoneRow.func=some 4:=by kernel_rfl
theorem closureNone_inst:Tryz.f4.isInstance Tryz.prog Rows.closureNoneRow.origin Rows.closureNoneRow.targs:=of_decide_eq_true (by kernel_rfl)
theorem closureNone_wrap:Tryz.f4.isWrapper Tryz.prog Rows.closureNoneRow.wrapper Rows.closureNoneRow.mainSum:=by unfold Func.isWrapper;first|(rw[if_pos (by decide+kernel)];kernel_rfl)|(rw[if_neg (by decide+kernel)];exact⟨rfl,rfl⟩)

theorem closureNone_over:Rows.closureNoneRow.holds Tryz.pinned (OpenSpec.ofChange Rows.closureNoneSpec):=
 OpenClaim.holds_of_wide 4 Tryz.f4 rfl rfl rfl rfl rfl rfl rfl ⟨rfl,rfl,rfl,rfl,rfl⟩ rfl rfl rfl rfl rfl closureNone_named Tryz.func4 closureNone_closed
  closureNone_inst closureNone_wrap
  (fun os started H enc _=>closureNone_lifted os started H enc)

theorem closureNone_proved:Rows.ClosureNoneSaid:=
 closureNone_over
#print axioms closureNone_proved
end Go.Proofs.YtjeonjoifjbohaaGreat
