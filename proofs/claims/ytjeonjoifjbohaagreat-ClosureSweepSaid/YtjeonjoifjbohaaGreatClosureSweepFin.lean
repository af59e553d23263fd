/- ClosureSweep: its statement. -/
import Derived.Test.YtjeonjoifjbohaaGreatClosureSweepP7
namespace Go.Proofs.YtjeonjoifjbohaaGreat
set_option linter.unusedSimpArgs false
set_option linter.unusedVariables false
set_option linter.unnecessarySimpa false
set_option linter.unusedSectionVars false
open Go.ChangeShapes Go.WideShapes Go.ChangeAt Go.RowKit

theorem closureSweep_readsBytes:Tryz.prog.readableRec 22=true:=by kernel_rfl
theorem closureSweep_rowsBytes:22<Tryz.prog.types.size:=of_decide_eq_true (by kernel_rfl)
theorem closureSweep_readsInt:Tryz.prog.readableRec 64=true:=by kernel_rfl
theorem closureSweep_rowsInt:64<Tryz.prog.types.size:=of_decide_eq_true (by kernel_rfl)
theorem closureSweep_own:ownKnob Tryz.prog.godebug=none:=by kernel_rfl

set_option maxRecDepth 100000 in
theorem closureSweep_lifted(os:Os)(started:os.Started)(H:Type)(enc:TypeId×Value->H):
 ReturnsInHanded {} Tryz.checked os 7 .any (Rows.closureSweepSpec.pre6 enc Tryz.prog Tryz.f7 Rows.closureSweepRow.domain false) (Rows.closureSweepSpec.post enc Tryz.prog Tryz.f7 false true false false):=by
 refine returnsInHanded_of_change (C:=Tryz.checked) closureSweep_own started (by kernel_rfl) Tryz.func7
  (ChangeSpec.witness6 (enc:=enc) (C:=Tryz.checked) false ⟨#[],#[.int .i64 0,.slice none 0 0,.slice none 0 0],[]⟩ 8 (by kernel_rfl) (by kernel_rfl) (by kernel_rfl) (by kernel_rfl)) ?_
 intro W base args ds gs before hval0 hW hcnd _
 have hval:∀(j:Nat) t v,Tryz.f7.params[j]?=some t->args[j]?=some v->Value.okWide Tryz.prog W .any base t v:=hval0
 have hW':=hW
 obtain⟨p,q,hA0,hV,rfl,hfz,hnd⟩:=hW
 have hA:DataW.TrodAll enc Tryz.prog W 0 (fun _=>true) true Tryz.f7.params.toList args.toList ds p:=hA0
 rw[Tryz.params7]at hA hval
 obtain⟨v0,vs0,d0,ds0,p0,q0,hargs,rfl,rfl,h0,r0⟩:=trodAll_cons hA
 obtain⟨v1,vs1,d1,ds1,p1,q1,rfl,rfl,rfl,h1,r1⟩:=trodAll_cons r0
 obtain⟨v2,vs2,d2,ds2,p2,q2,rfl,rfl,rfl,h2,r2⟩:=trodAll_cons r1
 obtain⟨rfl,rfl,rfl⟩:=trodAll_nil r2
 obtain rfl:args=#[v0,v1,v2]:=by cases args;simp_all
 obtain⟨rfl,rfl⟩:=trodVars_none hV
 obtain⟨a0,rfl,rfl,rfl,w0⟩:=open_int Tryz.underlying3 (hval 0 3 v0 rfl rfl) h0
 obtain⟨a1,w1⟩:=open_listsC (hval 1 22 v1 rfl rfl) h1
 obtain⟨a2,w2⟩:=open_numsC (hval 2 64 v2 rfl rfl) h2
 clear hA0 hval0
 simp only[List.append_nil,List.nil_append]at hW'
 refine(closureSweep_any W a0 v1 a1 v2 a2 (fit_i64 w0) w1 w2).mono fun e W' ⟨he,hm⟩=>?_
 subst he
 exact⟨_,rfl,post_of_mod (pv:=[]) hW' hm (fun _=>(trodAll_cons_mk (shut_bool Tryz.underlying4 _) trodAll_mk0))
  (trodAll_cons_mk (shut_int Tryz.underlying3 w0) (trodAll_cons_mk (carry closureSweep_readsBytes closureSweep_rowsBytes hm h1) (trodAll_cons_mk (carry closureSweep_readsInt closureSweep_rowsInt hm h2) trodAll_mk0))) (by rfl)⟩

theorem closureSweep_band{a b:Bool}(h:a=true)(k:b=true):(a&&b)=true:=by rw[h,k];rfl
theorem closureSweep_k0:Rows.closureSweepRow.wf (OpenSpec.ofChange Rows.closureSweepSpec)=true:=by kernel_rfl
theorem closureSweep_k1:laidOutB Tryz.prog=true:=by kernel_rfl
theorem closureSweep_k2:mapsRowed Tryz.prog=true:=by kernel_rfl
theorem closureSweep_k3:Tryz.f7.params.all (Tryz.prog.readableRec ·)=true:=by kernel_rfl
theorem closureSweep_k4:namedTie Tryz.prog Rows.closureSweepRow.named Rows.closureSweepSpec.vars=true:=by kernel_rfl
theorem closureSweep_k5:(Rows.closureSweepRow.stops==[])=true:=by kernel_rfl
theorem closureSweep_k6:(Tryz.prog.stops==[])=true:=by kernel_rfl
theorem closureSweep_k7:(Rows.closureSweepRow.knobs==[])=true:=by kernel_rfl
theorem closureSweep_k8:(Tryz.prog.stopKnobs==[])=true:=by kernel_rfl
theorem closureSweep_k9:(Rows.closureSweepRow.inPlace==Tryz.prog.inPlace 7)=true:=by kernel_rfl
theorem closureSweep_k10:(Rows.closureSweepRow.unfollowed==Tryz.prog.unfollowed 7)=true:=by kernel_rfl
theorem closureSweep_k11:(Rows.closureSweepRow.recurses==Tryz.prog.recurses 7)=true:=by kernel_rfl
theorem closureSweep_k12:(Rows.closureSweepRow.named==Tryz.prog.varsNamed 7)=true:=by kernel_rfl
theorem closureSweep_k13:(Rows.closureSweepRow.maps==(Tryz.f7.params.toList++Rows.closureSweepSpec.plain.varTypes Tryz.prog).any (Tryz.prog.mapsRec ·))=true:=by kernel_rfl
theorem closureSweep_k14:(Rows.closureSweepRow.ifaces==(Tryz.f7.params.toList++Rows.closureSweepSpec.plain.varTypes Tryz.prog).any (Tryz.prog.ifacesRec ·))=true:=by kernel_rfl
theorem closureSweep_k15:(Rows.closureSweepRow.mapsOut==Tryz.prog.mapsAmong Tryz.f7.resultTypes.toList)=true:=by kernel_rfl
theorem closureSweep_k16:(Rows.closureSweepRow.loops==(Tryz.f7.params.toList++Rows.closureSweepSpec.plain.varTypes Tryz.prog).any (Tryz.prog.loopsFrom ·))=true:=by kernel_rfl
theorem closureSweep_k17:(Rows.closureSweepRow.wideKeys==(Tryz.f7.params.toList++Rows.closureSweepSpec.plain.varTypes Tryz.prog++Tryz.f7.resultTypes.toList).any (Tryz.prog.wideKeysFrom ·))=true:=by kernel_rfl
theorem closureSweep_k18:Rows.closureSweepSpec.vars.all (Tryz.prog.varReadable ·)=true:=by kernel_rfl
theorem closureSweep_k19:Tryz.f7.resultTypes.all (fun t=>Tryz.prog.readableRec t&&decide (t<Tryz.prog.types.size))=true:=by kernel_rfl
theorem closureSweep_k20:(Rows.closureSweepRow.ifacesOut==Tryz.f7.resultTypes.toList.any (Tryz.prog.ifacesRec ·))=true:=by kernel_rfl
theorem closureSweep_k21:(Rows.closureSweepRow.loopsOut==Tryz.f7.resultTypes.toList.any (Tryz.prog.loopsFrom ·))=true:=by kernel_rfl
theorem closureSweep_k22:(Rows.closureSweepRow.plainKeys==Tryz.prog.plainKeys)=true:=by kernel_rfl
theorem closureSweep_k23:Rows.closureSweepRow.shortTexts.isNone=true:=by kernel_rfl
theorem closureSweep_k24:Tryz.prog.stopsHeard=true:=by kernel_rfl
theorem closureSweep_k25:Tryz.prog.mayEnter=true:=by kernel_rfl
theorem closureSweep_k26:(Rows.closureSweepRow.lifted==Tryz.prog.liftsFinal)=true:=by kernel_rfl
theorem closureSweep_k27:(Tryz.prog.make==some Rows.closureSweepRow.make)=true:=by kernel_rfl
theorem closureSweep_k29:(Rows.closureSweepRow.pinned==Rows.closureSweepRow.pinnedBy)=true:=by kernel_rfl
theorem closureSweep_k30:(Rows.closureSweepRow.veiled==(Tryz.f7.params.toList++Rows.closureSweepSpec.plain.varTypes Tryz.prog++Tryz.f7.resultTypes.toList).any (Tryz.prog.veiledRec ·))=true:=by kernel_rfl
theorem closureSweep_k31:Rows.closureSweepRow.veiledFits Tryz.prog Tryz.f7.params.toList (Tryz.f7.params.toList++Rows.closureSweepSpec.plain.varTypes Tryz.prog++Tryz.f7.resultTypes.toList)=true:=by kernel_rfl
theorem closureSweep_closed:joinedFacts Tryz.prog 7 Tryz.f7 Rows.closureSweepSpec Rows.closureSweepRow=true:=by
 unfold joinedFacts
 exact closureSweep_band (closureSweep_band (closureSweep_band (closureSweep_band (closureSweep_band (closureSweep_band (closureSweep_band (closureSweep_band (closureSweep_band (closureSweep_band (closureSweep_band (closureSweep_band (closureSweep_band (closureSweep_band (closureSweep_band (closureSweep_band (closureSweep_band (closureSweep_band (closureSweep_band (closureSweep_band (closureSweep_band (closureSweep_band (closureSweep_band (closureSweep_band (closureSweep_band (closureSweep_band (closureSweep_band (closureSweep_band (closureSweep_band (closureSweep_band (closureSweep_band closureSweep_k0 closureSweep_k1) closureSweep_k2) closureSweep_k3) closureSweep_k4) closureSweep_k5) closureSweep_k6) closureSweep_k7) closureSweep_k8) closureSweep_k9) closureSweep_k10) closureSweep_k11) closureSweep_k12) closureSweep_k13) closureSweep_k14) closureSweep_k15) closureSweep_k16) closureSweep_k17) closureSweep_k18) closureSweep_k19) closureSweep_k20) closureSweep_k21) closureSweep_k22) closureSweep_k23) closureSweep_k24) closureSweep_k25) closureSweep_k26) closureSweep_k27) (by kernel_rfl)) closureSweep_k29) closureSweep_k30) closureSweep_k31
theorem closureSweep_named:Tryz.prog.funcNamed Rows.closureSweepRow.func=some 7:=by kernel_rfl
theorem closureSweep_inst:Tryz.f7.isInstance Tryz.prog Rows.closureSweepRow.origin Rows.closureSweepRow.targs:=of_decide_eq_true (by kernel_rfl)
theorem closureSweep_wrap:Tryz.f7.isWrapper Tryz.prog Rows.closureSweepRow.wrapper Rows.closureSweepRow.mainSum:=by unfold Func.isWrapper;first|(rw[if_pos (by decide+kernel)];kernel_rfl)|(rw[if_neg (by decide+kernel)];exact⟨rfl,rfl⟩)

theorem closureSweep_over:Rows.closureSweepRow.holds Tryz.pinned (OpenSpec.ofChange Rows.closureSweepSpec):=
 OpenClaim.holds_of_wide 7 Tryz.f7 rfl rfl rfl rfl rfl rfl rfl ⟨rfl,rfl,rfl,rfl,rfl⟩ rfl rfl rfl rfl rfl closureSweep_named Tryz.func7 closureSweep_closed
  closureSweep_inst closureSweep_wrap
  (fun os started H enc _=>closureSweep_lifted os started H enc)

theorem closureSweep_proved:Rows.ClosureSweepSaid:=
 closureSweep_over
#print axioms closureSweep_proved
end Go.Proofs.YtjeonjoifjbohaaGreat
