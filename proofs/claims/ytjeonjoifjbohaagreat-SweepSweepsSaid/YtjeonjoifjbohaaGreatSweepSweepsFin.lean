/- SweepSweeps: its statement. -/
import Derived.Test.YtjeonjoifjbohaaGreatSweepSweepsP8
namespace Go.Proofs.YtjeonjoifjbohaaGreat
set_option linter.unusedSimpArgs false
set_option linter.unusedVariables false
set_option linter.unnecessarySimpa false
set_option linter.unusedSectionVars false
open Go.ChangeShapes Go.WideShapes Go.ChangeAt Go.RowKit

theorem sweepSweeps_readHouse:Tryz.prog.readableRec 68=true:=by kernel_rfl
theorem sweepSweeps_rowHouse:68<Tryz.prog.types.size:=of_decide_eq_true (by kernel_rfl)
theorem sweepSweeps_readsID:Tryz.prog.readableRec 25=true:=by kernel_rfl
theorem sweepSweeps_rowsID:25<Tryz.prog.types.size:=of_decide_eq_true (by kernel_rfl)
theorem sweepSweeps_readsEvent:Tryz.prog.readableRec 72=true:=by kernel_rfl
theorem sweepSweeps_rowsEvent:72<Tryz.prog.types.size:=of_decide_eq_true (by kernel_rfl)
theorem sweepSweeps_readsInt:Tryz.prog.readableRec 64=true:=by kernel_rfl
theorem sweepSweeps_rowsInt:64<Tryz.prog.types.size:=of_decide_eq_true (by kernel_rfl)
theorem sweepSweeps_own:ownKnob Tryz.prog.godebug=none:=by kernel_rfl

set_option maxRecDepth 100000 in
theorem sweepSweeps_lifted(os:Os)(started:os.Started)(H:Type)(enc:TypeId×Value->H):
 ReturnsInHanded {} Tryz.checked os 13 .any (Rows.sweepSweepsSpec.pre6 enc Tryz.prog Tryz.f13 Rows.sweepSweepsRow.domain false) (Rows.sweepSweepsSpec.post enc Tryz.prog Tryz.f13 false true false false):=by
 refine returnsInHanded_of_change (C:=Tryz.checked) sweepSweeps_own started (by kernel_rfl) Tryz.func13
  (ChangeSpec.witness6 (enc:=enc) (C:=Tryz.checked) false ⟨#[],#[.agg #[.int .i64 0,.slice none 0 0,.slice none 0 0],.slice none 0 0,.slice none 0 0,.slice none 0 0],[]⟩ 8 (by kernel_rfl) (by kernel_rfl) (by kernel_rfl) (by kernel_rfl)) ?_
 intro W base args ds gs before hval0 hW hcnd _
 have hval:∀(j:Nat) t v,Tryz.f13.params[j]?=some t->args[j]?=some v->Value.okWide Tryz.prog W .any base t v:=hval0
 have hW':=hW
 obtain⟨p,q,hA0,hV,rfl,hfz,hnd⟩:=hW
 have hA:DataW.TrodAll enc Tryz.prog W 0 (fun _=>true) true Tryz.f13.params.toList args.toList ds p:=hA0
 rw[Tryz.params13]at hA hval
 obtain⟨v0,vs0,d0,ds0,p0,q0,hargs,rfl,rfl,h0,r0⟩:=trodAll_cons hA
 obtain⟨v1,vs1,d1,ds1,p1,q1,rfl,rfl,rfl,h1,r1⟩:=trodAll_cons r0
 obtain⟨v2,vs2,d2,ds2,p2,q2,rfl,rfl,rfl,h2,r2⟩:=trodAll_cons r1
 obtain⟨v3,vs3,d3,ds3,p3,q3,rfl,rfl,rfl,h3,r3⟩:=trodAll_cons r2
 obtain⟨rfl,rfl,rfl⟩:=trodAll_nil r3
 obtain rfl:args=#[v0,v1,v2,v3]:=by cases args;simp_all
 obtain⟨rfl,rfl⟩:=trodVars_none hV
 obtain⟨a0,rfl,w0⟩:=open_house (hval 0 68 v0 rfl rfl) h0
 obtain⟨a1,w1⟩:=open_ids (hval 1 25 v1 rfl rfl) h1
 obtain⟨a2,w2⟩:=open_events (hval 2 72 v2 rfl rfl) h2
 obtain⟨a3,w3⟩:=open_nums (hval 3 64 v3 rfl rfl) h3
 clear hA0 hval0
 simp only[List.append_nil,List.nil_append]at hW'
 refine(sweepSweeps_any W a0 v1 a1 v2 a2 v3 a3 w0 w1 w2 w3).mono fun e W' ⟨he,hm⟩=>?_
 subst he
 exact⟨_,rfl,post_of_mod (pv:=[]) hW' hm (fun _=>(trodAll_cons_mk (shut_bool Tryz.underlying4 _) trodAll_mk0))
  (trodAll_cons_mk (carry sweepSweeps_readHouse sweepSweeps_rowHouse hm h0) (trodAll_cons_mk (carry sweepSweeps_readsID sweepSweeps_rowsID hm h1) (trodAll_cons_mk (carry sweepSweeps_readsEvent sweepSweeps_rowsEvent hm h2) (trodAll_cons_mk (carry sweepSweeps_readsInt sweepSweeps_rowsInt hm h3) trodAll_mk0)))) (by rfl)⟩

theorem sweepSweeps_band{a b:Bool}(h:a=true)(k:b=true):(a&&b)=true:=by rw[h,k];rfl
theorem sweepSweeps_k0:Rows.sweepSweepsRow.wf (OpenSpec.ofChange Rows.sweepSweepsSpec)=true:=by kernel_rfl
theorem sweepSweeps_k1:laidOutB Tryz.prog=true:=by kernel_rfl
theorem sweepSweeps_k2:mapsRowed Tryz.prog=true:=by kernel_rfl
theorem sweepSweeps_k3:Tryz.f13.params.all (Tryz.prog.readableRec ·)=true:=by kernel_rfl
theorem sweepSweeps_k4:namedTie Tryz.prog Rows.sweepSweepsRow.named Rows.sweepSweepsSpec.vars=true:=by kernel_rfl
theorem sweepSweeps_k5:(Rows.sweepSweepsRow.stops==[])=true:=by kernel_rfl
theorem sweepSweeps_k6:(Tryz.prog.stops==[])=true:=by kernel_rfl
theorem sweepSweeps_k7:(Rows.sweepSweepsRow.knobs==[])=true:=by kernel_rfl
theorem sweepSweeps_k8:(Tryz.prog.stopKnobs==[])=true:=by kernel_rfl
theorem sweepSweeps_k9:(Rows.sweepSweepsRow.inPlace==Tryz.prog.inPlace 13)=true:=by kernel_rfl
theorem sweepSweeps_k10:(Rows.sweepSweepsRow.unfollowed==Tryz.prog.unfollowed 13)=true:=by kernel_rfl
theorem sweepSweeps_k11:(Rows.sweepSweepsRow.recurses==Tryz.prog.recurses 13)=true:=by kernel_rfl
theorem sweepSweeps_k12:(Rows.sweepSweepsRow.named==Tryz.prog.varsNamed 13)=true:=by kernel_rfl
theorem sweepSweeps_k13:(Rows.sweepSweepsRow.maps==(Tryz.f13.params.toList++Rows.sweepSweepsSpec.plain.varTypes Tryz.prog).any (Tryz.prog.mapsRec ·))=true:=by kernel_rfl
theorem sweepSweeps_k14:(Rows.sweepSweepsRow.ifaces==(Tryz.f13.params.toList++Rows.sweepSweepsSpec.plain.varTypes Tryz.prog).any (Tryz.prog.ifacesRec ·))=true:=by kernel_rfl
theorem sweepSweeps_k15:(Rows.sweepSweepsRow.mapsOut==Tryz.prog.mapsAmong Tryz.f13.resultTypes.toList)=true:=by kernel_rfl
theorem sweepSweeps_k16:(Rows.sweepSweepsRow.loops==(Tryz.f13.params.toList++Rows.sweepSweepsSpec.plain.varTypes Tryz.prog).any (Tryz.prog.loopsFrom ·))=true:=by kernel_rfl
theorem sweepSweeps_k17:(Rows.sweepSweepsRow.wideKeys==(Tryz.f13.params.toList++Rows.sweepSweepsSpec.plain.varTypes Tryz.prog++Tryz.f13.resultTypes.toList).any (Tryz.prog.wideKeysFrom ·))=true:=by kernel_rfl
theorem sweepSweeps_k18:Rows.sweepSweepsSpec.vars.all (Tryz.prog.varReadable ·)=true:=by kernel_rfl
theorem sweepSweeps_k19:Tryz.f13.resultTypes.all (fun t=>Tryz.prog.readableRec t&&decide (t<Tryz.prog.types.size))=true:=by kernel_rfl
theorem sweepSweeps_k20:(Rows.sweepSweepsRow.ifacesOut==Tryz.f13.resultTypes.toList.any (Tryz.prog.ifacesRec ·))=true:=by kernel_rfl
theorem sweepSweeps_k21:(Rows.sweepSweepsRow.loopsOut==Tryz.f13.resultTypes.toList.any (Tryz.prog.loopsFrom ·))=true:=by kernel_rfl
theorem sweepSweeps_k22:(Rows.sweepSweepsRow.plainKeys==Tryz.prog.plainKeys)=true:=by kernel_rfl
theorem sweepSweeps_k23:Rows.sweepSweepsRow.shortTexts.isNone=true:=by kernel_rfl
theorem sweepSweeps_k24:Tryz.prog.stopsHeard=true:=by kernel_rfl
theorem sweepSweeps_k25:Tryz.prog.mayEnter=true:=by kernel_rfl
theorem sweepSweeps_k26:(Rows.sweepSweepsRow.lifted==Tryz.prog.liftsFinal)=true:=by kernel_rfl
theorem sweepSweeps_k27:(Tryz.prog.make==some Rows.sweepSweepsRow.make)=true:=by kernel_rfl
theorem sweepSweeps_k29:(Rows.sweepSweepsRow.pinned==Rows.sweepSweepsRow.pinnedBy)=true:=by kernel_rfl
theorem sweepSweeps_k30:(Rows.sweepSweepsRow.veiled==(Tryz.f13.params.toList++Rows.sweepSweepsSpec.plain.varTypes Tryz.prog++Tryz.f13.resultTypes.toList).any (Tryz.prog.veiledRec ·))=true:=by kernel_rfl
theorem sweepSweeps_k31:Rows.sweepSweepsRow.veiledFits Tryz.prog Tryz.f13.params.toList (Tryz.f13.params.toList++Rows.sweepSweepsSpec.plain.varTypes Tryz.prog++Tryz.f13.resultTypes.toList)=true:=by kernel_rfl
theorem sweepSweeps_closed:joinedFacts Tryz.prog 13 Tryz.f13 Rows.sweepSweepsSpec Rows.sweepSweepsRow=true:=by
 unfold joinedFacts
 exact sweepSweeps_band (sweepSweeps_band (sweepSweeps_band (sweepSweeps_band (sweepSweeps_band (sweepSweeps_band (sweepSweeps_band (sweepSweeps_band (sweepSweeps_band (sweepSweeps_band (sweepSweeps_band (sweepSweeps_band (sweepSweeps_band (sweepSweeps_band (sweepSweeps_band (sweepSweeps_band (sweepSweeps_band (sweepSweeps_band (sweepSweeps_band (sweepSweeps_band (sweepSweeps_band (sweepSweeps_band (sweepSweeps_band (sweepSweeps_band (sweepSweeps_band (sweepSweeps_band (sweepSweeps_band (sweepSweeps_band (sweepSweeps_band (sweepSweeps_band (sweepSweeps_band sweepSweeps_k0 sweepSweeps_k1) sweepSweeps_k2) sweepSweeps_k3) sweepSweeps_k4) sweepSweeps_k5) sweepSweeps_k6) sweepSweeps_k7) sweepSweeps_k8) sweepSweeps_k9) sweepSweeps_k10) sweepSweeps_k11) sweepSweeps_k12) sweepSweeps_k13) sweepSweeps_k14) sweepSweeps_k15) sweepSweeps_k16) sweepSweeps_k17) sweepSweeps_k18) sweepSweeps_k19) sweepSweeps_k20) sweepSweeps_k21) sweepSweeps_k22) sweepSweeps_k23) sweepSweeps_k24) sweepSweeps_k25) sweepSweeps_k26) sweepSweeps_k27) (by kernel_rfl)) sweepSweeps_k29) sweepSweeps_k30) sweepSweeps_k31
theorem sweepSweeps_named:Tryz.prog.funcNamed Rows.sweepSweepsRow.func=some 13:=by kernel_rfl
theorem sweepSweeps_inst:Tryz.f13.isInstance Tryz.prog Rows.sweepSweepsRow.origin Rows.sweepSweepsRow.targs:=of_decide_eq_true (by kernel_rfl)
theorem sweepSweeps_wrap:Tryz.f13.isWrapper Tryz.prog Rows.sweepSweepsRow.wrapper Rows.sweepSweepsRow.mainSum:=by unfold Func.isWrapper;first|(rw[if_pos (by decide+kernel)];kernel_rfl)|(rw[if_neg (by decide+kernel)];exact⟨rfl,rfl⟩)

theorem sweepSweeps_over:Rows.sweepSweepsRow.holds Tryz.pinned (OpenSpec.ofChange Rows.sweepSweepsSpec):=
 OpenClaim.holds_of_wide 13 Tryz.f13 rfl rfl rfl rfl rfl rfl rfl ⟨rfl,rfl,rfl,rfl,rfl⟩ rfl rfl rfl rfl rfl sweepSweeps_named Tryz.func13 sweepSweeps_closed
  sweepSweeps_inst sweepSweeps_wrap
  (fun os started H enc _=>sweepSweeps_lifted os started H enc)

theorem sweepSweeps_proved:Rows.SweepSweepsSaid:=
 sweepSweeps_over
#print axioms sweepSweeps_proved
end Go.Proofs.YtjeonjoifjbohaaGreat
