/- SweepKeeps: its statement. -/
import Derived.Test.YtjeonjoifjbohaaGreatSweepKeepsP8
namespace Go.Proofs.YtjeonjoifjbohaaGreat
set_option linter.unusedSimpArgs false
set_option linter.unusedVariables false
set_option linter.unnecessarySimpa false
set_option linter.unusedSectionVars false
open Go.ChangeShapes Go.WideShapes Go.ChangeAt Go.RowKit

theorem sweepKeeps_readHouse:Tryz.prog.readableRec 68=true:=by kernel_rfl
theorem sweepKeeps_rowHouse:68<Tryz.prog.types.size:=of_decide_eq_true (by kernel_rfl)
theorem sweepKeeps_readTable:Tryz.prog.readableRec 71=true:=by kernel_rfl
theorem sweepKeeps_rowTable:71<Tryz.prog.types.size:=of_decide_eq_true (by kernel_rfl)
theorem sweepKeeps_readsEvent:Tryz.prog.readableRec 72=true:=by kernel_rfl
theorem sweepKeeps_rowsEvent:72<Tryz.prog.types.size:=of_decide_eq_true (by kernel_rfl)
theorem sweepKeeps_own:ownKnob Tryz.prog.godebug=none:=by kernel_rfl

set_option maxRecDepth 100000 in
theorem sweepKeeps_lifted(os:Os)(started:os.Started)(H:Type)(enc:TypeId×Value->H):
 ReturnsInHanded {} Tryz.checked os 14 .any (Rows.sweepKeepsSpec.pre6 enc Tryz.prog Tryz.f14 Rows.sweepKeepsRow.domain false) (Rows.sweepKeepsSpec.post enc Tryz.prog Tryz.f14 false true false false):=by
 refine returnsInHanded_of_change (C:=Tryz.checked) sweepKeeps_own started (by kernel_rfl) Tryz.func14
  (ChangeSpec.witness6 (enc:=enc) (C:=Tryz.checked) false ⟨#[],#[.agg #[.int .i64 0,.slice none 0 0,.slice none 0 0],.agg #[.slice none 0 0,.slice none 0 0],.slice none 0 0],[]⟩ 8 (by kernel_rfl) (by kernel_rfl) (by kernel_rfl) (by kernel_rfl)) ?_
 intro W base args ds gs before hval0 hW hcnd _
 have hval:∀(j:Nat) t v,Tryz.f14.params[j]?=some t->args[j]?=some v->Value.okWide Tryz.prog W .any base t v:=hval0
 have hW':=hW
 obtain⟨p,q,hA0,hV,rfl,hfz,hnd⟩:=hW
 have hA:DataW.TrodAll enc Tryz.prog W 0 (fun _=>true) true Tryz.f14.params.toList args.toList ds p:=hA0
 rw[Tryz.params14]at hA hval
 obtain⟨v0,vs0,d0,ds0,p0,q0,hargs,rfl,rfl,h0,r0⟩:=trodAll_cons hA
 obtain⟨v1,vs1,d1,ds1,p1,q1,rfl,rfl,rfl,h1,r1⟩:=trodAll_cons r0
 obtain⟨v2,vs2,d2,ds2,p2,q2,rfl,rfl,rfl,h2,r2⟩:=trodAll_cons r1
 obtain⟨rfl,rfl,rfl⟩:=trodAll_nil r2
 obtain rfl:args=#[v0,v1,v2]:=by cases args;simp_all
 obtain⟨rfl,rfl⟩:=trodVars_none hV
 obtain⟨a0,rfl,w0⟩:=open_house (hval 0 68 v0 rfl rfl) h0
 obtain⟨a1,rfl,w1⟩:=open_table (hval 1 71 v1 rfl rfl) h1
 obtain⟨a2,w2⟩:=open_events (hval 2 72 v2 rfl rfl) h2
 clear hA0 hval0
 simp only[List.append_nil,List.nil_append]at hW'
 refine(sweepKeeps_any W a0 a1 v2 a2 w0 w1 w2).mono fun e W' ⟨he,hm⟩=>?_
 subst he
 exact⟨_,rfl,post_of_mod (pv:=[]) hW' hm (fun _=>(trodAll_cons_mk (shut_bool Tryz.underlying4 _) trodAll_mk0))
  (trodAll_cons_mk (carry sweepKeeps_readHouse sweepKeeps_rowHouse hm h0) (trodAll_cons_mk (carry sweepKeeps_readTable sweepKeeps_rowTable hm h1) (trodAll_cons_mk (carry sweepKeeps_readsEvent sweepKeeps_rowsEvent hm h2) trodAll_mk0))) (by rfl)⟩

theorem sweepKeeps_band{a b:Bool}(h:a=true)(k:b=true):(a&&b)=true:=by rw[h,k];rfl
theorem sweepKeeps_k0:Rows.sweepKeepsRow.wf (OpenSpec.ofChange Rows.sweepKeepsSpec)=true:=by kernel_rfl
theorem sweepKeeps_k1:laidOutB Tryz.prog=true:=by kernel_rfl
theorem sweepKeeps_k2:mapsRowed Tryz.prog=true:=by kernel_rfl
theorem sweepKeeps_k3:Tryz.f14.params.all (Tryz.prog.readableRec ·)=true:=by kernel_rfl
theorem sweepKeeps_k4:namedTie Tryz.prog Rows.sweepKeepsRow.named Rows.sweepKeepsSpec.vars=true:=by kernel_rfl
theorem sweepKeeps_k5:(Rows.sweepKeepsRow.stops==[])=true:=by kernel_rfl
theorem sweepKeeps_k6:(Tryz.prog.stops==[])=true:=by kernel_rfl
theorem sweepKeeps_k7:(Rows.sweepKeepsRow.knobs==[])=true:=by kernel_rfl
theorem sweepKeeps_k8:(Tryz.prog.stopKnobs==[])=true:=by kernel_rfl
theorem sweepKeeps_k9:(Rows.sweepKeepsRow.inPlace==Tryz.prog.inPlace 14)=true:=by kernel_rfl
theorem sweepKeeps_k10:(Rows.sweepKeepsRow.unfollowed==Tryz.prog.unfollowed 14)=true:=by kernel_rfl
theorem sweepKeeps_k11:(Rows.sweepKeepsRow.recurses==Tryz.prog.recurses 14)=true:=by kernel_rfl
theorem sweepKeeps_k12:(Rows.sweepKeepsRow.named==Tryz.prog.varsNamed 14)=true:=by kernel_rfl
theorem sweepKeeps_k13:(Rows.sweepKeepsRow.maps==(Tryz.f14.params.toList++Rows.sweepKeepsSpec.plain.varTypes Tryz.prog).any (Tryz.prog.mapsRec ·))=true:=by kernel_rfl
theorem sweepKeeps_k14:(Rows.sweepKeepsRow.ifaces==(Tryz.f14.params.toList++Rows.sweepKeepsSpec.plain.varTypes Tryz.prog).any (Tryz.prog.ifacesRec ·))=true:=by kernel_rfl
theorem sweepKeeps_k15:(Rows.sweepKeepsRow.mapsOut==Tryz.prog.mapsAmong Tryz.f14.resultTypes.toList)=true:=by kernel_rfl
theorem sweepKeeps_k16:(Rows.sweepKeepsRow.loops==(Tryz.f14.params.toList++Rows.sweepKeepsSpec.plain.varTypes Tryz.prog).any (Tryz.prog.loopsFrom ·))=true:=by kernel_rfl
theorem sweepKeeps_k17:(Rows.sweepKeepsRow.wideKeys==(Tryz.f14.params.toList++Rows.sweepKeepsSpec.plain.varTypes Tryz.prog++Tryz.f14.resultTypes.toList).any (Tryz.prog.wideKeysFrom ·))=true:=by kernel_rfl
theorem sweepKeeps_k18:Rows.sweepKeepsSpec.vars.all (Tryz.prog.varReadable ·)=true:=by kernel_rfl
theorem sweepKeeps_k19:Tryz.f14.resultTypes.all (fun t=>Tryz.prog.readableRec t&&decide (t<Tryz.prog.types.size))=true:=by kernel_rfl
theorem sweepKeeps_k20:(Rows.sweepKeepsRow.ifacesOut==Tryz.f14.resultTypes.toList.any (Tryz.prog.ifacesRec ·))=true:=by kernel_rfl
theorem sweepKeeps_k21:(Rows.sweepKeepsRow.loopsOut==Tryz.f14.resultTypes.toList.any (Tryz.prog.loopsFrom ·))=true:=by kernel_rfl
theorem sweepKeeps_k22:(Rows.sweepKeepsRow.plainKeys==Tryz.prog.plainKeys)=true:=by kernel_rfl
theorem sweepKeeps_k23:Rows.sweepKeepsRow.shortTexts.isNone=true:=by kernel_rfl
theorem sweepKeeps_k24:Tryz.prog.stopsHeard=true:=by kernel_rfl
theorem sweepKeeps_k25:Tryz.prog.mayEnter=true:=by kernel_rfl
theorem sweepKeeps_k26:(Rows.sweepKeepsRow.lifted==Tryz.prog.liftsFinal)=true:=by kernel_rfl
theorem sweepKeeps_k27:(Tryz.prog.make==some Rows.sweepKeepsRow.make)=true:=by kernel_rfl
theorem sweepKeeps_k29:(Rows.sweepKeepsRow.pinned==Rows.sweepKeepsRow.pinnedBy)=true:=by kernel_rfl
theorem sweepKeeps_k30:(Rows.sweepKeepsRow.veiled==(Tryz.f14.params.toList++Rows.sweepKeepsSpec.plain.varTypes Tryz.prog++Tryz.f14.resultTypes.toList).any (Tryz.prog.veiledRec ·))=true:=by kernel_rfl
theorem sweepKeeps_k31:Rows.sweepKeepsRow.veiledFits Tryz.prog Tryz.f14.params.toList (Tryz.f14.params.toList++Rows.sweepKeepsSpec.plain.varTypes Tryz.prog++Tryz.f14.resultTypes.toList)=true:=by kernel_rfl
theorem sweepKeeps_closed:joinedFacts Tryz.prog 14 Tryz.f14 Rows.sweepKeepsSpec Rows.sweepKeepsRow=true:=by
 unfold joinedFacts
 exact sweepKeeps_band (sweepKeeps_band (sweepKeeps_band (sweepKeeps_band (sweepKeeps_band (sweepKeeps_band (sweepKeeps_band (sweepKeeps_band (sweepKeeps_band (sweepKeeps_band (sweepKeeps_band (sweepKeeps_band (sweepKeeps_band (sweepKeeps_band (sweepKeeps_band (sweepKeeps_band (sweepKeeps_band (sweepKeeps_band (sweepKeeps_band (sweepKeeps_band (sweepKeeps_band (sweepKeeps_band (sweepKeeps_band (sweepKeeps_band (sweepKeeps_band (sweepKeeps_band (sweepKeeps_band (sweepKeeps_band (sweepKeeps_band (sweepKeeps_band (sweepKeeps_band sweepKeeps_k0 sweepKeeps_k1) sweepKeeps_k2) sweepKeeps_k3) sweepKeeps_k4) sweepKeeps_k5) sweepKeeps_k6) sweepKeeps_k7) sweepKeeps_k8) sweepKeeps_k9) sweepKeeps_k10) sweepKeeps_k11) sweepKeeps_k12) sweepKeeps_k13) sweepKeeps_k14) sweepKeeps_k15) sweepKeeps_k16) sweepKeeps_k17) sweepKeeps_k18) sweepKeeps_k19) sweepKeeps_k20) sweepKeeps_k21) sweepKeeps_k22) sweepKeeps_k23) sweepKeeps_k24) sweepKeeps_k25) sweepKeeps_k26) sweepKeeps_k27) (by kernel_rfl)) sweepKeeps_k29) sweepKeeps_k30) sweepKeeps_k31
theorem sweepKeeps_named:Tryz.prog.funcNamed Rows.sweepKeepsRow.func=some 14:=by kernel_rfl
theorem sweepKeeps_inst:Tryz.f14.isInstance Tryz.prog Rows.sweepKeepsRow.origin Rows.sweepKeepsRow.targs:=of_decide_eq_true (by kernel_rfl)
theorem sweepKeeps_wrap:Tryz.f14.isWrapper Tryz.prog Rows.sweepKeepsRow.wrapper Rows.sweepKeepsRow.mainSum:=by unfold Func.isWrapper;first|(rw[if_pos (by decide+kernel)];kernel_rfl)|(rw[if_neg (by decide+kernel)];exact⟨rfl,rfl⟩)

theorem sweepKeeps_over:Rows.sweepKeepsRow.holds Tryz.pinned (OpenSpec.ofChange Rows.sweepKeepsSpec):=
 OpenClaim.holds_of_wide 14 Tryz.f14 rfl rfl rfl rfl rfl rfl rfl ⟨rfl,rfl,rfl,rfl,rfl⟩ rfl rfl rfl rfl rfl sweepKeeps_named Tryz.func14 sweepKeeps_closed
  sweepKeeps_inst sweepKeeps_wrap
  (fun os started H enc _=>sweepKeeps_lifted os started H enc)

theorem sweepKeeps_proved:Rows.SweepKeepsSaid:=
 sweepKeeps_over
#print axioms sweepKeeps_proved
end Go.Proofs.YtjeonjoifjbohaaGreat
