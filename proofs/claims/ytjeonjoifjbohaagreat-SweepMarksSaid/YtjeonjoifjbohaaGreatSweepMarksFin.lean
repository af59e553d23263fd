/- SweepMarks: its statement. -/
import Derived.Test.YtjeonjoifjbohaaGreatSweepMarksP8
namespace Go.Proofs.YtjeonjoifjbohaaGreat
set_option linter.unusedSimpArgs false
set_option linter.unusedVariables false
set_option linter.unnecessarySimpa false
set_option linter.unusedSectionVars false
open Go.ChangeShapes Go.WideShapes Go.ChangeAt Go.RowKit

theorem sm_readHouse:Tryz.prog.readableRec 68=true:=by kernel_rfl
theorem sm_rowHouse:68<Tryz.prog.types.size:=of_decide_eq_true (by kernel_rfl)
theorem sm_readTable:Tryz.prog.readableRec 71=true:=by kernel_rfl
theorem sm_rowTable:71<Tryz.prog.types.size:=of_decide_eq_true (by kernel_rfl)
theorem sm_readsEvent:Tryz.prog.readableRec 72=true:=by kernel_rfl
theorem sm_rowsEvent:72<Tryz.prog.types.size:=of_decide_eq_true (by kernel_rfl)
theorem sm_own:ownKnob Tryz.prog.godebug=none:=by kernel_rfl

set_option maxRecDepth 100000 in
theorem sm_lifted(os:Os)(started:os.Started)(H:Type)(enc:TypeId×Value->H):
 ReturnsInHanded {} Tryz.checked os 8 .any (Rows.sweepMarksSpec.pre6 enc Tryz.prog Tryz.f8 Rows.sweepMarksRow.domain false) (Rows.sweepMarksSpec.post enc Tryz.prog Tryz.f8 false true false false):=by
 refine returnsInHanded_of_change (C:=Tryz.checked) sm_own started (by kernel_rfl) Tryz.func8
  (ChangeSpec.witness6 (enc:=enc) (C:=Tryz.checked) false ⟨#[],#[.agg #[.int .i64 0,.slice none 0 0,.slice none 0 0],.agg #[.slice none 0 0,.slice none 0 0],.slice none 0 0],[]⟩ 8 (by kernel_rfl) (by kernel_rfl) (by kernel_rfl) (by kernel_rfl)) ?_
 intro W base args ds gs before hval0 hW hcnd _
 have hval:∀(j:Nat) t v,Tryz.f8.params[j]?=some t->args[j]?=some v->Value.okWide Tryz.prog W .any base t v:=hval0
 have hW':=hW
 obtain⟨p,q,hA0,hV,rfl,hfz,hnd⟩:=hW
 have hA:DataW.TrodAll enc Tryz.prog W 0 (fun _=>true) true Tryz.f8.params.toList args.toList ds p:=hA0
 rw[Tryz.params8]at hA hval
 obtain⟨v0,vs0,d0,ds0,p0,q0,hargs,rfl,rfl,h0,r0⟩:=trodAll_cons hA
 obtain⟨v1,vs1,d1,ds1,p1,q1,rfl,rfl,rfl,h1,r1⟩:=trodAll_cons r0
 obtain⟨v2,vs2,d2,ds2,p2,q2,rfl,rfl,rfl,h2,r2⟩:=trodAll_cons r1
 obtain⟨rfl,rfl,rfl⟩:=trodAll_nil r2
 obtain rfl:args=#[v0,v1,v2]:=by cases args;simp_all
 obtain⟨rfl,rfl⟩:=trodVars_none hV
 obtain⟨a0,rfl,w0⟩:=open_house (hval 0 68 v0 rfl rfl) h0
 obtain⟨a1,rfl,w1⟩:=open_table (hval 1 71 v1 rfl rfl) h1
 obtain⟨a2,w2⟩:=open_events (hval 2 72 v2 rfl rfl) h2
 clear hA0 hval0
 simp only[List.append_nil,List.nil_append]at hW'
 refine(sweepMarks_any W a0 a1 v2 a2 w0 w1 w2).mono fun e W' ⟨he,hm⟩=>?_
 subst he
 exact⟨_,rfl,post_of_mod (pv:=[]) hW' hm (fun _=>(trodAll_cons_mk (shut_bool Tryz.underlying4 _) trodAll_mk0))
  (trodAll_cons_mk (carry sm_readHouse sm_rowHouse hm h0) (trodAll_cons_mk (carry sm_readTable sm_rowTable hm h1) (trodAll_cons_mk (carry sm_readsEvent sm_rowsEvent hm h2) trodAll_mk0))) (by rfl)⟩

theorem sm_band{a b:Bool}(h:a=true)(k:b=true):(a&&b)=true:=by rw[h,k];rfl
theorem sm_k0:Rows.sweepMarksRow.wf (OpenSpec.ofChange Rows.sweepMarksSpec)=true:=by kernel_rfl
theorem sm_k1:laidOutB Tryz.prog=true:=by kernel_rfl
theorem sm_k2:mapsRowed Tryz.prog=true:=by kernel_rfl
theorem sm_k3:Tryz.f8.params.all (Tryz.prog.readableRec ·)=true:=by kernel_rfl
theorem sm_k4:namedTie Tryz.prog Rows.sweepMarksRow.named Rows.sweepMarksSpec.vars=true:=by kernel_rfl
theorem sm_k5:(Rows.sweepMarksRow.stops==[])=true:=by kernel_rfl
theorem sm_k6:(Tryz.prog.stops==[])=true:=by kernel_rfl
theorem sm_k7:(Rows.sweepMarksRow.knobs==[])=true:=by kernel_rfl
theorem sm_k8:(Tryz.prog.stopKnobs==[])=true:=by kernel_rfl
theorem sm_k9:(Rows.sweepMarksRow.inPlace==Tryz.prog.inPlace 8)=true:=by kernel_rfl
theorem sm_k10:(Rows.sweepMarksRow.unfollowed==Tryz.prog.unfollowed 8)=true:=by kernel_rfl
theorem sm_k11:(Rows.sweepMarksRow.recurses==Tryz.prog.recurses 8)=true:=by kernel_rfl
theorem sm_k12:(Rows.sweepMarksRow.named==Tryz.prog.varsNamed 8)=true:=by kernel_rfl
theorem sm_k13:(Rows.sweepMarksRow.maps==(Tryz.f8.params.toList++Rows.sweepMarksSpec.plain.varTypes Tryz.prog).any (Tryz.prog.mapsRec ·))=true:=by kernel_rfl
theorem sm_k14:(Rows.sweepMarksRow.ifaces==(Tryz.f8.params.toList++Rows.sweepMarksSpec.plain.varTypes Tryz.prog).any (Tryz.prog.ifacesRec ·))=true:=by kernel_rfl
theorem sm_k15:(Rows.sweepMarksRow.mapsOut==Tryz.prog.mapsAmong Tryz.f8.resultTypes.toList)=true:=by kernel_rfl
theorem sm_k16:(Rows.sweepMarksRow.loops==(Tryz.f8.params.toList++Rows.sweepMarksSpec.plain.varTypes Tryz.prog).any (Tryz.prog.loopsFrom ·))=true:=by kernel_rfl
theorem sm_k17:(Rows.sweepMarksRow.wideKeys==(Tryz.f8.params.toList++Rows.sweepMarksSpec.plain.varTypes Tryz.prog++Tryz.f8.resultTypes.toList).any (Tryz.prog.wideKeysFrom ·))=true:=by kernel_rfl
theorem sm_k18:Rows.sweepMarksSpec.vars.all (Tryz.prog.varReadable ·)=true:=by kernel_rfl
theorem sm_k19:Tryz.f8.resultTypes.all (fun t=>Tryz.prog.readableRec t&&decide (t<Tryz.prog.types.size))=true:=by kernel_rfl
theorem sm_k20:(Rows.sweepMarksRow.ifacesOut==Tryz.f8.resultTypes.toList.any (Tryz.prog.ifacesRec ·))=true:=by kernel_rfl
theorem sm_k21:(Rows.sweepMarksRow.loopsOut==Tryz.f8.resultTypes.toList.any (Tryz.prog.loopsFrom ·))=true:=by kernel_rfl
theorem sm_k22:(Rows.sweepMarksRow.plainKeys==Tryz.prog.plainKeys)=true:=by kernel_rfl
theorem sm_k23:Rows.sweepMarksRow.shortTexts.isNone=true:=by kernel_rfl
theorem sm_k24:Tryz.prog.stopsHeard=true:=by kernel_rfl
theorem sm_k25:Tryz.prog.mayEnter=true:=by kernel_rfl
theorem sm_k26:(Rows.sweepMarksRow.lifted==Tryz.prog.liftsFinal)=true:=by kernel_rfl
theorem sm_k27:(Tryz.prog.make==some Rows.sweepMarksRow.make)=true:=by kernel_rfl
theorem sm_k29:(Rows.sweepMarksRow.pinned==Rows.sweepMarksRow.pinnedBy)=true:=by kernel_rfl
theorem sm_k30:(Rows.sweepMarksRow.veiled==(Tryz.f8.params.toList++Rows.sweepMarksSpec.plain.varTypes Tryz.prog++Tryz.f8.resultTypes.toList).any (Tryz.prog.veiledRec ·))=true:=by kernel_rfl
theorem sm_k31:Rows.sweepMarksRow.veiledFits Tryz.prog Tryz.f8.params.toList (Tryz.f8.params.toList++Rows.sweepMarksSpec.plain.varTypes Tryz.prog++Tryz.f8.resultTypes.toList)=true:=by kernel_rfl
theorem sm_closed:joinedFacts Tryz.prog 8 Tryz.f8 Rows.sweepMarksSpec Rows.sweepMarksRow=true:=by
 unfold joinedFacts
 exact sm_band (sm_band (sm_band (sm_band (sm_band (sm_band (sm_band (sm_band (sm_band (sm_band (sm_band (sm_band (sm_band (sm_band (sm_band (sm_band (sm_band (sm_band (sm_band (sm_band (sm_band (sm_band (sm_band (sm_band (sm_band (sm_band (sm_band (sm_band (sm_band (sm_band (sm_band sm_k0 sm_k1) sm_k2) sm_k3) sm_k4) sm_k5) sm_k6) sm_k7) sm_k8) sm_k9) sm_k10) sm_k11) sm_k12) sm_k13) sm_k14) sm_k15) sm_k16) sm_k17) sm_k18) sm_k19) sm_k20) sm_k21) sm_k22) sm_k23) sm_k24) sm_k25) sm_k26) sm_k27) (by kernel_rfl)) sm_k29) sm_k30) sm_k31
theorem sm_named:Tryz.prog.funcNamed Rows.sweepMarksRow.func=some 8:=by kernel_rfl
theorem sm_inst:Tryz.f8.isInstance Tryz.prog Rows.sweepMarksRow.origin Rows.sweepMarksRow.targs:=of_decide_eq_true (by kernel_rfl)
theorem sm_wrap:Tryz.f8.isWrapper Tryz.prog Rows.sweepMarksRow.wrapper Rows.sweepMarksRow.mainSum:=by unfold Func.isWrapper;first|(rw[if_pos (by decide+kernel)];kernel_rfl)|(rw[if_neg (by decide+kernel)];exact⟨rfl,rfl⟩)

theorem sm_over:Rows.sweepMarksRow.holds Tryz.pinned (OpenSpec.ofChange Rows.sweepMarksSpec):=
 OpenClaim.holds_of_wide 8 Tryz.f8 rfl rfl rfl rfl rfl rfl rfl ⟨rfl,rfl,rfl,rfl,rfl⟩ rfl rfl rfl rfl rfl sm_named Tryz.func8 sm_closed
  sm_inst sm_wrap
  (fun os started H enc _=>sm_lifted os started H enc)

theorem sweepMarks_proved:Rows.SweepMarksSaid:=
 sm_over
#print axioms sweepMarks_proved
end Go.Proofs.YtjeonjoifjbohaaGreat
