/- ClosureWalks: its statement. -/
import Derived.Test.YtjeonjoifjbohaaGreatClosureWalksP9
namespace Go.Proofs.YtjeonjoifjbohaaGreat
set_option linter.unusedSimpArgs false
set_option linter.unusedVariables false
set_option linter.unnecessarySimpa false
set_option linter.unusedSectionVars false
open Go.ChangeShapes Go.WideShapes Go.ChangeAt Go.RowKit

theorem closureWalks_readsBytes:Tryz.prog.readableRec 22=true:=by kernel_rfl
theorem closureWalks_rowsBytes:22<Tryz.prog.types.size:=of_decide_eq_true (by kernel_rfl)
theorem closureWalks_readID:Tryz.prog.readableRec 24=true:=by kernel_rfl
theorem closureWalks_rowID:24<Tryz.prog.types.size:=of_decide_eq_true (by kernel_rfl)
theorem closureWalks_readsID:Tryz.prog.readableRec 25=true:=by kernel_rfl
theorem closureWalks_rowsID:25<Tryz.prog.types.size:=of_decide_eq_true (by kernel_rfl)
theorem closureWalks_own:ownKnob Tryz.prog.godebug=none:=by kernel_rfl

set_option maxRecDepth 100000 in
theorem closureWalks_lifted(os:Os)(started:os.Started)(H:Type)(enc:TypeId×Value->H):
 ReturnsInHanded {} Tryz.checked os 3 .any (Rows.closureWalksSpec.pre6 enc Tryz.prog Tryz.f3 Rows.closureWalksRow.domain false) (Rows.closureWalksSpec.post enc Tryz.prog Tryz.f3 false true false false):=by
 refine returnsInHanded_of_change (C:=Tryz.checked) closureWalks_own started (by kernel_rfl) Tryz.func3
  (ChangeSpec.witness6 (enc:=enc) (C:=Tryz.checked) false ⟨#[],#[.int .i64 0,.slice none 0 0,.agg #[.int .u8 0,.int .u8 0,.int .u8 0,.int .u8 0,.int .u8 0,.int .u8 0,.int .u8 0,.int .u8 0,.int .u8 0,.int .u8 0,.int .u8 0,.int .u8 0,.int .u8 0,.int .u8 0,.int .u8 0,.int .u8 0,.int .u8 0,.int .u8 0,.int .u8 0,.int .u8 0,.int .u8 0,.int .u8 0,.int .u8 0,.int .u8 0,.int .u8 0,.int .u8 0,.int .u8 0,.int .u8 0,.int .u8 0,.int .u8 0,.int .u8 0,.int .u8 0],.slice none 0 0],[]⟩ 8 (by kernel_rfl) (by kernel_rfl) (by kernel_rfl) (by kernel_rfl)) ?_
 intro W base args ds gs before hval0 hW hcnd _
 have hval:∀(j:Nat) t v,Tryz.f3.params[j]?=some t->args[j]?=some v->Value.okWide Tryz.prog W .any base t v:=hval0
 have hW':=hW
 obtain⟨p,q,hA0,hV,rfl,hfz,hnd⟩:=hW
 have hA:DataW.TrodAll enc Tryz.prog W 0 (fun _=>true) true Tryz.f3.params.toList args.toList ds p:=hA0
 rw[Tryz.params3]at hA hval
 obtain⟨v0,vs0,d0,ds0,p0,q0,hargs,rfl,rfl,h0,r0⟩:=trodAll_cons hA
 obtain⟨v1,vs1,d1,ds1,p1,q1,rfl,rfl,rfl,h1,r1⟩:=trodAll_cons r0
 obtain⟨v2,vs2,d2,ds2,p2,q2,rfl,rfl,rfl,h2,r2⟩:=trodAll_cons r1
 obtain⟨v3,vs3,d3,ds3,p3,q3,rfl,rfl,rfl,h3,r3⟩:=trodAll_cons r2
 obtain⟨rfl,rfl,rfl⟩:=trodAll_nil r3
 obtain rfl:args=#[v0,v1,v2,v3]:=by cases args;simp_all
 obtain⟨rfl,rfl⟩:=trodVars_none hV
 obtain⟨a0,rfl,rfl,rfl,w0⟩:=open_int Tryz.underlying3 (hval 0 3 v0 rfl rfl) h0
 obtain⟨a1,w1⟩:=open_listsC (hval 1 22 v1 rfl rfl) h1
 obtain⟨a2,rfl,w2⟩:=open_id (hval 2 24 v2 rfl rfl) h2
 obtain⟨a3,w3⟩:=open_ids (hval 3 25 v3 rfl rfl) h3
 clear hA0 hval0
 simp only[List.append_nil,List.nil_append]at hW'
 refine(closureWalks_any W a0 v1 a1 a2 v3 a3 (fit_i64 w0) w1 w2 w3).mono fun e W' ⟨he,hm⟩=>?_
 subst he
 exact⟨_,rfl,post_of_mod (pv:=[]) hW' hm (fun _=>(trodAll_cons_mk (shut_bool Tryz.underlying4 _) trodAll_mk0))
  (trodAll_cons_mk (shut_int Tryz.underlying3 w0) (trodAll_cons_mk (carry closureWalks_readsBytes closureWalks_rowsBytes hm h1) (trodAll_cons_mk (carry closureWalks_readID closureWalks_rowID hm h2) (trodAll_cons_mk (carry closureWalks_readsID closureWalks_rowsID hm h3) trodAll_mk0)))) (by rfl)⟩

theorem closureWalks_band{a b:Bool}(h:a=true)(k:b=true):(a&&b)=true:=by rw[h,k];rfl
theorem closureWalks_k0:Rows.closureWalksRow.wf (OpenSpec.ofChange Rows.closureWalksSpec)=true:=by kernel_rfl
theorem closureWalks_k1:laidOutB Tryz.prog=true:=by kernel_rfl
theorem closureWalks_k2:mapsRowed Tryz.prog=true:=by kernel_rfl
theorem closureWalks_k3:Tryz.f3.params.all (Tryz.prog.readableRec ·)=true:=by kernel_rfl
theorem closureWalks_k4:namedTie Tryz.prog Rows.closureWalksRow.named Rows.closureWalksSpec.vars=true:=by kernel_rfl
theorem closureWalks_k5:(Rows.closureWalksRow.stops==[])=true:=by kernel_rfl
theorem closureWalks_k6:(Tryz.prog.stops==[])=true:=by kernel_rfl
theorem closureWalks_k7:(Rows.closureWalksRow.knobs==[])=true:=by kernel_rfl
theorem closureWalks_k8:(Tryz.prog.stopKnobs==[])=true:=by kernel_rfl
theorem closureWalks_k9:(Rows.closureWalksRow.inPlace==Tryz.prog.inPlace 3)=true:=by kernel_rfl
theorem closureWalks_k10:(Rows.closureWalksRow.unfollowed==Tryz.prog.unfollowed 3)=true:=by kernel_rfl
theorem closureWalks_k11:(Rows.closureWalksRow.recurses==Tryz.prog.recurses 3)=true:=by kernel_rfl
theorem closureWalks_k12:(Rows.closureWalksRow.named==Tryz.prog.varsNamed 3)=true:=by kernel_rfl
theorem closureWalks_k13:(Rows.closureWalksRow.maps==(Tryz.f3.params.toList++Rows.closureWalksSpec.plain.varTypes Tryz.prog).any (Tryz.prog.mapsRec ·))=true:=by kernel_rfl
theorem closureWalks_k14:(Rows.closureWalksRow.ifaces==(Tryz.f3.params.toList++Rows.closureWalksSpec.plain.varTypes Tryz.prog).any (Tryz.prog.ifacesRec ·))=true:=by kernel_rfl
theorem closureWalks_k15:(Rows.closureWalksRow.mapsOut==Tryz.prog.mapsAmong Tryz.f3.resultTypes.toList)=true:=by kernel_rfl
theorem closureWalks_k16:(Rows.closureWalksRow.loops==(Tryz.f3.params.toList++Rows.closureWalksSpec.plain.varTypes Tryz.prog).any (Tryz.prog.loopsFrom ·))=true:=by kernel_rfl
theorem closureWalks_k17:(Rows.closureWalksRow.wideKeys==(Tryz.f3.params.toList++Rows.closureWalksSpec.plain.varTypes Tryz.prog++Tryz.f3.resultTypes.toList).any (Tryz.prog.wideKeysFrom ·))=true:=by kernel_rfl
theorem closureWalks_k18:Rows.closureWalksSpec.vars.all (Tryz.prog.varReadable ·)=true:=by kernel_rfl
theorem closureWalks_k19:Tryz.f3.resultTypes.all (fun t=>Tryz.prog.readableRec t&&decide (t<Tryz.prog.types.size))=true:=by kernel_rfl
theorem closureWalks_k20:(Rows.closureWalksRow.ifacesOut==Tryz.f3.resultTypes.toList.any (Tryz.prog.ifacesRec ·))=true:=by kernel_rfl
theorem closureWalks_k21:(Rows.closureWalksRow.loopsOut==Tryz.f3.resultTypes.toList.any (Tryz.prog.loopsFrom ·))=true:=by kernel_rfl
theorem closureWalks_k22:(Rows.closureWalksRow.plainKeys==Tryz.prog.plainKeys)=true:=by kernel_rfl
theorem closureWalks_k23:Rows.closureWalksRow.shortTexts.isNone=true:=by kernel_rfl
theorem closureWalks_k24:Tryz.prog.stopsHeard=true:=by kernel_rfl
theorem closureWalks_k25:Tryz.prog.mayEnter=true:=by kernel_rfl
theorem closureWalks_k26:(Rows.closureWalksRow.lifted==Tryz.prog.liftsFinal)=true:=by kernel_rfl
theorem closureWalks_k27:(Tryz.prog.make==some Rows.closureWalksRow.make)=true:=by kernel_rfl
theorem closureWalks_k29:(Rows.closureWalksRow.pinned==Rows.closureWalksRow.pinnedBy)=true:=by kernel_rfl
theorem closureWalks_k30:(Rows.closureWalksRow.veiled==(Tryz.f3.params.toList++Rows.closureWalksSpec.plain.varTypes Tryz.prog++Tryz.f3.resultTypes.toList).any (Tryz.prog.veiledRec ·))=true:=by kernel_rfl
theorem closureWalks_k31:Rows.closureWalksRow.veiledFits Tryz.prog Tryz.f3.params.toList (Tryz.f3.params.toList++Rows.closureWalksSpec.plain.varTypes Tryz.prog++Tryz.f3.resultTypes.toList)=true:=by kernel_rfl
theorem closureWalks_closed:joinedFacts Tryz.prog 3 Tryz.f3 Rows.closureWalksSpec Rows.closureWalksRow=true:=by
 unfold joinedFacts
 exact closureWalks_band (closureWalks_band (closureWalks_band (closureWalks_band (closureWalks_band (closureWalks_band (closureWalks_band (closureWalks_band (closureWalks_band (closureWalks_band (closureWalks_band (closureWalks_band (closureWalks_band (closureWalks_band (closureWalks_band (closureWalks_band (closureWalks_band (closureWalks_band (closureWalks_band (closureWalks_band (closureWalks_band (closureWalks_band (closureWalks_band (closureWalks_band (closureWalks_band (closureWalks_band (closureWalks_band (closureWalks_band (closureWalks_band (closureWalks_band (closureWalks_band closureWalks_k0 closureWalks_k1) closureWalks_k2) closureWalks_k3) closureWalks_k4) closureWalks_k5) closureWalks_k6) closureWalks_k7) closureWalks_k8) closureWalks_k9) closureWalks_k10) closureWalks_k11) closureWalks_k12) closureWalks_k13) closureWalks_k14) closureWalks_k15) closureWalks_k16) closureWalks_k17) closureWalks_k18) closureWalks_k19) closureWalks_k20) closureWalks_k21) closureWalks_k22) closureWalks_k23) closureWalks_k24) closureWalks_k25) closureWalks_k26) closureWalks_k27) (by kernel_rfl)) closureWalks_k29) closureWalks_k30) closureWalks_k31
theorem closureWalks_named:Tryz.prog.funcNamed Rows.closureWalksRow.func=some 3:=by kernel_rfl
theorem closureWalks_inst:Tryz.f3.isInstance Tryz.prog Rows.closureWalksRow.origin Rows.closureWalksRow.targs:=of_decide_eq_true (by kernel_rfl)
theorem closureWalks_wrap:Tryz.f3.isWrapper Tryz.prog Rows.closureWalksRow.wrapper Rows.closureWalksRow.mainSum:=by unfold Func.isWrapper;first|(rw[if_pos (by decide+kernel)];kernel_rfl)|(rw[if_neg (by decide+kernel)];exact⟨rfl,rfl⟩)

theorem closureWalks_over:Rows.closureWalksRow.holds Tryz.pinned (OpenSpec.ofChange Rows.closureWalksSpec):=
 OpenClaim.holds_of_wide 3 Tryz.f3 rfl rfl rfl rfl rfl rfl rfl ⟨rfl,rfl,rfl,rfl,rfl⟩ rfl rfl rfl rfl rfl closureWalks_named Tryz.func3 closureWalks_closed
  closureWalks_inst closureWalks_wrap
  (fun os started H enc _=>closureWalks_lifted os started H enc)

theorem closureWalks_proved:Rows.ClosureWalksSaid:=
 closureWalks_over
#print axioms closureWalks_proved
end Go.Proofs.YtjeonjoifjbohaaGreat
