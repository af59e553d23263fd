/- ClosureWhole: its statement. -/
import Derived.Test.YtjeonjoifjbohaaGreatClosureWholeP7
namespace Go.Proofs.YtjeonjoifjbohaaGreat
set_option linter.unusedSimpArgs false
set_option linter.unusedVariables false
set_option linter.unnecessarySimpa false
set_option linter.unusedSectionVars false
open Go.ChangeShapes Go.WideShapes Go.ChangeAt Go.RowKit

theorem closureWhole_readsBytes:Tryz.prog.readableRec 22=true:=by kernel_rfl
theorem closureWhole_rowsBytes:22<Tryz.prog.types.size:=of_decide_eq_true (by kernel_rfl)
theorem closureWhole_readbytes:Tryz.prog.readableRec 53=true:=by kernel_rfl
theorem closureWhole_rowbytes:53<Tryz.prog.types.size:=of_decide_eq_true (by kernel_rfl)
theorem closureWhole_own:ownKnob Tryz.prog.godebug=none:=by kernel_rfl

set_option maxRecDepth 100000 in
theorem closureWhole_lifted(os:Os)(started:os.Started)(H:Type)(enc:TypeId×Value->H):
 ReturnsInHanded {} Tryz.checked os 6 .any (Rows.closureWholeSpec.pre6 enc Tryz.prog Tryz.f6 Rows.closureWholeRow.domain false) (Rows.closureWholeSpec.post enc Tryz.prog Tryz.f6 false true false false):=by
 refine returnsInHanded_of_change (C:=Tryz.checked) closureWhole_own started (by kernel_rfl) Tryz.func6
  (ChangeSpec.witness6 (enc:=enc) (C:=Tryz.checked) false ⟨#[],#[.int .i64 0,.slice none 0 0,.int .i64 0,.slice none 0 0,.int .i64 0],[]⟩ 8 (by kernel_rfl) (by kernel_rfl) (by kernel_rfl) (by kernel_rfl)) ?_
 intro W base args ds gs before hval0 hW hcnd _
 have hval:∀(j:Nat) t v,Tryz.f6.params[j]?=some t->args[j]?=some v->Value.okWide Tryz.prog W .any base t v:=hval0
 have hW':=hW
 obtain⟨p,q,hA0,hV,rfl,hfz,hnd⟩:=hW
 have hA:DataW.TrodAll enc Tryz.prog W 0 (fun _=>true) true Tryz.f6.params.toList args.toList ds p:=hA0
 rw[Tryz.params6]at hA hval
 obtain⟨v0,vs0,d0,ds0,p0,q0,hargs,rfl,rfl,h0,r0⟩:=trodAll_cons hA
 obtain⟨v1,vs1,d1,ds1,p1,q1,rfl,rfl,rfl,h1,r1⟩:=trodAll_cons r0
 obtain⟨v2,vs2,d2,ds2,p2,q2,rfl,rfl,rfl,h2,r2⟩:=trodAll_cons r1
 obtain⟨v3,vs3,d3,ds3,p3,q3,rfl,rfl,rfl,h3,r3⟩:=trodAll_cons r2
 obtain⟨v4,vs4,d4,ds4,p4,q4,rfl,rfl,rfl,h4,r4⟩:=trodAll_cons r3
 obtain⟨rfl,rfl,rfl⟩:=trodAll_nil r4
 obtain rfl:args=#[v0,v1,v2,v3,v4]:=by cases args;simp_all
 obtain⟨rfl,rfl⟩:=trodVars_none hV
 obtain⟨a0,rfl,rfl,rfl,w0⟩:=open_int Tryz.underlying3 (hval 0 3 v0 rfl rfl) h0
 obtain⟨a1,w1⟩:=open_listsC (hval 1 22 v1 rfl rfl) h1
 obtain⟨a2,rfl,rfl,rfl,w2⟩:=open_int Tryz.underlying3 (hval 2 3 v2 rfl rfl) h2
 obtain⟨a3,w3⟩:=open_bytesC (hval 3 53 v3 rfl rfl) h3
 obtain⟨a4,rfl,rfl,rfl,w4⟩:=open_int Tryz.underlying3 (hval 4 3 v4 rfl rfl) h4
 clear hA0 hval0
 simp only[List.append_nil,List.nil_append]at hW'
 refine(closureWhole_any W a0 v1 a1 a2 v3 a3 a4 (fit_i64 w0) w1 (fit_i64 w2) w3 (fit_i64 w4)).mono fun e W' ⟨he,hm⟩=>?_
 subst he
 exact⟨_,rfl,post_of_mod (pv:=[]) hW' hm (fun _=>(trodAll_cons_mk (shut_bool Tryz.underlying4 _) trodAll_mk0))
  (trodAll_cons_mk (shut_int Tryz.underlying3 w0) (trodAll_cons_mk (carry closureWhole_readsBytes closureWhole_rowsBytes hm h1) (trodAll_cons_mk (shut_int Tryz.underlying3 w2) (trodAll_cons_mk (carry closureWhole_readbytes closureWhole_rowbytes hm h3) (trodAll_cons_mk (shut_int Tryz.underlying3 w4) trodAll_mk0))))) (by rfl)⟩

theorem closureWhole_band{a b:Bool}(h:a=true)(k:b=true):(a&&b)=true:=by rw[h,k];rfl
theorem closureWhole_k0:Rows.closureWholeRow.wf (OpenSpec.ofChange Rows.closureWholeSpec)=true:=by kernel_rfl
theorem closureWhole_k1:laidOutB Tryz.prog=true:=by kernel_rfl
theorem closureWhole_k2:mapsRowed Tryz.prog=true:=by kernel_rfl
theorem closureWhole_k3:Tryz.f6.params.all (Tryz.prog.readableRec ·)=true:=by kernel_rfl
theorem closureWhole_k4:namedTie Tryz.prog Rows.closureWholeRow.named Rows.closureWholeSpec.vars=true:=by kernel_rfl
theorem closureWhole_k5:(Rows.closureWholeRow.stops==[])=true:=by kernel_rfl
theorem closureWhole_k6:(Tryz.prog.stops==[])=true:=by kernel_rfl
theorem closureWhole_k7:(Rows.closureWholeRow.knobs==[])=true:=by kernel_rfl
theorem closureWhole_k8:(Tryz.prog.stopKnobs==[])=true:=by kernel_rfl
theorem closureWhole_k9:(Rows.closureWholeRow.inPlace==Tryz.prog.inPlace 6)=true:=by kernel_rfl
theorem closureWhole_k10:(Rows.closureWholeRow.unfollowed==Tryz.prog.unfollowed 6)=true:=by kernel_rfl
theorem closureWhole_k11:(Rows.closureWholeRow.recurses==Tryz.prog.recurses 6)=true:=by kernel_rfl
theorem closureWhole_k12:(Rows.closureWholeRow.named==Tryz.prog.varsNamed 6)=true:=by kernel_rfl
theorem closureWhole_k13:(Rows.closureWholeRow.maps==(Tryz.f6.params.toList++Rows.closureWholeSpec.plain.varTypes Tryz.prog).any (Tryz.prog.mapsRec ·))=true:=by kernel_rfl
theorem closureWhole_k14:(Rows.closureWholeRow.ifaces==(Tryz.f6.params.toList++Rows.closureWholeSpec.plain.varTypes Tryz.prog).any (Tryz.prog.ifacesRec ·))=true:=by kernel_rfl
theorem closureWhole_k15:(Rows.closureWholeRow.mapsOut==Tryz.prog.mapsAmong Tryz.f6.resultTypes.toList)=true:=by kernel_rfl
theorem closureWhole_k16:(Rows.closureWholeRow.loops==(Tryz.f6.params.toList++Rows.closureWholeSpec.plain.varTypes Tryz.prog).any (Tryz.prog.loopsFrom ·))=true:=by kernel_rfl
theorem closureWhole_k17:(Rows.closureWholeRow.wideKeys==(Tryz.f6.params.toList++Rows.closureWholeSpec.plain.varTypes Tryz.prog++Tryz.f6.resultTypes.toList).any (Tryz.prog.wideKeysFrom ·))=true:=by kernel_rfl
theorem closureWhole_k18:Rows.closureWholeSpec.vars.all (Tryz.prog.varReadable ·)=true:=by kernel_rfl
theorem closureWhole_k19:Tryz.f6.resultTypes.all (fun t=>Tryz.prog.readableRec t&&decide (t<Tryz.prog.types.size))=true:=by kernel_rfl
theorem closureWhole_k20:(Rows.closureWholeRow.ifacesOut==Tryz.f6.resultTypes.toList.any (Tryz.prog.ifacesRec ·))=true:=by kernel_rfl
theorem closureWhole_k21:(Rows.closureWholeRow.loopsOut==Tryz.f6.resultTypes.toList.any (Tryz.prog.loopsFrom ·))=true:=by kernel_rfl
theorem closureWhole_k22:(Rows.closureWholeRow.plainKeys==Tryz.prog.plainKeys)=true:=by kernel_rfl
theorem closureWhole_k23:Rows.closureWholeRow.shortTexts.isNone=true:=by kernel_rfl
theorem closureWhole_k24:Tryz.prog.stopsHeard=true:=by kernel_rfl
theorem closureWhole_k25:Tryz.prog.mayEnter=true:=by kernel_rfl
theorem closureWhole_k26:(Rows.closureWholeRow.lifted==Tryz.prog.liftsFinal)=true:=by kernel_rfl
theorem closureWhole_k27:(Tryz.prog.make==some Rows.closureWholeRow.make)=true:=by kernel_rfl
theorem closureWhole_k29:(Rows.closureWholeRow.pinned==Rows.closureWholeRow.pinnedBy)=true:=by kernel_rfl
theorem closureWhole_k30:(Rows.closureWholeRow.veiled==(Tryz.f6.params.toList++Rows.closureWholeSpec.plain.varTypes Tryz.prog++Tryz.f6.resultTypes.toList).any (Tryz.prog.veiledRec ·))=true:=by kernel_rfl
theorem closureWhole_k31:Rows.closureWholeRow.veiledFits Tryz.prog Tryz.f6.params.toList (Tryz.f6.params.toList++Rows.closureWholeSpec.plain.varTypes Tryz.prog++Tryz.f6.resultTypes.toList)=true:=by kernel_rfl
theorem closureWhole_closed:joinedFacts Tryz.prog 6 Tryz.f6 Rows.closureWholeSpec Rows.closureWholeRow=true:=by
 unfold joinedFacts
 exact closureWhole_band (closureWhole_band (closureWhole_band (closureWhole_band (closureWhole_band (closureWhole_band (closureWhole_band (closureWhole_band (closureWhole_band (closureWhole_band (closureWhole_band (closureWhole_band (closureWhole_band (closureWhole_band (closureWhole_band (closureWhole_band (closureWhole_band (closureWhole_band (closureWhole_band (closureWhole_band (closureWhole_band (closureWhole_band (closureWhole_band (closureWhole_band (closureWhole_band (closureWhole_band (closureWhole_band (closureWhole_band (closureWhole_band (closureWhole_band (closureWhole_band closureWhole_k0 closureWhole_k1) closureWhole_k2) closureWhole_k3) closureWhole_k4) closureWhole_k5) closureWhole_k6) closureWhole_k7) closureWhole_k8) closureWhole_k9) closureWhole_k10) closureWhole_k11) closureWhole_k12) closureWhole_k13) closureWhole_k14) closureWhole_k15) closureWhole_k16) closureWhole_k17) closureWhole_k18) closureWhole_k19) closureWhole_k20) closureWhole_k21) closureWhole_k22) closureWhole_k23) closureWhole_k24) closureWhole_k25) closureWhole_k26) closureWhole_k27) (by kernel_rfl)) closureWhole_k29) closureWhole_k30) closureWhole_k31
theorem closureWhole_named:Tryz.prog.funcNamed Rows.closureWholeRow.func=some 6:=by kernel_rfl
theorem closureWhole_inst:Tryz.f6.isInstance Tryz.prog Rows.closureWholeRow.origin Rows.closureWholeRow.targs:=of_decide_eq_true (by kernel_rfl)
theorem closureWhole_wrap:Tryz.f6.isWrapper Tryz.prog Rows.closureWholeRow.wrapper Rows.closureWholeRow.mainSum:=by unfold Func.isWrapper;first|(rw[if_pos (by decide+kernel)];kernel_rfl)|(rw[if_neg (by decide+kernel)];exact⟨rfl,rfl⟩)

theorem closureWhole_over:Rows.closureWholeRow.holds Tryz.pinned (OpenSpec.ofChange Rows.closureWholeSpec):=
 OpenClaim.holds_of_wide 6 Tryz.f6 rfl rfl rfl rfl rfl rfl rfl ⟨rfl,rfl,rfl,rfl,rfl⟩ rfl rfl rfl rfl rfl closureWhole_named Tryz.func6 closureWhole_closed
  closureWhole_inst closureWhole_wrap
  (fun os started H enc _=>closureWhole_lifted os started H enc)

theorem closureWhole_proved:Rows.ClosureWholeSaid:=
 closureWhole_over
#print axioms closureWhole_proved
end Go.Proofs.YtjeonjoifjbohaaGreat
