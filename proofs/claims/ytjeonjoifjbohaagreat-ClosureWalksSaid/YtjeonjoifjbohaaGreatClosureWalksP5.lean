/- What the statement ClosureWalks needs, part 5. -/
import Derived.OrdersIn
import Derived.Test.YtjeonjoifjbohaaGreatClosureWalksP4
set_option linter.unusedVariables false
set_option linter.unusedSimpArgs false
set_option linter.unnecessarySimpa false
set_option linter.unusedSectionVars false
set_option maxRecDepth 10000
set_option maxHeartbeats 8000000
namespace Go.Proofs.YtjeonjoifjbohaaGreat
section
open Go.RowKit Go.Proofs.Tryz Go.Lib
def EndsAs(ch:Option (List PanicEntry))(e:Ending):Prop:=match ch with
 |none=>∃v,e=.returned v
 |some c=>e=.panicked c
structure Kept(Kp:World->World->Prop)(n0:Nat):Prop where
 refl:∀W,Kp W W
 trans:∀{A B C},Kp A B->Kp B C->Kp A C
 of0:∀{W W'},Mod NoB W W'->Kp W W'
 put:∀{W:World}{l:Nat}{o:Obj}(o':Obj),W.heap[l]?=some o->o.isCells=false->n0<=l->Kp W (W.putObj l o')
def KSt(St:Nat->Prop)(W W':World):Prop:=Mod (fun k=>¬St k) W W'
theorem kept_st{St:Nat->Prop}{n0:Nat}(hSt:∀k,St k->k<n0):Kept (KSt St) n0 where
 refl W:=Mod.refl _ W
 trans h k:=Mod.trans h k fun _ _ h=>h
 of0 h:=h.mono fun _ _ h=>h.elim
 put o' _ _ hl:=(Mod.refl _ _).grown (grownBy_putObj' _ _ o') (fun k e _ hk=>by cases e;have:=hSt _ hk;omega)
def KSc(St:Nat->Prop)(W W':World):Prop:=KC W W'/\KSt St W W'
theorem kept_sc{St:Nat->Prop}{n0:Nat}(hSt:∀k,St k->k<n0):Kept (KSc St) n0 where
 refl W:=⟨KC.refl _,Mod.refl _ W⟩
 trans h k:=⟨h.1.trans k.1,(kept_st hSt).trans h.2 k.2⟩
 of0 h:=⟨KC.of0 h,(kept_st hSt).of0 h⟩
 put o' h hc hl:=⟨KC.putObj o' h hc,(kept_st hSt).put o' h hc hl⟩
def GivesX(P:Program){α:Type}(gf:Nat)(lb:Array Value)(enc:α->Array Value->World->Prop)(Kp:World->World->Prop)(xs:List α)(ch:Option (List PanicEntry))(w:World):Prop:=
 ∀(l:Nat)(J:List α->World->Prop)(W:World),Mod NoB w W->OwnFrom W.heap.size J->
  (∀pre x rest W1 args,xs=pre++x::rest->J pre W1->enc x args W1->YieldAt Fence.wide 0 P l args W1 fun e W'=>e=.returned (.bool true)/\J (pre++[x]) W'/\Kp W1 W'/\KeepsFrom W.heap.size W1 W')->
  J [] W->Calls P gf (#[.func (.yield l) #[] #[]]++lb) W fun e W'=>EndsAs ch e/\J xs W'
theorem wpIn_rangeFunc_gvx{P:Program}{n:Nat}{α:Type}{g:Operand}{ps:Array Tmp}{assign body:Code}{Q:Exit->Act->World->Prop}{a:Act}{w:World}{gf:Nat}{lb:Array Value}(hg:a.eval g=.func (.func gf) #[] lb)
 (eg:∀args w,(callFunc gf args).run P w=.ok (.enter gf args) w){enc:α->Array Value->World->Prop}{Kp:World->World->Prop}{xs:List α}{ch:Option (List PanicEntry)}{w0:World}(hseq:GivesX P gf lb enc Kp xs ch w0)(hb0:Mod NoB w0 w)(hps:∀x args W,enc x args W->args.size=ps.size)
 (hKp:Kept Kp w.heap.size)
 (I:List α->World->Prop)(hI:OwnFrom w.heap.size I)(h0:I [] w)(Ax:α->Act->World->Prop)(hAx:∀x a',OwnFrom w.heap.size (fun(_:Unit) W=>Ax x a' W))
 (hassign:∀(l:Nat)(pre:List α)(x:α)(rest:List α)(args:Array Value)(W:World)(K:Act->World->Prop),xs=pre++x::rest->I pre W->enc x args W->(∀a' W',KeepsFrom w.heap.size W W'->Kp W W'->I pre W'->Ax x a' W'->K a' W')->
  assign.wpIn (Fence.wide.inRound l) 0 P (Exit.then K (fun _ _ _=>False)) { tmps:=(ps.zip args).foldl (fun t (p,v)=>t.setIfInBounds p v) a.tmps,defers:=[] } W)
 (hbody:∀(l:Nat)(pre:List α)(x:α)(rest:List α)(a':Act)(W:World),xs=pre++x::rest->I pre W->Ax x a' W->
  body.wpIn (Fence.wide.inRound l) 0 P (Exit.then (fun _ W'=>KeepsFrom w.heap.size W W'/\Kp W W'/\I (pre++[x]) W') (fun _ _ _=>False)) a' W)
 (hdone:ch=none->∀(D:Nat)(W:World),w.heap.size<=D->I xs W->W.heap[D]?=some (.deferred (some []))->Q .normal { a with defers:={ target:=.collected D,args:=#[] }::a.defers } W)
 (hfell:∀c,ch=some c->∀(D:Nat)(W:World),w.heap.size<=D->I xs W->W.heap[D]?=some (.deferred (some []))->Q (.panic c) { a with defers:={ target:=.collected D,args:=#[] }::a.defers } W):
 (Code.rangeFunc g ps assign body).wpIn Fence.wide n P Q a w:=by
 refine wpIn_rangeFunc ?_;intro fn hfn;rw[show Fence.wide.round=none from rfl]
 obtain⟨rec,hrec⟩:∃rec:LoopState->Loop,rec=fun st=>{ state:=st,pending:=none,fn,tmps:=a.tmps,params:=ps,assign,body,defers:=w.heap.size }:=⟨_,rfl⟩
 obtain⟨W1,hW1⟩:∃W1,(w.alloc (.deferred (some []))).alloc (.loop (rec .ready))=W1:=⟨_,rfl⟩;have hs1:W1.heap.size=w.heap.size+2:=by rw[<-hW1];simp
 have hL1:W1.heap[w.heap.size+1]?=some (.loop (rec .ready)):=by
  rw[<-hW1];have:=World.alloc_heap_new (w.alloc (.deferred (some []))) (.loop (rec .ready));rwa[World.size_alloc]at this
 have hK1:W1.heap[w.heap.size]?=some (.deferred (some [])):=by
  rw[<-hW1];exact(Below.heap_alloc _ _ _ (by simp)).trans (World.alloc_heap_new w _)
 have hI1:I [] W1:=by rw[<-hW1];exact hI.alloc _ (hI.alloc _ h0)
 have hb1:Mod NoB w0 W1:=by rw[<-hW1];exact(hb0.alloc _).alloc _
 refine⟨w.heap.size+1,[{ target:=.collected w.heap.size,args:=#[] }],W1,{ target:=.fn (.func gf) lb,args:=#[.func (.yield (w.heap.size+1)) #[] #[]] },W1,gf,
  #[.func (.yield (w.heap.size+1)) #[] #[]]++lb,W1,?_,?_,?_,?_,fun h=>(by simp[Fence.wide]at h),?_⟩
 ·rw[<-hW1,hrec];exact run_enterLoop_outer _ _ _ _ _
 ·simp only[resolve,hg]
  simp[go_sem]
 ·intro f' _;trivial
 ·simp[invoke,go_sem,eg]
 ·have hold:∀{A B:World}{row:Option Nat}{k:Nat}{o:Obj},A.grownBy B row->(∀r,row=some r->W1.heap.size<=r/\∃o:Obj,A.heap[r]?=some o/\o.isCells=false)->k<W1.heap.size->A.heap[k]?=some o->B.heap[k]?=some o:=
   fun hg hr hk ho=>(hg.block _ (Array.getElem?_eq_some_iff.1 ho).1 (fun e=>by have:=(hr _ e.symm).1;omega)).trans ho
  have hcalls:=hseq (w.heap.size+1) (fun pre W=>I pre W/\W.heap[w.heap.size+1]?=some (.loop (rec .ready))/\W.heap[w.heap.size]?=some (.deferred (some []))) W1 hb1
   (fun s A B row hs hg' hr=>⟨hI s A B row hs.1 hg' (fun r e=>⟨by have:=(hr r e).1;omega,(hr r e).2⟩),hold hg' hr (by omega) hs.2.1,hold hg' hr (by omega) hs.2.2⟩)
   ?_ ⟨hI1,hL1,hK1⟩
  ·refine(callsIn_wide.2 hcalls).mono ?_
   rintro e W2 ⟨he,hi,hl,hk⟩
   cases ch with
   |none=>
    obtain⟨v,rfl⟩:=he
    exact⟨none,_,by have:=run_endLoop (P:=P) hl (by rw[hrec];simp);rw[hrec]at this;exact this,hdone rfl _ _ (Nat.le_refl _) (hI.putObj _ hi (by omega) hl rfl) ((World.putObj_heap_other (by omega)).trans hk)⟩
   |some c=>
    have he:e=.panicked c:=he;subst he;exact hfell c rfl _ _ (Nat.le_refl _) hi hk
  ·rintro pre x rest W args hxs ⟨hi,hl,hk⟩ hen
   have hlt:w.heap.size+1<W.heap.size:=(Array.getElem?_eq_some_iff.1 hl).1;have hy:=run_yield (P:=P) (args:=args) hl (by rw[hrec];exact hps x args W hen)
   rw[hrec]at hy;refine⟨fn,_,assign,body,hy,roundIn_of_wpIn hfn (hassign _ pre x rest args W _ hxs hi hen ?_)⟩;clear hy;intro a' Wa hkfa hkca hia hax
   have hla:=hkfa.same _ _ (by omega) hl rfl;have hka:=hkfa.same _ _ (Nat.le_refl _) hk rfl;have hlta:w.heap.size+1<Wa.heap.size:=(Array.getElem?_eq_some_iff.1 hla).1
   refine⟨_,run_beginRound hla (by rw[hrec]),?_⟩;obtain⟨Wb,hWb⟩:∃Wb,Wa.putObj (w.heap.size+1) (.loop { rec .ready with state:=.busy })=Wb:=⟨_,rfl⟩
   have hlb:Wb.heap[w.heap.size+1]?=some (.loop { rec .ready with state:=.busy }):=by rw[<-hWb];exact World.putObj_heap_same hlta
   have hkb:Wb.heap[w.heap.size]?=some (.deferred (some [])):=by rw[<-hWb];exact(World.putObj_heap_other (by omega)).trans hka
   have hcb:Kp Wa Wb:=by rw[<-hWb];exact hKp.put _ hla rfl (by omega)
   have hfb:KeepsFrom W1.heap.size Wa Wb:=by
    rw[<-hWb];exact KeepsFrom.of_grownBy (grownBy_putObj' Wa _ _) (fun j e=>by cases e;omega)
   have hib:I pre Wb:=by rw[<-hWb];exact hI.putObj _ hia (by omega) hla rfl
   have haxb:Ax x a' Wb:=by rw[<-hWb];exact(hAx x a').putObj (s:=()) _ hax (by omega) hla rfl
   rw[hWb];refine wpIn_mono (hbody _ pre x rest a' _ hxs hib haxb) ?_;rintro e a3 W3 hp
   cases e with
   |normal=>
    obtain⟨hk3,hc3,hi3⟩:=hp;have hl3:=hk3.same _ _ (by omega) hlb rfl;have hq3:=hk3.same _ _ (Nat.le_refl _) hkb rfl;have hr:=run_endRound (P:=P) none hl3
    rw[hrec]at hr hl3
    refine⟨_,_,hr,rfl,⟨hI.putObj _ hi3 (by omega) hl3 rfl,?_,(World.putObj_heap_other (by omega)).trans hq3⟩,hKp.trans (hKp.trans (hKp.trans hkca hcb) hc3) (hKp.put _ hl3 rfl (by omega)),?_⟩
    ·rw[hrec];exact World.putObj_heap_same (Array.getElem?_eq_some_iff.1 hl3).1
    ·refine KeepsFrom.trans (KeepsFrom.trans (KeepsFrom.trans ?_ hfb) ?_) (KeepsFrom.of_grownBy (grownBy_putObj' W3 _ _) (fun j e=>by cases e;omega))
     ·exact⟨hkfa.size,fun k o hb ho hc=>hkfa.same k o (by omega) ho hc⟩
     ·exact⟨hk3.size,fun k o hb ho hc=>hk3.same k o (by omega) ho hc⟩
   |_=>exact hp.elim
theorem Sl.inside{α:Type}{own:Bool}{w:World}{G:Nat->Prop}{sz:Nat}{R:Array Value->α->Prop}{v:Value}{l:List α}(h:Sl own w G sz R v l)(hz:0<sz):Sl own w (fun k=>k<w.heap.size) sz R v l:=by
 obtain⟨ad,cap,e,h1,h2,h3⟩:=h;refine⟨ad,cap,e,h1,h2,fun hne=>?_⟩;obtain⟨b,off,ha,hG,ho,hc⟩:=h3 hne;refine⟨b,off,ha,?_,ho,hc⟩
 cases l with
 |nil=>exact absurd rfl hne
 |cons x l=>
  obtain⟨cs,hs,_,hcs⟩:=hc 0 (by simp);have h0:=hcs 0 (by omega);rw[Array.getElem?_eq_getElem (by omega:0<cs.size)]at h0;exact block_lt_of_cell h0
section
variable{Z:Nat->Prop}{base:Nat}{l:List Evt}{v:Value}{w w':World}
end
end
section
open Go.Proofs.Tryz Go.Lib
end
section
open Go.RowKit Go.Proofs.Tryz Go.Lib
section
variable{P:Program}{ops:Array Oper}{Q:Exit->Act->World->Prop}{S:World->Prop}{o:Oper}{r:List (Oper×Nat)}{a:Act}{w:World}
end
end
section
open Go.RowKit Go.Shelf Go.Proofs.Tryz Go.Lib
section
variable{P:Program}{n fuel:Nat}{ops:Array Oper}{Q:Exit->Act->World->Prop}{listed:Array Bool}{a:Act}{w:World}{o:Oper}
end
theorem gat_cells{α:Type}{enc:α->List Value}{e k base:Nat}{w:World}{v:Value}{l:List α}(h:Gat enc e k base w v l){q:Nat}(hq:v.ownBlock=some q):∃o,w.heap[q]?=some o/\o.isCells=true:=by
 rcases h.2 with⟨rfl,-⟩|⟨g,cap,cur,rfl,-,hg,-⟩
 ·cases hq
 ·cases hq;exact⟨_,hg,rfl⟩
def MarksOk(B:Nat):List Deferred->World->Prop
 | [],_=>True
 |d::ds,w=>(∃D,d={ target:=.collected D,args:=#[] }/\B<=D/\w.heap[D]?=some (.deferred (some []))/\∀d'∈ds,d'.target≠.collected D)/\MarksOk B ds w
theorem xI{B:Nat}{ds ds':List Deferred}{w:World}(hd:ds'=ds)(h:MarksOk B ds w):MarksOk B ds' w:=by rw[hd];exact h
theorem MarksOk.keep{B:Nat}{w w':World}:∀{ds:List Deferred},MarksOk B ds w->(∀D,B<=D->Deferred.mk (.collected D) #[]∈ds->w.heap[D]?=some (.deferred (some []))->w'.heap[D]?=some (.deferred (some [])))->MarksOk B ds w'
 | [],_,_=>trivial
 |_::_,⟨⟨D,e,h1,h2,h3⟩,h⟩,k=>⟨⟨D,e,h1,k D h1 (by rw[e];exact List.mem_cons_self) h2,h3⟩,h.keep fun D h1 hm h2=>k D h1 (List.mem_cons_of_mem _ hm) h2⟩
theorem MarksOk.from{B n:Nat}{w w':World}{ds:List Deferred}(h:MarksOk B ds w)(hk:KeepsFrom n w w')(hn:n<=B):MarksOk B ds w':=h.keep fun D h1 _ h2=>hk.same D _ (by omega) h2 rfl
theorem MarksOk.mod0{B:Nat}{w w':World}{ds:List Deferred}(h:MarksOk B ds w)(hm:Mod NoB w w'):MarksOk B ds w':=h.keep fun _ _ _ h2=>hm.obj id h2
theorem MarksOk.lt{B:Nat}{w:World}:∀{ds:List Deferred},MarksOk B ds w->∀d∈ds,∃D,d={ target:=.collected D,args:=#[] }/\D<w.heap.size
 | [],_,d,hd=>by cases hd
 |_::_,⟨⟨D,e,h1,h2,h3⟩,h⟩,d,hd=>by
  rcases List.mem_cons.1 hd with rfl|hd
  ·exact⟨D,e,(Array.getElem?_eq_some_iff.1 h2).1⟩
  ·exact h.lt d hd
theorem MarksOk.cons{B D:Nat}{w0 w:World}{ds:List Deferred}(h0:MarksOk B ds w0)(h:MarksOk B ds w)(hD:w0.heap.size<=D)(hB:B<=D)(hK:w.heap[D]?=some (.deferred (some []))):MarksOk B ({ target:=.collected D,args:=#[] }::ds) w:=
 ⟨⟨D,rfl,hB,hK,fun d' hd e=>by
  obtain⟨D',e',hlt⟩:=h0.lt d' hd;rw[e']at e;have e:D'=D:=by simpa using e
  omega⟩,h⟩
theorem leaves_marks{P:Program}{fn:Func}{tmps:Array Value}{R:Ending->World->Prop}{B:Nat}(hR:∀e w D,B<=D->w.heap[D]?=some (.deferred (some []))->R e w->R e (w.putObj D (.deferred none)))(hv:∀w,∃v,(results fn tmps).run P w=.ok v w):
 ∀(ds:List Deferred)(u:FrameMode)(w:World),u≠.run->MarksOk B ds w->(u=.returning->∀v,R (.returned v) w)->(∀c,u=.panicking c->R (.panicked c) w)->LeavesInM Fence.wide 0 P fn tmps R ds u w
 | [],u,w,hu,_,h1,h2=>by
  cases u with
  |run=>exact absurd rfl hu
  |returning=>obtain⟨v,hv⟩:=hv w;exact⟨v,hv,h1 rfl v⟩
  |panicking c=>exact h2 c rfl
 |d::ds,u,w,hu,⟨⟨D,e,k1,k2,k3⟩,h⟩,h1,h2=>by
  refine⟨hu,.inl ⟨D,_,by rw[e],run_takeDeferred k2,?_⟩⟩
  refine leaves_marks hR hv ds u _ hu (h.keep fun D' _ hm h'=>?_) (fun e v=>hR _ _ _ k1 k2 (h1 e v)) (fun c e=>hR _ _ _ k1 k2 (h2 c e))
  have hne:D'≠D:=fun e=>k3 _ hm (by rw[e]);exact(World.putObj_heap_other hne).trans h'
def WkQ(B:Nat)(R:Ending->World->Prop):Exit->Act->World->Prop
 | .normal,a,w| .ret,a,w=>MarksOk B a.defers w/\∀v,R (.returned v) w
 | .panic c,a,w=>MarksOk B a.defers w/\R (.panicked c) w
 |_,_,_=>False
theorem enter_marks{P:Program}{f:FuncId}{fn:Func}{c:Code}{args:Array Value}{w:World}{R:Ending->World->Prop}(B:Nat)(hf:P.funcs[f]?=some fn)(hb:fn.body=some c)(hR:∀e w D,B<=D->w.heap[D]?=some (.deferred (some []))->R e w->R e (w.putObj D (.deferred none)))
 (hv:∀(t:Array Value) w,∃v,(results fn t).run P w=.ok v w)(h:c.wpIn Fence.wide 0 P (WkQ B R) { tmps:=args++Array.replicate (fn.ntmps-args.size) undef,defers:=[] } w):Calls P f args w R:=by
 refine(callsIn_wide (n:=0)).1 (callsIn_of_wp_marks hf hb trivial (wpIn_mono h ?_) rfl);intro e a w hq
 cases e with
 |normal=>exact leaves_marks hR (hv _) _ _ _ (by simp) hq.1 (fun _=>hq.2) (fun c e=>by cases e)
 |ret=>exact leaves_marks hR (hv _) _ _ _ (by simp) hq.1 (fun _=>hq.2) (fun c e=>by cases e)
 |panic c=>exact leaves_marks hR (hv _) _ _ _ (by simp) hq.1 (fun e=>by cases e) (fun c' e=>by cases e;exact hq.2)
 |_=>exact hq.elim
theorem wp_enterP{P:Program}{K:Act->World->Prop}{Q:Exit->Act->World->Prop}{o:Oper}{a:Act}{w:World}{f:FuncId}{args:Array Value}{c:List PanicEntry}{R:World->Prop}(hr:(execOp a.eval o).run P w=.ok (.enter f args) w)
 (hc:Calls P f args w (fun e w'=>e=.panicked c/\R w'))(k:∀w',R w'->Q (.panic c) a w'):o.wp P a w K Q:=by
 unfold Oper.wp;rw[hr,Oper.upon_enter];refine hc.mono fun e w' he=>?_;obtain⟨rfl,h⟩:=he;exact k w' h
def wkFr(L0:List Value)(g9 g10:Value)(k:Nat)(l:List Value):List Value:=(((L0.set 9 g9).set 10 g10).take 102)++(.int .i64 (k:Int)::l)
theorem wp_loopFr{P:Program}{Q:Exit->Act->World->Prop}{c:Code}{L0:List Value}{ds0:List Deferred}{w:World}(N:Nat)(Rel:Nat->List Deferred->World->Prop)(h0:Rel 0 ds0 w)(hL:∃g9 g10 l,l.length=19/\wkFr L0 g9 g10 0 l=L0)(hlen:L0.length=122)
 (round:∀(k:Nat)(ds:List Deferred)(g9 g10 x103 x104 x105 x106 x107 x108 x109 x110 x111 x112 x113 x114 x115 x116 x117 x118 x119 x120 x121:Value)(w:World),Rel k ds w->
  c.wpIn Fence.wide 0 P (Exit.then (fun a' w'=>k<N/\∃ds' g9' g10' l',l'.length=19/\a'=⟨(wkFr L0 g9' g10' (k+1) l').toArray,ds'⟩/\Rel (k+1) ds' w') Q)
   ⟨(wkFr L0 g9 g10 k [x103,x104,x105,x106,x107,x108,x109,x110,x111,x112,x113,x114,x115,x116,x117,x118,x119,x120,x121]).toArray,ds⟩ w):
 (Code.loop c).wpIn Fence.wide 0 P Q ⟨L0.toArray,ds0⟩ w:=by
 have hk:∀(g9 g10:Value)(k:Nat)(l:List Value),(wkFr L0 g9 g10 k l)[102]?=some (.int .i64 (k:Int)):=fun g9 g10 k l=>by
  unfold wkFr;have h1:(List.take 102 ((L0.set 9 g9).set 10 g10)).length=102:=by rw[List.length_take];simp[hlen]
  rw[List.getElem?_append_right (by omega),h1]
  rfl
 refine wpIn_loop (fun a w=>∃(k:Nat)(ds:List Deferred)(g9 g10:Value)(l:List Value),l.length=19/\a=⟨(wkFr L0 g9 g10 k l).toArray,ds⟩/\Rel k ds w) (fun a _=>N-(intOf ((a.tmps[102]?).getD undef)).toNat) ?_ ?_
 ·obtain⟨g9,g10,l,h1,h2⟩:=hL
  exact⟨0,ds0,g9,g10,l,h1,by rw[h2],h0⟩
 ·rintro a w ⟨k,ds,g9,g10,l,hl,rfl,hr⟩
  match l,hl with
  | [x103,x104,x105,x106,x107,x108,x109,x110,x111,x112,x113,x114,x115,x116,x117,x118,x119,x120,x121],_=>
   refine wpIn_mono (round k ds g9 g10 x103 x104 x105 x106 x107 x108 x109 x110 x111 x112 x113 x114 x115 x116 x117 x118 x119 x120 x121 w hr) ?_;intro e a' w' hq
   cases e with
   |normal=>
    obtain⟨hlt,ds',g9',g10',l',hl',rfl,hr'⟩:=hq;refine⟨⟨k+1,ds',g9',g10',l',hl',rfl,hr'⟩,?_⟩;simp only[List.getElem?_toArray,hk,Option.getD_some,intOf]
    omega
   |_=>exact hq
def ThE(t:Thg)(args:Array Value)(w:World):Prop:=∃b,args=#[.pointer (some ⟨b,0,none⟩)]/\ThAt w b t
theorem thZ:(prog.info? 150).bind (·.zero)=some (.agg (jL ⟨descZ,0,false⟩)):=by kernel_rfl
theorem built_thing(d:DescL)(h:d.id.length=32)(n:Int)(k:Nat)(hk:n=k)(b:Bool):prog.built 150 [(0,.agg (qB d)),(1,.int .i64 n),(2,.bool b)]=some (jL ⟨d,k,b⟩):=by
 subst hk;have p:xR prog 150=some [(0,35),(35,1),(36,1)]:=by kernel_rfl
 have hz:(jL ⟨descZ,0,false⟩).size=37:=thCells_size qV;have hd:(qB d).size=35:=qO h;rw[zL thZ p]
 have hc:(Value.agg (qB d)).cells=qB d:=rfl;have h35:(qZ (jL ⟨descZ,0,false⟩) 0 (qB d)).size=37:=by rw[yC (by omega)];exact hz
 rw[zD (off:=0) (size:=35) rfl (by rw[hc];exact hd) (by rw[hz];omega),hc,zD (off:=35) (size:=1) rfl (by rfl) (by omega),zD (off:=36) (size:=1) rfl (by rfl) (by rw[yC (by simp[Value.cells];omega)];omega),xT]
 congr 1
 apply Array.toList_inj.1
 have hm:(d.id.map byteV).length=32:=by simp[h]
 have t34:List.take 34 (d.id.map byteV)=d.id.map byteV:=List.take_of_length_le (by omega)
 have t35:List.take 35 (d.id.map byteV)=d.id.map byteV:=List.take_of_length_le (by omega);have d35:List.drop 35 (d.id.map byteV)=[]:=List.drop_eq_nil_of_le (by omega)
 have d36:List.drop 36 (d.id.map byteV)=[]:=List.drop_eq_nil_of_le (by omega)
 simp[qZ,Value.cells,jL,qB,zX,h,descZ,zeros32,List.take_append,List.drop_append,t34,t35,d35,d36]
def SeqTR(w:World)(bs bt:Nat):Ending->World->Prop:=fun e w'=>∃B1 B2,e=.returned (.func (.func 155) #[] #[.pointer (some ⟨B1,0,none⟩),.pointer (some ⟨B2,0,none⟩)])/\w'.heap[B1]?=some (.cells #[.pointer (some ⟨bs,0,none⟩)] 29 (0,0))/\w'.heap[B2]?=some (.cells #[.pointer (some ⟨bt,0,none⟩)] 148 (0,0))/\Mod NoB w w'
theorem clSeq_any(w:World)(bs bt:Nat):Calls prog 83 #[.pointer (some ⟨bs,0,none⟩),.pointer (some ⟨bt,0,none⟩)] w (SeqTR w bs bt):=by
 go_enter func83,ntmps83;go_upto_region 0 with(fail);refine wpR [1,1,3] ?_;simp only[stz];refine wpD (zT 29 _ _ (by rfl) (by rfl) (fun w1 hB1 hm1 hs1=>?_))
 replace hB1:w1.heap[w.heap.size]?=some (.cells #[.pointer (some ⟨bs,0,none⟩)] 29 (0,0)):=hB1;try simp only[nmz]
 refine wpD (zT 148 _ _ (by rfl) (by rfl) (fun w2 hB2 hm2 hs2=>?_));replace hB2:w2.heap[w1.heap.size]?=some (.cells #[.pointer (some ⟨bt,0,none⟩)] 148 (0,0)):=hB2
 simp only[stz];have hB12:=hm2.obj id hB1;have hmf:=makeFunc_run;go_wp2;go_ret;exact⟨_,_,rfl,hB12,hB2,hm1.trans0 hm2⟩
structure WkEnv(w:World)(bs ms wd:Nat)(room:Int)(bl:List Blb)(y by' B1 B2 bt:Nat)(t:Thg):Prop where
 yc:w.cell? ⟨by',0,none⟩=some (.func (.yield y) #[] #[])
 sc:w.cell? ⟨B1,0,none⟩=some (.pointer (some ⟨bs,0,none⟩))
 tc:w.cell? ⟨B2,0,none⟩=some (.pointer (some ⟨bt,0,none⟩))
 th:ThAt w bt t
 st:StInv w bs ms wd room bl
theorem WkEnv.keep{w w':World}{bs ms wd:Nat}{room:Int}{bl:List Blb}{y by' B1 B2 bt:Nat}{t:Thg}(h:WkEnv w bs ms wd room bl y by' B1 B2 bt t)(hk:KSc (SFoot bs ms bl) w w'):WkEnv w' bs ms wd room bl y by' B1 B2 bt t:=
 ⟨hk.1.cell h.yc,hk.1.cell h.sc,hk.1.cell h.tc,hk.1.obj h.th rfl,h.st.keep hk.2 (fun k hk e=>e hk)⟩
theorem KSc.of0{St:Nat->Prop}{w w':World}(h:Mod NoB w w'):KSc St w w':=⟨KC.of0 h,h.mono fun _ _ h=>h.elim⟩
theorem KSc.trans{St:Nat->Prop}{A B C:World}(h:KSc St A B)(k:KSc St B C):KSc St A C:=⟨h.1.trans k.1,Mod.trans h.2 k.2 fun _ _ h=>h⟩
theorem WkEnv.mod0{w w':World}{bs ms wd:Nat}{room:Int}{bl:List Blb}{y by' B1 B2 bt:Nat}{t:Thg}(h:WkEnv w bs ms wd room bl y by' B1 B2 bt t)(hm:Mod NoB w w'):WkEnv w' bs ms wd room bl y by' B1 B2 bt t:=h.keep (KSc.of0 hm)
end
end Go.Proofs.YtjeonjoifjbohaaGreat
