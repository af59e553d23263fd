/- What the statement SweepSweeps needs, part 3. -/
import Derived.Test.YtjeonjoifjbohaaGreatSweepSweepsP2
set_option linter.unusedVariables false
set_option linter.unusedSimpArgs false
set_option linter.unnecessarySimpa false
set_option linter.unusedSectionVars false
set_option maxRecDepth 10000
set_option maxHeartbeats 8000000
namespace Go.Proofs.YtjeonjoifjbohaaGreat
section
open Go.RowKit Go.Proofs.Tryz Go.Lib
section
variable{P:Program}{ops:Array Oper}{Q:Exit->Act->World->Prop}{S:World->Prop}{md:Region.Mode}
abbrev Step:=List (Nat×Nat)⊕(Nat⊕(Nat×Array Bool))
def treeAll(md:Region.Mode)(ops:Array Oper)(f:Array Bool->Bool):Nat->Array Bool->Bool
 |0,L=>f L
 |k+1,L=> !(Region.ready md ops L).isEmpty&&(Region.ready md ops L).all fun i=>decide (i<ops.size)&&treeAll md ops f k (L.setIfInBounds i true)
def planOk(md:Region.Mode)(ops:Array Oper):List Step->Array Bool->Nat->Bool
 | [],L,n=>n==0&&(Region.ready md ops L).isEmpty
 | .inl l::p,L,n=>match piPre md ops [] l L with
  |some L'=>decide (l.length<=n)&&planOk md ops p L' (n-l.length)
  |none=>false
 | .inr (.inl i)::p,L,n=>decide (i<ops.size)&&(Region.ready md ops L==[i])&&decide (0<n)&&planOk md ops p (L.setIfInBounds i true) (n-1)
 | .inr (.inr (k,L0))::p,L,n=>decide (L=L0)&&decide (k<=n)&&treeAll md ops (fun L'=>planOk md ops p L' (n-k)) k L
def wpTr(P:Program)(md:Region.Mode)(ops:Array Oper)(Q:Exit->Act->World->Prop)(S:World->Prop)(K:Act->World->Prop):Nat->Array Bool->Act->World->Prop
 |0,_,a,w=>K a w
 |n+1,L,a,w=>∀i∈Region.ready md ops L,Region.wanted (ops.getD i default) (yielded ops a.tmps)=true/\(ops.getD i default).wp P a w (fun a' w'=>S w'/\wpTr P md ops Q S K n (L.setIfInBounds i true) a' w') Q
def planQ(K:Act->World->Prop):Exit->Act->World->Prop
 | .normal,a,w=>K a w
 |_,_,_=>True
def wpPlan(P:Program)(md:Region.Mode)(ops:Array Oper)(Q:Exit->Act->World->Prop)(S:World->Prop):List Step->Act->World->Prop
 | [],a,w=>Q .normal a w
 | .inl l::p,a,w=>wpPi P ops (planQ (wpPlan P md ops Q S p)) S (l.map fun x=>(ops.getD x.1 default,x.2)) a w
 | .inr (.inl i)::p,a,w=>if Region.wanted (ops.getD i default) (yielded ops a.tmps)then(ops.getD i default).wp P a w (fun a' w'=>S w'/\wpPlan P md ops Q S p a' w') Q\/((ops.getD i default).asks P a w/\LetsOut Q)else S w/\wpPlan P md ops Q S p (a.put (ops.getD i default).dst undef) w
 | .inr (.inr (k,L))::p,a,w=>wpTr P md ops Q S (wpPlan P md ops Q S p) k L a w
theorem wpAnyG_of_tr{K:Act->World->Prop}{f:Array Bool->Bool}{m:Nat}(hk:∀L a w,f L=true->S w->K a w->wpAnyG P md ops Q S [] m L a w):
 ∀(k:Nat)(L:Array Bool)(a:Act)(w:World),treeAll md ops f k L=true->S w->wpTr P md ops Q S K k L a w->wpAnyG P md ops Q S [] (k+m) L a w
 |0,L,a,w,hp,hS,h=>by
  rw[Nat.zero_add];exact hk L a w hp hS h
 |k+1,L,a,w,hp,hS,h=>by
  simp only[treeAll,Bool.and_eq_true,Bool.not_eq_true',List.all_eq_true]at hp;rw[Nat.succ_add];refine⟨fun h0=>(by rw[h0]at hp;simp at hp),fun i hi=>?_⟩
  have h1:=hp.2 i hi;simp only[decide_eq_true_eq]at h1;obtain⟨hsz,hp'⟩:=h1;have hi':ops[i]?=some (ops.getD i default):=by simp[Array.getD,hsz]
  obtain⟨hwant,hw⟩:=h i hi;unfold wpOp;generalize ops.getD i default=oi at hi' hw hwant;simp only[hi'];rw[if_pos hwant]
  exact .inl (Oper.wp_mono (fun a' w' h'=>⟨fun _=>h'.1,wpAnyG_of_tr hk k _ a' w' hp' h'.1 h'.2⟩) hw)
theorem wpAnyG_of_plan(hs:Region.noSelect ops=true)(hQ:yO Q):
 ∀(p:List Step)(L:Array Bool)(a:Act)(w:World)(n:Nat),planOk md ops p L n=true->S w->wpPlan P md ops Q S p a w->wpAnyG P md ops Q S [] n L a w
 | [],L,a,w,n,hp,hS,h=>by
  simp only[planOk,Bool.and_eq_true,beq_iff_eq,List.isEmpty_iff]at hp;obtain⟨rfl,hr⟩:=hp;exact⟨hr,h⟩
 | .inl l::p,L,a,w,n,hp,hS,h=>by
  simp only[planOk]at hp
  split at hp
  ·rename_i L' hL
   simp only[Bool.and_eq_true,decide_eq_true_eq]at hp;obtain⟨hn,hp⟩:=hp
   have:=wpAnyG_of_pre (S:=S) (tl:=[]) hs hQ (Q1:=planQ (wpPlan P md ops Q S p)) (L:=L') (fuel:=n-l.length) (fun a w hS h=>wpAnyG_of_plan hs hQ p L' a w (n-l.length) hp (hS rfl) h) l L a w hL (fun _=>hS) h
   rwa[show l.length+(n-l.length)=n by omega]at this
  ·cases hp
 | .inr (.inl i)::p,L,a,w,n,hp,hS,h=>by
  simp only[planOk,Bool.and_eq_true,decide_eq_true_eq,beq_iff_eq]at hp;obtain⟨⟨⟨hi,hr⟩,hn⟩,hp⟩:=hp;obtain⟨m,rfl⟩:∃m,n=m+1:=⟨n-1,by omega⟩
  refine⟨fun h0=>(by rw[hr]at h0;cases h0),fun j hj=>?_⟩;have:j=i:=by rw[hr]at hj;simpa using hj
  subst this;have hi':ops[j]?=some (ops.getD j default):=by simp[Array.getD,hi]
  unfold wpPlan at h;refine wpOp_mono (K:=fun a' w'=>S w'/\wpPlan P md ops Q S p a' w') (fun a' w' h'=>⟨fun _=>h'.1,wpAnyG_of_plan hs hQ p _ a' w' m hp h'.1 h'.2⟩) ?_
  unfold wpOp;generalize ops.getD j default=oj at hi' h;simp only[hi']
  by_cases hg:Region.wanted oj (yielded ops a.tmps)=true
  ·rw[if_pos hg]at h |-
   exact h
  ·rw[if_neg hg]at h |-
   exact h
 | .inr (.inr (k,L0))::p,L,a,w,n,hp,hS,h=>by
  simp only[planOk,Bool.and_eq_true,decide_eq_true_eq]at hp;obtain⟨⟨rfl,hk⟩,hp⟩:=hp
  have:=wpAnyG_of_tr (S:=S) (m:=n-k) (f:=fun L'=>planOk md ops p L' (n-k)) (fun L' a w hf hS h=>wpAnyG_of_plan hs hQ p L' a w (n-k) hf hS h) k L a w hp hS h
  rwa[show k+(n-k)=n by omega]at this
theorem wp_region_plan{id:Nat}{a:Act}{w:World}{l:List Oper}(p:List Step)(S:World->Prop)(hm:P.follows .mixedOrders=true)(hs:Region.noSelect l.toArray=true)
 (hp:planOk .any l.toArray p (Array.replicate l.toArray.size false) l.toArray.size=true)(hQ:yO Q)(hS:S w.drew)
 (h:wpPlan P .any l.toArray Q S p a w.drew):(Code.region id l.toArray true).wp P Q a w:=by
 exact wp_region_any hm (wpAny_of_G _ _ _ _ (wpAnyG_of_plan hs hQ p _ a w.drew _ hp hS h))
theorem wpPlan_seg{l:List (Nat×Nat)}{p:List Step}{a:Act}{w:World}(h:wpPi P ops (planQ (wpPlan P md ops Q S p)) S (l.map fun x=>(ops.getD x.1 default,x.2)) a w):wpPlan P md ops Q S (.inl l::p) a w:=h
theorem wpPlan_one{i:Nat}{p:List Step}{a:Act}{w:World}(hw:Region.wanted (ops.getD i default) (yielded ops a.tmps)=true)(h:∀K:Act->World->Prop,(∀a' w',S w'->wpPlan P md ops Q S p a' w'->K a' w')->(ops.getD i default).wp P a w K Q):wpPlan P md ops Q S (.inr (.inl i)::p) a w:=by
 unfold wpPlan;rw[if_pos hw];exact .inl (h _ fun a' w' h1 h2=>⟨h1,h2⟩)
theorem planQ_normal{K:Act->World->Prop}{a:Act}{w:World}(h:K a w):planQ K .normal a w:=h
theorem wpPlan_fin{a:Act}{w:World}(h:Q .normal a w):wpPlan P md ops Q S [] a w:=h
theorem puts_slot{ps:List (Nat×Value)}{t:Nat}(h:∀p∈ps,p.1≠t)(a:Act):(puts ps a).tmps[t]?=a.tmps[t]?:=by
 induction ps with
 |nil=>rfl
 |cons p ps ih=>
  rw[<-ih fun q hq=>h q (List.mem_cons_of_mem _ hq)];have:=h p List.mem_cons_self;simp only[puts,Act.put,Array.getElem?_setIfInBounds_ne this]
def guardFar(ops:Array Oper)(ds:List Nat)(o:Oper):Bool:=match o.guard with
 |none=>true
 |some (j,_)=>match(ops[j]?).bind (·.dst)with
  |some t=>ds.all (·!=t)
  |none=>true
theorem wanted_puts{ps:List (Nat×Value)}{ds:List Nat}(hps:∀p∈ps,p.1∈ds){o:Oper}(hg:guardFar ops ds o=true)(a:Act):Region.wanted o (yielded ops (puts ps a).tmps)=Region.wanted o (yielded ops a.tmps):=by
 unfold Region.wanted
 cases hq:o.guard with
 |none=>rfl
 |some x=>
  obtain⟨j,b⟩:=x;unfold guardFar at hg;simp only[hq]at hg;unfold yielded
  cases hd:(ops[j]?).bind (·.dst)with
  |none=>simp[hd]
  |some t=>
   simp only[hd,List.all_eq_true,bne_iff_ne]at hg;simp only[hd,Option.bind_some];rw[puts_slot (fun p hp=>hg _ (hps p hp))]
def depOk(md:Region.Mode)(ops:Array Oper):Nat->List (Nat×Nat×List Nat)->Array Bool->Bool
 |0,g,_=>g.isEmpty
 |n+1,g,L=>(Region.ready md ops L).all fun i=>g.any fun q=>q.1==i&&(q.2.2.all fun d=> !(g.any fun r=>r.2.1==d))&&depOk md ops n (g.erase q) (L.setIfInBounds i true)
theorem wpTr_dep{a:Act}{w0:World}{K:Act->World->Prop}(F:Nat->Value->World->Prop)(g0:List (Nat×Nat×List Nat))(hF:∀d v w w',F d v w->Mod NoB w w'->F d v w')(hS:∀w,Mod NoB w0 w->S w)(hn:(g0.map (·.2.1)).Nodup)(hds:(g0.all fun q=>q.2.2.all fun d=>(g0.map (·.2.1)).contains d)=true)
 (hgf:(g0.all fun q=>guardFar ops (g0.map (·.2.1)) (ops.getD q.1 default))=true)(hw:∀q∈g0,Region.wanted (ops.getD q.1 default) (yielded ops a.tmps)=true)
 (hend:∀(vals:List Value)(w:World),vals.length=g0.length->Mod NoB w0 w->(∀p∈(g0.map (·.2.1)).zip vals,F p.1 p.2 w)->K (puts ((g0.map (·.2.1)).zip vals) a) w)
 (hop:∀q∈g0,∀(ps:List (Nat×Value))(w:World),Mod NoB w0 w->(∀p∈ps,F p.1 p.2 w)->(∀d∈q.2.2,∃v,(d,v)∈ps)->(ps.map (·.1)).Nodup->(∀p∈ps,p.1≠q.2.1/\p.1∈g0.map (·.2.1))->
  ∀K',(∀v w',Mod NoB w w'->F q.2.1 v w'->K' ((puts ps a).put (some q.2.1) v) w')->(ops.getD q.1 default).wp P (puts ps a) w K' Q):
 ∀(n:Nat)(g:List (Nat×Nat×List Nat))(L:Array Bool)(ps:List (Nat×Value))(w:World),depOk md ops n g L=true->(∀q∈g,q∈g0)->(ps.map (·.1)++g.map (·.2.1)).Perm (g0.map (·.2.1))->Mod NoB w0 w->(∀p∈ps,F p.1 p.2 w)->
  wpTr P md ops Q S K n L (puts ps a) w
 |0,g,L,ps,w,hg,hsub,hp,hm,hps=>by
  simp only[depOk,List.isEmpty_iff]at hg;subst hg;have hp':(ps.map (·.1)).Perm (g0.map (·.2.1)):=by simpa using hp
  obtain⟨vals,hl,hv⟩:=perm_vals hp'
  show K (puts ps a) w
  rw[puts_perm hv a (hp'.symm.nodup_iff.1 hn)];exact hend vals w (by simpa using hl) hm (fun p hp=>hps p (hv.symm.subset hp))
 |n+1,g,L,ps,w,hg,hsub,hp,hm,hps=>by
  intro i hi;simp only[depOk,List.all_eq_true]at hg;have h1:=hg i hi;rw[List.any_eq_true]at h1;obtain⟨q,hq,h1⟩:=h1;simp only[Bool.and_eq_true,beq_iff_eq]at h1
  obtain⟨⟨rfl,hdep⟩,hg'⟩:=h1;have hnd:(ps.map (·.1)++g.map (·.2.1)).Nodup:=hp.symm.nodup_iff.1 hn
  have hin:∀p∈ps,p.1∈g0.map (·.2.1):=fun p hpp=>hp.subset (List.mem_append_left _ (List.mem_map_of_mem hpp));refine⟨?_,?_⟩
  ·rw[wanted_puts hin (by simpa using List.all_eq_true.1 hgf q (hsub q hq))]
   exact hw q (hsub q hq)
  ·refine hop q (hsub q hq) ps w hm hps (fun d hd=>?_) (List.nodup_append.1 hnd).1 (fun p hpp=>⟨?_,hin p hpp⟩) _ fun v w' hm' hv=>⟨hS _ (hm.trans0 hm'),?_⟩
   ·have h2:d∈g0.map (·.2.1):=by
     have:=List.all_eq_true.1 (List.all_eq_true.1 hds q (hsub q hq)) d hd
     simpa using this
    rcases List.mem_append.1 (hp.symm.subset h2)with h3|h3
    ·obtain⟨p,hp1,rfl⟩:=List.mem_map.1 h3
     exact⟨p.2,hp1⟩
    ·exfalso
     have:=List.all_eq_true.1 hdep d hd;obtain⟨r,hr,rfl⟩:=List.mem_map.1 h3;simp only[Bool.not_eq_true',List.any_eq_false]at this;exact this r hr (by simp)
   ·rw[List.nodup_append]at hnd
    exact hnd.2.2 _ (List.mem_map_of_mem hpp) _ (List.mem_map_of_mem (f:=(·.2.1)) hq)
   ·refine wpTr_dep F g0 hF hS hn hds hgf hw hend hop n (g.erase q) _ ((q.2.1,v)::ps) w' hg' (fun r hr=>hsub r (List.mem_of_mem_erase hr)) ?_ (hm.trans0 hm') (fun p hpp=>?_)
    ·refine List.Perm.trans ?_ hp
     simp only[List.map_cons,List.cons_append];refine(List.perm_middle (l₁:=ps.map (·.1)) (a:=q.2.1) (l₂:=(g.erase q).map (·.2.1))).symm.trans ?_
     exact List.Perm.append_left _ (by simpa using((List.perm_cons_erase hq).map (·.2.1)).symm)
    ·rcases List.mem_cons.1 hpp with rfl|hpp
     ·exact hv
     ·exact hF _ _ _ _ (hps p hpp) hm'
def depF:List (Nat×(Value->World->Prop))->Nat->Value->World->Prop
 | [],_,_,_=>True
 |(d,f)::r,e,v,w=>if d=e then f v w else depF r e v w
theorem depF_keep{fs:List (Nat×(Value->World->Prop))}(h:∀x∈fs,∀v w w',x.2 v w->Mod NoB w w'->x.2 v w'):∀d v w w',depF fs d v w->Mod NoB w w'->depF fs d v w':=by
 induction fs with
 |nil=>intros;trivial
 |cons x fs ih=>
  obtain⟨d0,f⟩:=x;intro d v w w' hf hm;unfold depF at hf |-
  by_cases hd:d0=d
  ·rw[if_pos hd]at hf |-
   exact h (d0,f) (by simp) v w w' hf hm
  ·rw[if_neg hd]at hf |-
   exact ih (fun x hx=>h x (by simp[hx])) d v w w' hf hm
theorem wpPlan_dep{p:List Step}{a:Act}{w0:World}{n:Nat}{L:Array Bool}(fs:List (Nat×(Value->World->Prop)))(g0:List (Nat×Nat×List Nat))(hF:∀x∈fs,∀v w w',x.2 v w->Mod NoB w w'->x.2 v w')(hS:∀w,Mod NoB w0 w->S w)(hn:(g0.map (·.2.1)).Nodup)(hds:(g0.all fun q=>q.2.2.all fun d=>(g0.map (·.2.1)).contains d)=true)
 (hgf:(g0.all fun q=>guardFar ops (g0.map (·.2.1)) (ops.getD q.1 default))=true)(hok:depOk md ops n g0 L=true)(hw:∀q∈g0,Region.wanted (ops.getD q.1 default) (yielded ops a.tmps)=true)
 (hend:∀(vals:List Value)(w:World),vals.length=g0.length->Mod NoB w0 w->(∀p∈(g0.map (·.2.1)).zip vals,depF fs p.1 p.2 w)->wpPlan P md ops Q S p (puts ((g0.map (·.2.1)).zip vals) a) w)
 (hop:∀q∈g0,∀(ps:List (Nat×Value))(w:World),Mod NoB w0 w->(∀p∈ps,depF fs p.1 p.2 w)->(∀d∈q.2.2,∃v,(d,v)∈ps)->(ps.map (·.1)).Nodup->(∀p∈ps,p.1≠q.2.1/\p.1∈g0.map (·.2.1))->
  ∀K',(∀v w',Mod NoB w w'->depF fs q.2.1 v w'->K' ((puts ps a).put (some q.2.1) v) w')->(ops.getD q.1 default).wp P (puts ps a) w K' Q):
 wpPlan P md ops Q S (.inr (.inr (n,L))::p) a w0:=
 wpTr_dep (depF fs) g0 (depF_keep hF) hS hn hds hgf hw hend hop n g0 L [] w0 hok (fun _ h=>h) (by simp) (Mod.refl _ _) (fun p hp=>(nomatch hp))
end
end
section
open Go.Proofs.Tryz Go.Lib
def be(l:List UInt8):Nat:=l.foldl (fun n x=>n*256+x.toNat) 0
theorem be_snoc(l:List UInt8)(x:UInt8):be (l++[x])=be l*256+x.toNat:=by simp[be]
theorem be_lt_aux(l:List UInt8)(n m:Nat)(h:n<256^m):l.foldl (fun n x=>n*256+x.toNat) n<256^(m+l.length):=by
 induction l generalizing n m with
 |nil=>exact h
 |cons x l ih=>
  have hx:=x.toNat_lt;have:=ih (n*256+x.toNat) (m+1) (by rw[Nat.pow_succ];omega)
  rw[List.foldl_cons,List.length_cons,show m+(l.length+1)=m+1+l.length by omega];exact this
theorem be_lt(l:List UInt8):be l<256^l.length:=by
 have:=be_lt_aux l 0 0 (by decide)
 rwa[Nat.zero_add]at this
def szK(n k:Nat):Nat:=if h:k<8/\0<n/256^k then szK n (k+1)else k
termination_by 8-k
theorem szK_step{n k:Nat}(h:k<8/\0<n/256^k):szK n k=szK n (k+1):=by rw[szK,dif_pos h]
theorem szK_stop{n k:Nat}(h:¬(k<8/\0<n/256^k)):szK n k=k:=by rw[szK,dif_neg h]
def sizeN(n:Nat):Nat:=if n<192 then 0 else szK n 1
def rdNum(b:List UInt8)(a:Nat):Option (Nat×Nat):=
 match b[a]? with
 |none=>none
 |some c=>
  if 199<c.toNat then none
  else if b.length-a-1<c.toNat-191 then none
  else if c.toNat-191=0 then some (c.toNat,a+1)
  else if be ((b.drop (a+1)).take (c.toNat-191))>=9223372036854775808\/sizeN (be ((b.drop (a+1)).take (c.toNat-191)))≠c.toNat-191 then none
  else some (be ((b.drop (a+1)).take (c.toNat-191)),a+1+(c.toNat-191))
abbrev RS:=Option Nat
def rNumL(b:List UInt8):RS->Nat×RS
 |none=>(0,none)
 |some a=>match rdNum b a with
  |none=>(0,none)
  |some (n,a')=>(n,some a')
def rManyL(b:List UInt8)(most:Nat)(s:RS):Nat×RS:=if most<(rNumL b s).1 then((rNumL b s).1,none)else rNumL b s
def rTakeL(b:List UInt8)(n:Nat):RS->List UInt8×RS
 |none=>([],none)
 |some a=>if b.length-a<n then([],none)else((b.drop a).take n,some (a+n))
def rBytesL(b:List UInt8)(most:Nat)(s:RS):List UInt8×RS:=rTakeL b (rManyL b most s).1 (rManyL b most s).2
def zeros32:List UInt8:=List.replicate 32 0
def rIDL(b:List UInt8)(s:RS):List UInt8×RS:=(if(rTakeL b 32 s).1=[]then zeros32 else(rTakeL b 32 s).1,(rTakeL b 32 s).2)
structure DescL where
 media:Nat
 id:List UInt8
 size:Nat
 plat:List UInt8
deriving DecidableEq
def descZ:DescL:=⟨0,zeros32,0,[]⟩
def yJ(b:List UInt8)(s:RS):DescL×RS:=
 let m:=rNumL b s
 let i:=rIDL b m.2
 let n:=rNumL b i.2
 let p:=rBytesL b 4096 n.2
 (⟨m.1,i.1,n.1,p.1⟩,p.2)
def xO(b:List UInt8):Nat->RS->List DescL×RS
 |0,s=>([],s)
 |n+1,s=>((xO b n s).1++[(yJ b (xO b n s).2).1],(yJ b (xO b n s).2).2)
structure ManL where
 kind:Nat
 title:List UInt8
 config:DescL
 layers:List DescL
 subs:List DescL
deriving DecidableEq
def manZ:ManL:=⟨0,[],descZ,[],[]⟩
def manR(b:List UInt8):ManL×RS×Bool:=
 let f:=rNumL b (some 0)
 if f.1≠77 then(manZ,f.2,false)
 else
  let k:=rNumL b f.2
  if k.1≠3/\k.1≠4 then({ manZ with kind:=k.1 },k.2,false)
  else
   let t:=rBytesL b 4096 k.2
   let c:=if k.1=3 then yJ b t.2 else(descZ,t.2)
   let n:=rNumL b c.2
   if(if k.1=3 then 16 else 8)<n.1 then(⟨k.1,t.1,c.1,[],[]⟩,n.2,false)
   else
    let l:=xO b n.1 n.2
    (⟨k.1,t.1,c.1,if k.1=3 then l.1 else [],if k.1=3 then []else l.1⟩,l.2,true)
def decL(b:List UInt8):Option ManL:=if b.length<=4096/\(manR b).2.2=true/\(manR b).2.1=some b.length then some (manR b).1 else none
def jR(m:ManL):List DescL:=(if m.kind=3 then [m.config]else [])++m.layers++m.subs
def RsOk(b:List UInt8)(s:RS):Prop:=∀a,s=some a->a<=b.length
theorem rdNum_ok{b:List UInt8}{a n a':Nat}(h:rdNum b a=some (n,a')):a<a'/\a'<=b.length/\n<9223372036854775808:=by
 unfold rdNum at h
 split at h
 ·cases h
 ·rename_i c hc
  have ha:a<b.length:=by
   rcases Nat.lt_or_ge a b.length with h|h
   ·exact h
   ·rw[List.getElem?_eq_none h]at hc;cases hc
  split at h
  ·cases h
  ·split at h
   ·cases h
   ·split at h
    ·simp only[Option.some.injEq,Prod.mk.injEq]at h;have:=c.toNat_lt;omega
    ·split at h
     ·cases h
     ·simp only[Option.some.injEq,Prod.mk.injEq]at h;omega
theorem rNumL_ok{b:List UInt8}{s:RS}:RsOk b (rNumL b s).2/\(rNumL b s).1<9223372036854775808/\((rNumL b s).2=none->(rNumL b s).1=0):=by
 unfold rNumL RsOk
 cases s with
 |none=>simp
 |some a=>
  cases h:rdNum b a with
  |none=>simp[h]
  |some p=>
   obtain⟨n,a'⟩:=p;have:=rdNum_ok h
   simp[h];omega
theorem rManyL_ok{b:List UInt8}{most:Nat}{s:RS}:RsOk b (rManyL b most s).2/\(rManyL b most s).1<9223372036854775808:=by
 have:=rNumL_ok (b:=b) (s:=s);unfold rManyL
 split
 ·exact⟨fun a h=>(by cases h),this.2.1⟩
 ·exact⟨this.1,this.2.1⟩
theorem rTakeL_ok{b:List UInt8}{n:Nat}{s:RS}(h:RsOk b s):RsOk b (rTakeL b n s).2/\((rTakeL b n s).1=[]\/(rTakeL b n s).1.length=n):=by
 unfold rTakeL
 cases s with
 |none=>exact⟨fun a h=>(by cases h),Or.inl rfl⟩
 |some a=>
  have:=h a rfl
  by_cases hc:b.length-a<n
  ·simp[hc,RsOk]
  ·simp only[hc,if_false]
   refine⟨fun a' e=>?_,.inr (by simp;omega)⟩
   cases e;omega
theorem rBytesL_ok{b:List UInt8}{most:Nat}{s:RS}:RsOk b (rBytesL b most s).2:=(rTakeL_ok rManyL_ok.1).1
theorem rIDL_ok{b:List UInt8}{s:RS}(h:RsOk b s):RsOk b (rIDL b s).2/\(rIDL b s).1.length=32:=by
 have:=rTakeL_ok (n:=32) h;refine⟨this.1,?_⟩;unfold rIDL
 by_cases hc:(rTakeL b 32 s).1=[]
 ·simp[hc,zeros32]
 ·simp only[hc,if_false]
  exact this.2.resolve_left hc
theorem rDescL_ok{b:List UInt8}{s:RS}:RsOk b (yJ b s).2/\(yJ b s).1.id.length=32/\(yJ b s).1.media<9223372036854775808/\(yJ b s).1.size<9223372036854775808:=
 ⟨rBytesL_ok,(rIDL_ok rNumL_ok.1).2,rNumL_ok.2.1,rNumL_ok.2.1⟩
theorem rDescsL_len{b:List UInt8}{s:RS}:∀n,(xO b n s).1.length=n
 |0=>rfl
 |n+1=>by simp[xO,rDescsL_len n]
theorem rDescsL_ok{b:List UInt8}{s:RS}(h:RsOk b s):∀n,RsOk b (xO b n s).2/\∀d∈(xO b n s).1,d.id.length=32
 |0=>⟨h,fun d hd=>by cases hd⟩
 |n+1=>⟨rDescL_ok.1,fun d hd=>by
  simp only[xO,List.mem_append,List.mem_singleton]at hd
  rcases hd with hd|rfl
  ·exact(rDescsL_ok h n).2 d hd
  ·exact rDescL_ok.2.1⟩
theorem xP:descZ.id.length=32:=by simp[descZ,zeros32]
theorem decL_ids{b:List UInt8}{m:ManL}(h:decL b=some m):∀d∈jR m,d.id.length=32:=by
 unfold decL at h
 split at h
 ·rename_i hc
  have hm:=Option.some.inj h;subst hm;obtain⟨-,h2,-⟩:=hc
  revert h2
  unfold manR
  dsimp only
  generalize (rNumL b (some 0))=f
  split
  ·simp
  ·generalize rNumL b f.2=k
   split
   ·simp
   ·generalize rBytesL b 4096 k.2=t
    by_cases hk:k.1=3
    ·simp only[hk,if_true]
     split
     ·simp
     ·intro _ d hd
      simp only[jR,if_true,List.append_nil,List.mem_append,List.mem_singleton]at hd
      rcases hd with rfl|hd
      ·exact rDescL_ok.2.1
      ·exact(rDescsL_ok rNumL_ok.1 _).2 d hd
    ·simp only[hk,if_false]
     split
     ·simp
     ·intro _ d hd
      simp only[jR,hk,if_false,List.append_nil,List.nil_append]at hd;exact(rDescsL_ok rNumL_ok.1 _).2 d hd
 ·cases h
end
section
open Go.RowKit Go.Proofs.Tryz Go.Lib
structure RdI(w:World)(rb wb:Nat)(bv:Value)(b:List UInt8)(a:Nat)(e p:Int):Prop where
 box:w.heap[rb]?=some (.cells #[.pointer (some ⟨wb,0,none⟩),bv,.int .i64 a] 344 (0,0))
 wr:w.heap[wb]?=some (.cells #[.int .i64 e,.int .i64 p] 320 (0,0))
 sl:Sl false w (fun k=>bv.ownBlock=some k) 1 ByteC bv b
 lt:∀k,bv.ownBlock=some k->k<w.heap.size/\k≠rb/\k≠wb
 len:b.length<=4096
 al:a<=b.length
 z:e=0->p=0
 ne:rb≠wb
def stOf(a:Nat)(e:Int):RS:=if e=0 then some a else none
theorem stOf_zero(a:Nat):stOf a 0=some a:=rfl
theorem stOf_bad{a:Nat}{e:Int}(h:e≠0):stOf a e=none:=by simp[stOf,h]
def RdS(w w':World)(rb wb:Nat)(bv:Value)(b:List UInt8)(s:RS):Prop:=(∃a e p,RdI w' rb wb bv b a e p/\stOf a e=s)/\Mod (fun k=>k=rb\/k=wb) w w'
section
variable{w:World}{rb wb:Nat}{bv:Value}{b:List UInt8}{a:Nat}{e p:Int}
theorem RdI.keep{S:Nat->Prop}{w':World}(h:RdI w rb wb bv b a e p)(hm:Mod S w w')(h1:¬S rb)(h2:¬S wb)(h3:∀k,bv.ownBlock=some k->¬S k):RdI w' rb wb bv b a e p:=
 ⟨hm.obj h1 h.box,hm.obj h2 h.wr,h.sl.keep hm h3 (fun _ _ h=>h),fun k hk=>⟨Nat.lt_of_lt_of_le (h.lt k hk).1 hm.size,(h.lt k hk).2⟩,h.len,h.al,h.z,h.ne⟩
theorem RdI.keep0{w':World}(h:RdI w rb wb bv b a e p)(hm:Mod NoB w w'):RdI w' rb wb bv b a e p:=h.keep hm id id (fun _ _=>id)
theorem RdI.lts(h:RdI w rb wb bv b a e p):rb<w.heap.size/\wb<w.heap.size:=⟨(Array.getElem?_eq_some_iff.1 h.box).1,(Array.getElem?_eq_some_iff.1 h.wr).1⟩
theorem RdI.keepN{w0 w':World}{n:Nat}(h:RdI w rb wb bv b a e p)(h0:∀k,k=rb\/k=wb\/bv.ownBlock=some k->k<w0.heap.size)(hm:Mod (fun k=>k=n) w w')(hn:w0.heap.size<=n):RdI w' rb wb bv b a e p:=
 h.keep hm (fun e=>by have:=h0 rb (.inl rfl);omega) (fun e=>by have:=h0 wb (.inr (.inl rfl));omega) (fun k hk e=>by have:=h0 k (.inr (.inr hk));omega)
theorem RdI.all(h:RdI w rb wb bv b a e p):∀k,k=rb\/k=wb\/bv.ownBlock=some k->k<w.heap.size:=fun k hk=>by
 rcases hk with rfl|rfl|hk
 ·exact h.lts.1
 ·exact h.lts.2
 ·exact(h.lt k hk).1
theorem RdI.cell(h:RdI w rb wb bv b a e p):w.cell? ⟨rb,0,none⟩=some (.pointer (some ⟨wb,0,none⟩))/\w.cell? ⟨rb,1,none⟩=some bv/\w.cell? ⟨rb,2,none⟩=some (.int .i64 a)/\w.cell? ⟨wb,0,none⟩=some (.int .i64 e)/\w.cell? ⟨wb,1,none⟩=some (.int .i64 p):=by
 simp[World.cell?,h.box,h.wr]
theorem RdI.row(h:RdI w rb wb bv b a e p):CellsAt w wb 0 #[.int .i64 e,.int .i64 p]:=CellsAt.whole h.wr
theorem RdI.stay(h:RdI w rb wb bv b a e p):RdS w w rb wb bv b (stOf a e):=⟨⟨a,e,p,h,rfl⟩,Mod.refl _ _⟩
theorem RdS.keepN{w0 w1 w2:World}{n:Nat}{s:RS}(h:RdS w w1 rb wb bv b s)(h0:∀k,k=rb\/k=wb\/bv.ownBlock=some k->k<w0.heap.size)(hs:w0.heap.size<=w.heap.size)(hm:Mod (fun k=>k=n) w1 w2)(hn:w.heap.size<=n):RdS w w2 rb wb bv b s:=by
 obtain⟨⟨a,e,p,hi,hst⟩,hM⟩:=h;exact⟨⟨a,e,p,hi.keepN h0 hm (by omega),hst⟩,hM.trans hm (fun k hk e=>by have e':k=n:=e;omega)⟩
theorem RdS.pre{w1 w2:World}{s:RS}(h:Mod NoB w w1)(k:RdS w1 w2 rb wb bv b s):RdS w w2 rb wb bv b s:=⟨k.1,(h.mono (fun _ _ h=>h.elim)).trans k.2 (fun _ _ h=>h)⟩
theorem RdS.trans{w1 w2:World}{s s':RS}(h:RdS w w1 rb wb bv b s)(k:RdS w1 w2 rb wb bv b s'):RdS w w2 rb wb bv b s':=⟨k.1,h.2.trans k.2 (fun _ _ h=>h)⟩
theorem RdI.fail(h:RdI w rb wb bv b a 0 p){w':World}(hm:Mod (fun k=>k=wb) w w'){er at_:Int}(he:er≠0)(hw:w'.heap[wb]?=some (.cells #[.int .i64 er,.int .i64 at_] 320 (0,0))):RdS w w' rb wb bv b none:=
 ⟨⟨a,er,at_,⟨hm.objB h.ne h.box,hw,h.sl.keep hm (fun k hk hs=>(h.lt k hk).2.2 hs) (fun _ _ h=>h),fun k hk=>⟨Nat.lt_of_lt_of_le (h.lt k hk).1 hm.size,(h.lt k hk).2⟩,h.len,h.al,fun h=>absurd h he,h.ne⟩,stOf_bad he⟩,hm.mono fun _ _ h=>.inr h⟩
theorem RdI.on(h:RdI w rb wb bv b a 0 p){w':World}(hm:Mod (fun k=>k=rb) w w'){a':Nat}(ha:a'<=b.length)(hw:w'.heap[rb]?=some (.cells #[.pointer (some ⟨wb,0,none⟩),bv,.int .i64 a'] 344 (0,0))):RdS w w' rb wb bv b (some a'):=
 ⟨⟨a',0,p,⟨hw,hm.objB (fun e=>h.ne e.symm) h.wr,h.sl.keep hm (fun k hk hs=>(h.lt k hk).2.1 hs) (fun _ _ h=>h),fun k hk=>⟨Nat.lt_of_lt_of_le (h.lt k hk).1 hm.size,(h.lt k hk).2⟩,h.len,ha,h.z,h.ne⟩,rfl⟩,hm.mono fun _ _ h=>.inl h⟩
theorem wFailed_at(hc:w.cell? ⟨wb,0,none⟩=some (.int .i64 e)):Calls prog 252 #[.pointer (some ⟨wb,0,none⟩)] w (RetE (.bool (decide (e≠0))) w):=by
 go_enter func252,ntmps252;go_upto_region 1 with(fail);refine wpR [3,3,3,3,1,3,3] ?_;simp only[stz];refine wpXd (v:=(.int .i64 e)) 33 wb 0 hc underlying33 trivial ?_
 try simp only[nmz]
 refine qK _ _ _ _ _ _ _ _ rfl rfl rfl rfl rfl (decide (e≠0)) rfl ?_;simp only[stz];go_wp2;go_ret;exact⟨rfl,rfl⟩
theorem rNone_any(h:RdI w rb wb bv b a e p):Calls prog 281 #[.pointer (some ⟨rb,0,none⟩)] w (RetE (.bool (decide (e≠0))) w):=by
 have hc0:=h.cell.1;have hcw:=h.cell.2.2.2.1;clear h;go_enter func281,ntmps281
 go_wp2_with (go_at_call 252;refine(wFailed_at hcw).mono ?_;rintro _ w1 ⟨rfl,hw⟩;obtain rfl:=hw.symm);go_ret;exact⟨by simp,rfl⟩
def FailsR(w:World)(wb:Nat)(er at_:Int):Ending->World->Prop:=fun e w'=>e=.returned (.tuple #[])/\Mod (fun k=>k=wb) w w'/\w'.heap[wb]?=some (.cells #[.int .i64 er,.int .i64 at_] 320 (0,0))
theorem built_fault(x y:Int):prog.built 255 [(0,.int .i64 x),(1,.int .i64 y)]=some #[.int .i64 x,.int .i64 y]:=by
 have z:(prog.info? 255).bind (·.zero)=some (.agg #[.int .i64 0,.int .i64 0]):=by kernel_rfl
 have p:xV prog 255=some [(0,1),(1,1)]:=by kernel_rfl
 rw[zP z p,zC (off:=0) (size:=1) rfl (by rfl) (by simp),zC (off:=1) (size:=1) rfl (by rfl) (by simp[qY,Value.cells]),xY]
 rfl
theorem wFails_any(p er at_:Int)(hw:w.heap[wb]?=some (.cells #[.int .i64 0,.int .i64 p] 320 (0,0))):Calls prog 254 #[.pointer (some ⟨wb,0,none⟩),.int .i64 er,.int .i64 at_] w (FailsR w wb er at_):=by
 have hc:w.cell? ⟨wb,0,none⟩=some (.int .i64 0):=by simp[World.cell?,hw]
 go_enter func254,ntmps254;go_upto_region 0 with(fail);refine wpR [3,3,3,3,1,3] ?_;simp only[stz];refine wpXd (v:=(.int .i64 0)) 33 wb 0 hc underlying33 trivial ?_
 try simp only[nmz]
 refine qC (v:=?_) rfl (fun w'=>?_) ?_;rotate_left;·(go_simp;try with_reducible rfl)
 simp only[stz];go_upto_region 1 with(fail);refine wpR [3,3,3,0,3,3,1] ?_;simp only[stz]
 refine qG rfl (fun w' hS=>qO 255 [(0,_),(1,_)] [(0,.int .i64 er),(1,.int .i64 at_)] _ (by rfl) (by rfl) (built_fault er at_)) ?_;simp only[stz]
 refine wpD (qF 255 _ _ wb 0 #[.int .i64 er,.int .i64 at_] (by rfl) (by rfl) (by rfl) (by simp[Value.oneCell']) 2 (by kernel_rfl) rfl _ _ hw (by simp) (fun w3 hB3 hm3=>?_))
 rw[qD (by rfl)]at hB3;simp only[stz];go_wp2
 go_end0
 exact⟨rfl,hm3,hB3⟩
theorem rPlace_any(h:RdI w rb wb bv b a e p):Calls prog 311 #[.pointer (some ⟨rb,0,none⟩)] w (RetE (.int .i64 (if e≠0 then 0 else a)) w):=by
 have hc2:=h.cell.2.2.1;have hn:=rNone_any h;clear h
 by_cases he:e=0
 ·subst he
  go_enter func311,ntmps311;go_wp2_with (go_at_call 281;refine hn.mono ?_;rintro _ w1 ⟨rfl,hw⟩;obtain rfl:=hw.symm);go_ret;exact⟨rfl,rfl⟩
 ·have hd:decide (e≠0)=true:=by simpa using he
  rw[hd]at hn;rw[if_pos he];go_enter func311,ntmps311;go_wp2_with (go_at_call 281;refine hn.mono ?_;rintro _ w1 ⟨rfl,hw⟩;obtain rfl:=hw.symm);go_ret;exact⟨rfl,rfl⟩
theorem rRest_any(h:RdI w rb wb bv b a e p):Calls prog 243 #[.pointer (some ⟨rb,0,none⟩)] w (RetM (.int .i64 (if e≠0 then 0 else(b.length:Int)-a)) w):=by
 have hc2:=h.cell.2.2.1;have hc1:=h.cell.2.1;have hn:=rNone_any h;have hle:=h.al;have hln:=h.len;obtain⟨ad,cap,rfl,-,-⟩:=Sl.at h.sl;clear h
 by_cases he:e=0
 ·subst he
  go_enter func243,ntmps243;go_upto_region 3 with(go_at_call 281;refine hn.mono ?_;rintro _ w1 ⟨rfl,hw⟩;obtain rfl:=hw.symm)
  have hS:Mod NoB w w.drew:=(Mod.refl _ _).drew;refine wpRZ [3,3,3,0,3,3,3,3,0,3,3] [] (fun w'=>Mod NoB w w') hS ?_;simp only[stz]
  refine wpLd 53 rb 1 (fun w' hS=>hS.cell id hc1) underlying53 ?_;simp only[nmz];refine wpPL ?_;simp only[stz];refine wpLd 3 rb 2 (fun w' hS=>hS.cell id hc2) underlying3 ?_
  simp only[nmz];refine yK _ _ _ _ ((b.length:Nat):Int) (a:Int) rfl rfl rfl rfl (by omega) (by omega) ?_;simp only[stz];go_wp2;go_ret;exact⟨rfl,hS⟩
 ·have hd:decide (e≠0)=true:=by simpa using he
  rw[hd]at hn;rw[if_pos he];go_enter func243,ntmps243;go_wp2_with (go_at_call 281;refine hn.mono ?_;rintro _ w1 ⟨rfl,hw⟩;obtain rfl:=hw.symm);go_ret
  exact⟨rfl,Mod.refl _ _⟩
def EndR(w:World)(b:List UInt8)(a:Nat)(e p:Int):Ending->World->Prop:=fun x w'=>Mod NoB w w'/\∃er at_:Int,x=.returned (.agg #[.int .i64 er,.int .i64 at_])/\(er=0↔e=0/\a=b.length)/\(er=0->at_=0)
end
theorem wpPi_rem{P:Program}{ops:Array Oper}{Q:Exit->Act->World->Prop}{S:World->Prop}{o:Oper}{r:List (Oper×Nat)}{a:Act}{w:World}(t:TypeId)(x y:Operand)(yt:TypeId)(m n:Int)(hw:Region.wanted o (yielded ops a.tmps)=true)(ho:o.op=.binOp .rem t x y yt)(hx:a.eval x=.int .i64 m)(hy:a.eval y=.int .i64 n)
 (h1:0<=m)(h2:0<n)(h:wpPi P ops Q S r (a.put o.dst (.int .i64 (m%n))) w):wpPi P ops Q S ((o,3)::r) a w:=
 qC hw (fun w=>by
  unfold execOp;have e:m.tmod n=m%n:=Int.tmod_eq_emod_of_nonneg h1;have hn:n≠0:=by omega
  simp[ho,hx,hy,eqGuard,binOp,Op.intDiv,e,hn]) h
theorem wpPi_quo{P:Program}{ops:Array Oper}{Q:Exit->Act->World->Prop}{S:World->Prop}{o:Oper}{r:List (Oper×Nat)}{a:Act}{w:World}(t:TypeId)(x y:Operand)(yt:TypeId)(m n:Int)(hw:Region.wanted o (yielded ops a.tmps)=true)(ho:o.op=.binOp .quo t x y yt)(hx:a.eval x=.int .i64 m)(hy:a.eval y=.int .i64 n)
 (h2:n≠0)(h3:-9223372036854775808<=m.tdiv n)(h4:m.tdiv n<=9223372036854775807)(h:wpPi P ops Q S r (a.put o.dst (.int .i64 (m.tdiv n))) w):wpPi P ops Q S ((o,3)::r) a w:=
 qC hw (fun w=>by
  unfold execOp;have e:=wrap_in h3 h4
  simp[ho,hx,hy,eqGuard,binOp,Op.intDiv,e,h2]) h
theorem wpPi_remR{P:Program}{ops:Array Oper}{Q:Exit->Act->World->Prop}{S:World->Prop}{o:Oper}{r:List (Oper×Nat)}{a:Act}{w:World}(t:TypeId)(x y:Operand)(yt:TypeId)(m n d:Int)(hw:Region.wanted o (yielded ops a.tmps)=true)(ho:o.op=.binOp .rem t x y yt)(hx:a.eval x=.int .i64 m)(hy:a.eval y=.int .i64 n)
 (hd:m%n=d)(h1:0<=m)(h2:0<n)(h:wpPi P ops Q S r (a.put o.dst (.int .i64 d)) w):wpPi P ops Q S ((o,3)::r) a w:=by
 subst hd;exact wpPi_rem t x y yt m n hw ho hx hy h1 h2 h
theorem wpPi_quoR{P:Program}{ops:Array Oper}{Q:Exit->Act->World->Prop}{S:World->Prop}{o:Oper}{r:List (Oper×Nat)}{a:Act}{w:World}(t:TypeId)(x y:Operand)(yt:TypeId)(m n d:Int)(hw:Region.wanted o (yielded ops a.tmps)=true)(ho:o.op=.binOp .quo t x y yt)(hx:a.eval x=.int .i64 m)(hy:a.eval y=.int .i64 n)
 (hd:m.tdiv n=d)(h2:n≠0)(h3:-9223372036854775808<=d)(h4:d<=9223372036854775807)(h:wpPi P ops Q S r (a.put o.dst (.int .i64 d)) w):wpPi P ops Q S ((o,3)::r) a w:=by
 subst hd;exact wpPi_quo t x y yt m n hw ho hx hy h2 h3 h4 h
theorem idZ:(prog.info? 24).bind (·.zero)=some (.agg (qA (List.replicate 32 0))):=by kernel_rfl
def lenV:Value->Nat
 | .slice _ n _=>n
 |_=>0
def padM(n:Nat):Nat:=(120-n%64)%64
theorem Bts.slice{base:Nat}{w:World}{v:Value}{xs:List UInt8}(h:Bts base w v xs):∃ad cap,v=.slice ad xs.length cap:=by
 rcases h.2 with⟨rfl,h0⟩|⟨g,cap,cur,rfl,_⟩
 ·exact⟨_,_,by rw[h0]⟩
 ·exact⟨_,_,rfl⟩
theorem Bts.len{base:Nat}{w:World}{v:Value}{xs:List UInt8}(h:Bts base w v xs):lenV v=xs.length:=by
 obtain⟨ad,cap,rfl⟩:=h.slice;rfl
def padJ(l:List UInt8)(j:Nat):List UInt8:=l++[128]++List.replicate j 0
theorem padJ_len(l:List UInt8)(j:Nat):(padJ l j).length=l.length+1+j:=by simp[padJ];omega
theorem padJ_succ(l:List UInt8)(j:Nat):padJ l j++[0]=padJ l (j+1):=by simp[padJ,List.replicate_succ']
def PadRel(w0:World)(l:List UInt8)(v:Value)(w:World):Prop:=∃j,j<=padN l.length/\Bts w0.heap.size w v (padJ l j)/\Mod NoB w0 w
def LenRel(w0:World)(X:List UInt8)(n:Nat)(v i:Value)(w:World):Prop:=∃k:Nat,k<=8/\i=.int .i64 k/\Bts w0.heap.size w v (X++(yB n).take k)/\Mod NoB w0 w
theorem lenBytes_step(n k:Nat)(h:k<8):(yB n).take (k+1)=(yB n).take k++[UInt8.ofNat (n*8/2^(56-8*k))]:=by
 rw[List.take_add_one]
 congr 1
 simp[yB,h]
def BlkRel(w0:World)(b4:Nat)(s:W8)(Y:List UInt8)(v:Value)(w:World):Prop:=∃k,64*k<=Y.length/\w.heap[b4]?=some (.cells (qI (xD k s Y).list) 328 (0,0))/\
 Sl false w (fun g=>w0.heap.size<=g) 1 ByteC v (Y.drop (64*k))/\Mod (fun q=>q=b4) w0 w
theorem words_row(c:W8)(j:Nat)(h:j<8):(qI c.list)[0+j]?=some (wordV (c.list.getD j 0)):=by
 match j,h with
 |0,_|1,_|2,_|3,_|4,_|5,_|6,_|7,_=>rfl
theorem words_put(c d:W8):qY (qI c.list) 0 (qI d.list)=qI d.list:=rfl
def outRow(c:W8)(i:Nat):Array Value:=qA ((outL c).take i++List.replicate (32-i) 0)
theorem outL_len(c:W8):(outL c).length=32:=by simp[outL]
theorem outRow_size(c:W8)(i:Nat)(h:i<=32):(outRow c i).size=32:=by simp[outRow,qB,outL_len];omega
theorem outRow_step(c:W8)(i:Nat)(h:i<32):(outRow c i).setIfInBounds i (byteV (outByte c i))=outRow c (i+1):=by
 have hl:=outL_len c;have hg:(outL c)[i]?=some (outByte c i):=by simp[outL,h]
 apply Array.ext_getElem?;intro k
 rw[Array.getElem?_setIfInBounds,outRow_size c i (by omega)];simp only[outRow,qA,List.getElem?_toArray,List.getElem?_map]
 by_cases e:i=k
 ·subst e
  rw[if_pos rfl,if_pos h,List.getElem?_append_left (by rw[List.length_take];omega),List.getElem?_take_of_lt (by omega),hg];rfl
 ·rw[if_neg e]
  congr 1
  rcases Nat.lt_or_ge k i with h1|h1
  ·rw[List.getElem?_append_left (by rw[List.length_take];omega),List.getElem?_append_left (by rw[List.length_take];omega),List.getElem?_take_of_lt h1,List.getElem?_take_of_lt (by omega)]
  ·rw[List.getElem?_append_right (by rw[List.length_take];omega),List.getElem?_append_right (by rw[List.length_take];omega),List.length_take,List.length_take,List.getElem?_replicate,List.getElem?_replicate]
   by_cases h2:k<32
   ·rw[if_pos (by omega),if_pos (by omega)]
   ·rw[if_neg (by omega),if_neg (by omega)]
def OutRel(w0:World)(b2 b4:Nat)(c:W8)(i:Value)(w:World):Prop:=∃n:Nat,n<=32/\i=.int .i64 n/\w.heap[b2]?=some (.cells (outRow c n) 24 (0,0))/\w.heap[b4]?=some (.cells (qI c.list) 328 (0,0))/\Mod (fun q=>q=b2) w0 w
theorem xM{P:Program}{fn:Func}{p u:Tmp}{ty:TypeId}(h:fn.results=#[.cell p ty,.tmp u])(tmps:Array Value)(w:World)(g:Nat)(t:TypeId)(cs:Array Value)(fr:Nat×Nat)(d:TypeDesc)
 (hp:tmps.getD p undef=.pointer (some ⟨g,0,none⟩))(hg:w.heap[g]?=some (.cells cs t fr))
 (hu:P.underlying ty=some d)(hd:(match d with| .struct _| .array _ _=>true|_=>false)=true)(hi:(P.info? ty).map (·.size)=some cs.size):
 (results fn tmps).run P w=.ok (.tuple #[.agg cs,tmps.getD u undef]) w:=by
 have hp':tmps[p]?.getD undef=.pointer (some ⟨g,0,none⟩):=by simpa using hp
 simp[results,h,hp',asAddr,run_loadVar_row w g t ty cs fr d hg hu hd hi]
def SumR(w:World)(r:List UInt8):Ending->World->Prop:=fun e w'=>e=.returned (.tuple #[.agg (qA r),.int .i64 0])/\Mod NoB w w'
theorem shaHSum_any{own:Bool}{G:Nat->Prop}{rest:Value}{l:List UInt8}{s:W8}{n bh:Nat}{w:World}(hb:Sl own w G 1 ByteC rest l)(hl:l.length<64)(hn:n<=140737488355328)(hnl:n%64=l.length)
 (hrow:w.heap[bh]?=some (.cells (yS s rest n) 331 (0,0))):
 Calls prog 184 #[.pointer (some ⟨bh,0,none⟩)] w (SumR w (outL (xD ((padJ l (padN n)++yB n).length/64) s (padJ l (padN n)++yB n)))):=by
 have hbS:=hid hb;clear hb;go_enter func184,ntmps184;go_upto_region 0 with(fail);refine wpR [1,3] ?_;simp only[stz]
 refine wpD (qN 24 _ (by rfl) idZ (fun w1 hB1 hm1 hs1=>?_));replace hB1:w1.heap[w.heap.size]?=some (.cells (qA (List.replicate 32 0)) 24 (0,0)):=hB1
 simp only[stz];replace hrow:=hm1.obj id hrow;have hW1:=hB1;have hc10:w1.cell? ⟨bh,10,none⟩=some (.bool true):=by rw[cell_of_row _ _ _ _ _ _ hrow];rfl
 go_upto_region 3 with(go_at_call 226;refine(shaNone_at bh _ hc10).mono ?_;rintro _ w3 ⟨rfl,hw⟩;obtain rfl:=hw.symm);refine wpR [3,3,3,1,1,1] ?_;simp only[stz]
 refine wpXA 328 bh 0 (qI s.list) (words_at hrow (fun k hk=>hashRow_at _ _ _ k hk)) underlying328 8 (by rw[qE];rfl) trivial ?_;try simp only[nmz]
 refine wpD (qN 328 _ (by rfl) wordsZ (fun w2 hB2 hm2 hs2=>?_));replace hB2:w2.heap[w1.heap.size]?=some (.cells (qI (List.replicate 8 0)) 328 (0,0)):=hB2
 try simp only[nmz]
 refine wpD (qF 328 _ _ w1.heap.size 0 (qI s.list) (by rfl) (by rfl) (by rfl) (zT _) 8 (by kernel_rfl) (by rw[qE];rfl) _ _ hB2 (by rw[qE,qE];simp[W8.list]) (fun w3 hB3 hm3=>?_))
 rw[qD (by rw[qE,qE];simp[W8.list])]at hB3;simp only[stz];have hs3:=hm3.size;have hM13:Mod NoB w1 w3:=hm2.transB hm3 (Nat.le_refl _)
 have hM3:Mod NoB w w3:=hm1.trans0 hM13;replace hB1:=hM13.obj id hB1;replace hrow:=hM13.obj id hrow;clear hm2 hm3 hB2 hc10;go_upto_region 4 with(fail)
 refine wpR [3,3,3,1,1,1,1,3] ?_;simp only[stz];refine wpXd (v:=rest) 53 bh 8 (by rw[cell_of_row _ _ _ _ _ _ hrow];rfl) underlying53 trivial ?_;try simp only[nmz]
 refine wpD (wpC func93 (bytesClone_any (hbS.out.keep0 hM3) (by omega)) ?_);rintro e w4 ⟨v4,rfl,ho4,hm4⟩;refine⟨_,rfl,?_⟩;try simp only[nmz]
 refine wpD (qQ 53 5 _ (byteV 128) (.int .u8 0) 1 (by rfl) (by rfl) underlying53 (by kernel_rfl) (by omega) (by omega) (by rfl) (fun w5 hB5 hm5 hs5=>?_))
 replace hB5:w5.heap[w4.heap.size]?=some (.cells #[byteV 128] 5 (0,0)):=hB5;try simp only[nmz]
 refine wpDo rfl ?_;have hs4:=hm4.size
 refine jH _ _ (by rfl) w3.heap.size _ l (by rfl) (ho4.keep hm5 (fun _ _=>id)) (.slice (some ⟨w4.heap.size,0,none⟩) 1 1) [128] (by rfl) (owns_src (owns_lit hB5)) (by simp;omega) (by omega) (fun v6 w6 ho6 hm6=>?_)
 simp only[stz];have hM6:Mod NoB w3 w6:=(hm4.trans0 hm5).trans hm6 (fun k hk e=>by have:=(ho4.lt e).1;omega);have hpN:padN n=padN l.length:=by unfold padN;omega
 rw[hpN];replace hs3:w3.heap.size<=w6.heap.size:=hM6.size;clear hM13 hm4 hm5 hm6 ho4 hB5 hs5 hs2 hs1 hm1;go_wp2
 go_loopw [5] (PadRel w3 l) (fun v _=>padM (lenV v))
 case atStart=>exact⟨0,Nat.zero_le _,by simpa[padJ]using ho6,hM6⟩
 case round=>
  rename World=>wr
  clear ho6 hM6 hs3;obtain⟨j,hj,hob,hM⟩:=hrel;have hoH:=hid hob;have hjl:=padJ_len l j;have hpad:padN l.length<64:=by unfold padN;omega
  have hPS:=hid (padJ_succ l j);obtain⟨ad,cap,rfl⟩:=hob.slice;clear hob;have hwr:=hM.size;go_upto_region 5 with(fail)
  by_cases h56:(l.length+1+j)%64=56
  ·skip
   refine wpR [3,3,3,3] ?_;simp only[stz];refine wpPL ?_;simp only[nmz]
   refine wpPi_remR _ _ _ _ ((padJ l j).length:Int) 64 56 rfl rfl rfl rfl (by omega) (by omega) (by omega) ?_;simp only[nmz]
   refine qK _ _ _ _ _ _ _ _ rfl rfl rfl rfl rfl false (by rfl) ?_;simp only[stz];have hj2:j=padN l.length:=by unfold padN at hj |-;omega
   subst hj2;clear hPS h56 hj;generalize hX:padJ l (padN l.length)=X at hoH hjl |-;have HX:=hid hX;go_wp2
   go_loopw [5,29] (LenRel w3 X n) (fun _ i _=>8-(intOf i).toNat)
   case atStart=>exact⟨0,by omega,rfl,by simpa using hoH.out,hM⟩
   case round=>
    rename World=>wq
    clear hoH hM hwr;obtain⟨k,hk,rfl,hob,hM⟩:=hrel;obtain⟨Y,hY⟩:∃Y,X++(yB n).take k=Y:=⟨_,rfl⟩;rw[hY]at hob
    have hYl:Y.length=X.length+k:=by rw[<-hY,List.length_append,List.length_take,lenBytes_len];omega
    have hoH:=hid hob;obtain⟨ad2,cap2,rfl⟩:=hob.slice;clear hob;have hwq:=hM.size;have hrowq:=hM.obj id hrow
    by_cases hlt:k<8
    ·have hz:(k:Int)<8:=by omega
     have hstep:Y++[UInt8.ofNat (n*8/2^(56-8*k))]=X++(yB n).take (k+1):=by rw[lenBytes_step n k hlt,<-hY,List.append_assoc]
     have hcv:IntKind.u64.wrap (n:Int)=(n:Int):=by simp[IntKind.wrap,IntKind.bits,IntKind.signed];omega
     have HSTEP:=hid hstep;have HCV:=hid hcv;have HYY:=hid hY;clear hstep hcv hY;obtain⟨y,hy⟩:∃y,UInt8.ofNat (n*8/2^(56-8*k))=y:=⟨_,rfl⟩
     have HY:=hid hy;clear hy;go_upto_region 10 with(fail);refine wpR [3,3,3,3,1,3,3,3,3,3,3,3,1,1,3] ?_;simp only[stz]
     refine wpXd (v:=(.int .i64 (n:Int))) 3 bh 9 (by rw[cell_of_row _ _ _ _ _ _ hrowq];rfl) underlying3 trivial ?_;try simp only[nmz]
     refine qC (v:=.int .u64 (n:Int)) rfl (fun w'=>exec_conv_uint 3 300 _ _ rfl rfl (by kernel_rfl) underlying300 _ HCV.out) ?_;simp only[nmz]
     refine qC (v:=.int .u64 ((n*8:Nat):Int)) rfl (fun w'=>exec_mul64 _ _ _ _ n 8 (n*8) rfl rfl rfl rfl (by omega)) ?_;simp only[stz]
     refine xZ _ _ _ _ 8 (k:Int) ((8*k:Nat):Int) rfl rfl rfl rfl (by omega) (by omega) (by omega) ?_;simp only[nmz]
     refine zJ _ _ _ _ 56 ((8*k:Nat):Int) ((56-8*k:Nat):Int) rfl rfl rfl rfl (by omega) (by omega) (by omega) ?_;simp only[nmz]
     refine qC (v:=.int .u64 ((n*8/2^(56-8*k):Nat):Int)) rfl (fun w'=>exec_shr64 _ _ _ _ (n*8) .i64 (56-8*k) rfl rfl rfl (by omega) (by omega)) ?_
     simp only[nmz];refine qC (v:=byteV y) rfl (fun w'=>by rw[<-HY.out];exact exec_byte_of_u64 _ _ _ _ rfl rfl (by kernel_rfl) underlying5) ?_;simp only[nmz]
     refine wpD (qQ 53 5 _ (byteV y) (.int .u8 0) 1 (by rfl) (by rfl) underlying53 (by kernel_rfl) (by omega) (by omega) (by rfl) (fun w7 hB7 hm7 hs7=>?_))
     replace hB7:w7.heap[wq.heap.size]?=some (.cells #[byteV y] 5 (0,0)):=hB7;try simp only[nmz]
     refine wpD (jH _ _ (by rfl) w3.heap.size _ Y (by rfl) (hoH.out.keep hm7 (fun _ _=>id)) (.slice (some ⟨wq.heap.size,0,none⟩) 1 1) [y] (by rfl) (owns_src (owns_lit hB7)) (by simp;omega) (by omega) (fun v8 w8 ho8 hm8=>?_))
     rw[<-HY.out,HSTEP.out]at ho8;have hM8:Mod NoB w3 w8:=(hM.trans0 hm7).trans hm8 (fun k hk e=>by have:=(hoH.out.lt e).1;omega);simp only[stz]
     clear hm8 hm7 hB7 hs7 hrowq;go_wp2
     go_roundw
     case rel=>exact⟨k+1,by omega,by go_num,ho8,hM8⟩
     case measure=>simp[intOf];omega
    ·have hz:¬(k:Int)<8:=by omega
     obtain rfl:k=8:=by omega
     have hYX:X++yB n=Y:=by rw[<-hY,List.take_of_length_le (by rw[lenBytes_len];omega)]
     have hY64:Y.length%64=0:=by unfold padN at hjl hpad;omega
     have HYX:=hid hYX;clear hYX
     have hsl:Sl false wq (fun g=>w3.heap.size<=g) 1 ByteC (.slice ad2 Y.length cap2) Y:=((hoH.out.sl).mono (G':=fun g=>w3.heap.size<=g) (fun k hk=>hk.1) (fun _ _ h=>h)).weak
     have hrow4:=hM.obj id hB3;have hMB:Mod (fun q=>q=w1.heap.size) w3 wq:=hM.mono (fun _ _ h=>h.elim)
     have hb1:w.heap.size<w1.heap.size:=by
      rcases Nat.lt_or_ge w.heap.size w1.heap.size with h|h
      ·exact h
      ·exfalso;rw[Array.getElem?_eq_none (by omega)]at hW1;cases hW1
     have hb3:w1.heap.size<w3.heap.size:=by
      rcases Nat.lt_or_ge w1.heap.size w3.heap.size with h|h
      ·exact h
      ·rw[Array.getElem?_eq_none h]at hB3;cases hB3
     clear hoH hM hwq hrowq hY hX hjl hpad hz hk;go_wp2
     go_loopw [5] (BlkRel w3 w1.heap.size s Y) (fun v _=>lenV v)
     case atStart=>exact⟨0,by omega,hrow4,hsl,hMB⟩
     case round=>
      rename World=>wv
      clear hrow4 hsl hMB;obtain⟨k,hk,hrow4,hsl,hM⟩:=hrel;obtain⟨r,hr⟩:∃r,Y.drop (64*k)=r:=⟨_,rfl⟩
      have hrl:r.length=Y.length-64*k:=by rw[<-hr,List.length_drop]
      rw[hr]at hsl;have hslH:=hid hsl;obtain⟨ad3,cap3,rfl,hle3,hmx3,-⟩:=hsl
      by_cases hz:(0:Int)<(r.length:Int)
      ·have hlt:64<=r.length:=by omega
       go_upto_region 14 with(fail);refine wpR [3,3,1] ?_;simp only[stz];refine jC 53 5 _ _ _ _ _ 64 1 rfl rfl rfl rfl underlying53 (by kernel_rfl) (by omega) ?_
       simp only[nmz]
       refine wpD (wpC func227 (block_any (hslH.out.fst 64 hlt) (by rw[List.length_take];omega) w1.heap.size 0 _ _ (xD k s Y) hrow4 (by rw[qE];simp[W8.list]) (fun j hj=>words_row _ j hj)) ?_)
       rintro e w5 ⟨rfl,hB5,hm5⟩;rw[words_put]at hB5;refine⟨_,rfl,?_⟩;simp only[stz];go_upto_region 13 with(fail);refine wpR [3,3,3] ?_;simp only[stz]
       refine yX 53 5 _ _ _ _ _ 64 1 rfl rfl rfl rfl underlying53 (by kernel_rfl) hlt ?_;simp only[stz]
       have hM6:Mod (fun q=>q=w1.heap.size) w3 w5:=hM.trans hm5 (fun _ _ h=>h)
       have hsl6:=(hslH.out.cut 64 hlt).keepB hm5 (fun k hk=>by have hk':w3.heap.size<=k:=hk;omega)
       have hd:r.drop 64=Y.drop (64*(k+1)):=by rw[<-hr,List.drop_drop];congr 1
       have hblk:blockL (xD k s Y) (r.take 64)=xD (k+1) s Y:=by rw[blocksL_add,hr];rfl
       rw[hblk]at hB5;rw[hd]at hsl6;have HW6:Hid (BlkRel w3 w1.heap.size s Y (sliced ad3 64 r.length cap3 1) w5):=⟨k+1,by omega,hB5,hsl6,hM6⟩
       have HME:Hid (lenV (sliced ad3 64 r.length cap3 1)<r.length):=by
        show r.length-64<r.length
        omega
       clear hB5 hsl6 hM6 hm5 hblk hd hrow4;go_wp2
       go_roundw
       case rel=>exact HW6.out
       case measure=>exact HME.out
      ·have hkk:Y.length/64=k:=by omega
       obtain⟨c,hc⟩:∃c,xD k s Y=c:=⟨_,rfl⟩;rw[hc]at hrow4
       have HCC:Hid (xD (Y.length/64) s Y=c):=by
        show xD (Y.length/64) s Y=c
        rw[hkk];exact hc
       have hrow2:=hM.objB (by omega) hB1;clear hc hkk hslH hr hrl hle3 hmx3 hk hY64
       have hr2:wv.heap[w.heap.size]?=some (.cells (outRow c 0) 24 (0,0)):=by
        have e:outRow c 0=qA (List.replicate 32 0):=by simp[outRow]
        rw[e];exact hrow2
       have hMw:Mod NoB w wv:=hM3.transB hM (by omega);clear hrow2;go_wp2
       go_loopw [55] (OutRel wv w.heap.size w1.heap.size c) (fun i _=>32-(intOf i).toNat)
       case atStart=>exact⟨0,by omega,rfl,hr2,hrow4,Mod.refl _ _⟩
       case round=>
        rename World=>wu
        clear hr2 hrow4;obtain⟨i,hi,rfl,hr2,hrow4,hMu⟩:=hrel;have hosz:=outRow_size c i hi
        by_cases hlt:i<32
        ·have hzi:(i:Int)<32:=by omega
         have HST:=hid (outRow_step c i hlt);have hq4:i/4<8:=by omega
         have hw4:=word8 hrow4 (i/4) hq4;obtain⟨x,hx⟩:∃x,c.list.getD (i/4) 0=x:=⟨_,rfl⟩;rw[hx]at hw4
         have hy:UInt8.ofNat (shrU x (24-8*(i%4))).toNat=outByte c i:=by unfold outByte;rw[hx]
         have HY:=hid hy;clear hy hx;generalize outByte c i=y at*;go_upto_region 18 with(fail);refine wpR [3,3,3,3,1,3,3,3,3,3,3,3,1] ?_;simp only[stz]
         refine wpPi_quoR _ _ _ _ (i:Int) 4 ((i/4:Nat):Int) rfl rfl rfl rfl (by rw[Int.tdiv_eq_ediv_of_nonneg (by omega)];omega) (by omega) (by omega) (by omega) ?_
         simp only[nmz];refine qH _ _ _ _ _ _ _ _ rfl rfl rfl rfl underlying328 (n:=1) (by kernel_rfl) hq4 ?_;simp only[nmz]
         refine wpXd (v:=(wordV x)) 301 w1.heap.size (i/4*1) (by rw[Nat.mul_one];exact hw4) underlying301 trivial ?_;simp only[stz]
         refine wpPi_remR _ _ _ _ (i:Int) 4 ((i%4:Nat):Int) rfl rfl rfl rfl (by omega) (by omega) (by omega) ?_;simp only[nmz]
         refine xZ _ _ _ _ 8 ((i%4:Nat):Int) ((8*(i%4):Nat):Int) rfl rfl rfl rfl (by omega) (by omega) (by omega) ?_;simp only[nmz]
         refine zJ _ _ _ _ 24 ((8*(i%4):Nat):Int) ((24-8*(i%4):Nat):Int) rfl rfl rfl rfl (by omega) (by omega) (by omega) ?_;simp only[nmz]
         refine jU _ _ _ _ _ .i64 (24-8*(i%4)) rfl rfl rfl rfl (by omega) ?_;simp only[nmz]
         refine qC (v:=byteV y) rfl (fun w'=>by rw[<-HY.out];exact exec_byte_of_word _ _ _ _ rfl rfl (by kernel_rfl) underlying5) ?_;simp only[nmz]
         refine qH _ _ _ _ _ _ _ _ rfl rfl rfl rfl underlying24 (n:=1) (by kernel_rfl) hlt ?_;simp only[nmz]
         refine wpD (qR 5 _ _ w.heap.size (i*1) (byteV y) (by rfl) (by rfl) (by rfl) rfl (by kernel_rfl) _ _ hr2 (by rw[hosz];omega) (fun w9 hB9 hm9=>?_))
         rw[Nat.mul_one,HST.out]at hB9;have hrow9:=hm9.objB (by omega) hrow4;have hM9:Mod (fun q=>q=w.heap.size) wv w9:=hMu.trans hm9 (fun _ _ h=>h)
         simp only[stz];clear hm9 hr2 hrow4 hw4;go_wp2
         go_roundw
         case rel=>exact⟨i+1,by omega,by go_num,hB9,hrow9,hM9⟩
         case measure=>simp[intOf];omega
        ·have hzi:¬(i:Int)<32:=by omega
         obtain rfl:i=32:=by omega
         have hout:outRow c 32=qA (outL c):=by simp[outRow,List.take_of_length_le (Nat.le_of_eq (outL_len c))]
         rw[hout]at hr2 hosz;go_upto_region 20 with(fail);refine wpR [1,1,3] ?_;simp only[stz]
         refine wpXA 24 w.heap.size 0 (qA (outL c)) (CellsAt.whole hr2) underlying24 32 hosz trivial ?_;try simp only[nmz]
         refine wpD (qF 24 _ _ w.heap.size 0 (qA (outL c)) (by rfl) (by rfl) (by rfl) (qP _) 32 (by kernel_rfl) hosz _ _ hr2 (by omega) (fun w9 hB9 hm9=>?_))
         rw[qD (by rfl)]at hB9;simp only[stz];have hM9:Mod NoB w w9:=(hMw.transB hMu (Nat.le_refl _)).transB hm9 (Nat.le_refl _);clear hm9 hr2 hrow4 hMu;go_wp2
         refine bodyPost_ret (xM rfl _ _ w.heap.size _ _ _ _ (by rfl) hB9 underlying24 rfl (by rw[hosz];kernel_rfl)) rfl ?_;refine⟨?_,hM9⟩
         rw[HX.out,<-List.length_append,HYX.out,HCC.out]
         rfl
  ·obtain⟨q,hq⟩:∃q:Nat,(padJ l j).length%64=q:=⟨_,rfl⟩
   have hq56:q≠56:=by rw[<-hq,hjl];exact h56
   refine wpR [3,3,3,3] ?_;simp only[stz];refine wpPL ?_;simp only[nmz]
   refine wpPi_remR _ _ _ _ ((padJ l j).length:Int) 64 (q:Int) rfl rfl rfl rfl (by omega) (by omega) (by omega) ?_;simp only[nmz]
   refine qK _ _ _ _ _ _ _ _ rfl rfl rfl rfl rfl true (by simp[cmpB];omega) ?_;simp only[stz]
   have hjlt:j<padN l.length:=by
    rcases Nat.lt_or_ge j (padN l.length)with h|h
    ·exact h
    ·exfalso;unfold padN at hj h hpad;omega
   go_upto_region 6 with(fail);refine wpR [3,1,1,3] ?_;simp only[stz]
   refine wpD (qQ 53 5 _ (byteV 0) (.int .u8 0) 1 (by rfl) (by rfl) underlying53 (by kernel_rfl) (by omega) (by omega) (by rfl) (fun w7 hB7 hm7 hs7=>?_))
   replace hB7:w7.heap[wr.heap.size]?=some (.cells #[byteV 0] 5 (0,0)):=hB7;try simp only[nmz]
   refine wpD (jH _ _ (by rfl) w3.heap.size _ (padJ l j) (by rfl) (hoH.out.keep hm7 (fun _ _=>id)) (.slice (some ⟨wr.heap.size,0,none⟩) 1 1) [0] (by rfl) (owns_src (owns_lit hB7)) (by simp;omega) (by omega) (fun v8 w8 ho8 hm8=>?_))
   rw[hPS.out]at ho8;have hM8:Mod NoB w3 w8:=(hM.trans0 hm7).trans hm8 (fun k hk e=>by have:=(hoH.out.lt e).1;omega);simp only[stz]
   have hME:Hid (padM (lenV v8)<padM (padJ l j).length):=by
    show _<_
    rw[ho8.len,padJ_len,padJ_len];unfold padM;omega
   have HR:Hid (PadRel w3 l v8 w8):=⟨j+1,hjlt,ho8,hM8⟩;clear ho8 hM8 hm8 hm7 hB7;go_wp2
   go_roundw
   case rel=>exact HR.out
   case measure=>exact hME.out
theorem Sl.bound{own:Bool}{w:World}{G:Nat->Prop}{v:Value}{l:List UInt8}(h:Sl own w G 1 ByteC v l):Sl own w (fun k=>k<w.heap.size) 1 ByteC v l:=by
 obtain⟨ad,cap,e,h1,h2,h3⟩:=h;refine⟨ad,cap,e,h1,h2,fun hne=>?_⟩;obtain⟨b,off,ha,hG,ho,hc⟩:=h3 hne;refine⟨b,off,ha,?_,ho,hc⟩
 cases l with
 |nil=>exact absurd rfl hne
 |cons x l=>
  obtain⟨cs,_,rfl,hcs⟩:=hc 0 (by simp);exact block_lt_of_cell (CellsAt.one.1 hcs)
theorem sha_split(m:List UInt8):outL (xD ((padJ (m.drop (64*(m.length/64))) (padN m.length)++yB m.length).length/64) (xD (m.length/64) shaBegin m) (padJ (m.drop (64*(m.length/64))) (padN m.length)++yB m.length))=shaL m:=by
 have hX:padJ (m.drop (64*(m.length/64))) (padN m.length)++yB m.length=(padL m).drop (64*(m.length/64)):=by
  unfold padJ padL;rw[List.append_assoc,List.append_assoc,List.append_assoc,List.append_assoc,List.drop_append_of_le_length (by omega)]
 rw[hX,List.length_drop];have hl:=padL_len m;have hk:(padL m).length/64=m.length/64+((padL m).length-64*(m.length/64))/64:=by omega
 unfold shaL;rw[hk,blocksL_add]
 congr 2
 unfold padL;rw[List.append_assoc,List.append_assoc,blocksL_app _ _ _ _ (by omega)]
theorem shaSum_any{own:Bool}{G:Nat->Prop}{v:Value}{m:List UInt8}{w:World}(hb:Sl own w G 1 ByteC v m)(hl:m.length<=140737488355328):
 Calls prog 96 #[v] w (RetM (.agg (qA (shaL m))) w):=by
 have hbS:=hid hb.bound;have HSP:=hid (sha_split m);have hxl:(qA (shaL m)).size=32:=by rw[qB];exact shaL_len m
 obtain⟨x,hx⟩:∃x,shaL m=x:=⟨_,rfl⟩;rw[hx]at hxl HSP |-;clear hb hx;go_enter func96,ntmps96;go_upto_region 0 with(fail);refine wpR [1] ?_;simp only[stz]
 refine wpD (qN 24 _ (by rfl) idZ (fun w1 hB1 hm1 hs1=>?_));replace hB1:w1.heap[w.heap.size]?=some (.cells (qA (List.replicate 32 0)) 24 (0,0)):=hB1
 simp only[stz];go_upto_region 1 with(fail);refine wpR [1,3] ?_;simp only[stz];refine wpD (wpC func182 (shaNew_any _) ?_);rintro e w2 ⟨bh,rfl,hb1,hb2,hrow,hm2⟩
 refine⟨_,rfl,?_⟩;simp only[stz];have hM2:=hm1.trans0 hm2;go_upto_region 2 with(fail);refine wpR [3,3,1] ?_;simp only[stz]
 refine wpD (wpC func183 (shaWrite_any (hbS.out.keep0 hM2) hl bh (fun k hk=>by have:=hm1.size;have hk':k<w.heap.size:=hk;omega) hrow) ?_)
 rintro e w3 ⟨rfl,rest,hrow3,hsl3,hm3⟩;refine⟨_,rfl,?_⟩;simp only[stz];have hM3:Mod NoB w1 w3:=hm2.transB hm3 hb1;replace hB1:=hM3.obj id hB1
 replace hM3:=hm1.trans0 hM3;clear hM2 hm1 hm2 hm3 hrow;have hs3:=hM3.size;go_upto_region 3 with(fail);refine wpR [3,1,3,3,3,1,1,3] ?_;simp only[stz]
 refine wpD (wpC func184 (shaHSum_any hsl3 (by rw[List.length_drop];omega) hl (by rw[List.length_drop];omega) hrow3) ?_);rintro e w4 ⟨rfl,hm4⟩;rw[HSP.out];refine⟨_,rfl,?_⟩
 simp only[stz];refine qC (v:=?_) rfl (fun w'=>?_) ?_;rotate_left;·(go_simp;try with_reducible rfl)
 simp only[nmz];refine qC (v:=?_) rfl (fun w'=>?_) ?_;rotate_left;·(go_simp;try with_reducible rfl)
 simp only[nmz];refine wpD (qN 24 _ (by rfl) idZ (fun w5 hB5 hm5 hs5=>?_))
 replace hB5:w5.heap[w4.heap.size]?=some (.cells (qA (List.replicate 32 0)) 24 (0,0)):=hB5;try simp only[nmz]
 refine wpD (qF 24 _ _ w4.heap.size 0 (qA x) (by rfl) (by rfl) (by rfl) (qP _) 32 (by kernel_rfl) hxl _ _ hB5 (by rw[hxl,qB];simp) (fun w6 hB6 hm6=>?_))
 rw[qD (by rw[hxl,qB];rfl)]at hB6;simp only[stz];have hM46:Mod NoB w4 w6:=hm5.transB hm6 (Nat.le_refl _);have hM36:=hm4.trans0 hM46
 have hB2:=hM36.obj id hB1;have hM6:=hM3.trans0 hM36;clear hB1 hM46 hM36 hm5 hm6 hm4 hB5;go_upto_region 4 with(fail);refine wpR [1,1] ?_;simp only[stz]
 refine wpXA 24 w4.heap.size 0 (qA x) (CellsAt.whole hB6) underlying24 32 hxl trivial ?_;try simp only[nmz]
 refine wpD (qF 24 _ _ w.heap.size 0 (qA x) (by rfl) (by rfl) (by rfl) (qP _) 32 (by kernel_rfl) hxl _ _ hB2 (by rw[hxl,qB];simp) (fun w7 hB7 hm7=>?_))
 rw[qD (by rw[hxl,qB];rfl)]at hB7;simp only[stz];have hM7:=hM6.transB hm7 (Nat.le_refl _);clear hm7 hB2;go_wp2
 refine bodyPost_ret (results_cell_row rfl _ _ w.heap.size _ _ _ _ (by rfl) hB7 underlying24 rfl (by rw[hxl];kernel_rfl)) rfl ?_;exact⟨rfl,hM7⟩
theorem w8Z:(prog.info? 302).bind (·.zero)=some (.agg (qI (List.replicate 8 0))):=by kernel_rfl
theorem yG(x:UInt32)(n:Nat)(h:0<n/\n<32)(w:World):Calls prog 237 #[wordV x,.int .i64 (n:Int)] w (RetM (wordV (rotr x n)) w):=by
 have hc:rotr x n=shrU x n ||| shlU x (32-n):=by unfold rotr;exact UInt32.or_comm _ _
 rw[hc];clear hc;go_enter func237,ntmps237;go_upto_region 1 with(fail);refine wpRZ [3,3,3,3,3,3,3,3,3] [] (fun _=>True) trivial ?_;simp only[stz]
 refine jU _ _ _ _ _ .i64 n rfl rfl rfl rfl (by omega) ?_;simp only[stz]
 refine zJ _ _ _ _ 32 (n:Int) ((32-n:Nat):Int) rfl rfl rfl rfl (by omega) (by omega) (by omega) ?_;simp only[nmz]
 refine jV _ _ _ _ _ .i64 (32-n) rfl rfl rfl rfl (by omega) ?_;simp only[nmz];refine wpPi_or32 _ _ _ _ _ _ rfl rfl rfl rfl ?_;simp only[stz];go_wp2;go_ret
 exact⟨rfl,(Mod.refl _ _).drew⟩
theorem refKeys_any(w:World):Calls prog 238 #[] w (RetM (.agg (qI shaKeys)) w):=by
 go_enter func238,ntmps238;go_upto_region 0 with(fail);refine wpR [1] ?_;simp only[stz];refine wpD (qN 340 _ (by rfl) w64Z (fun w1 hB1 hm1 hs1=>?_))
 replace hB1:w1.heap[w.heap.size]?=some (.cells (qI (List.replicate 64 0)) 340 (0,0)):=hB1;simp only[stz];go_upto_region 1 with(fail);refine wpR [1,1] ?_
 simp only[stz];refine wpX rfl (qO 340 _ _ (qI shaKeys) (by rfl) (by rfl) (by kernel_rfl)) trivial ?_;try simp only[nmz]
 refine wpD (qF 340 _ _ w.heap.size 0 (qI shaKeys) (by rfl) (by rfl) (by rfl) (zT _) 64 (by kernel_rfl) (by kernel_rfl) _ _ hB1 (by rw[qE,qE];simp[shaKeys]) (fun w2 hB2 hm2=>?_))
 simp only[stz];rw[qD (by kernel_rfl)]at hB2;go_wp2
 refine bodyPost_ret (results_cell_row rfl _ _ w.heap.size _ _ _ _ (by rfl) hB2 underlying340 rfl (by kernel_rfl)) rfl ?_;exact⟨rfl,hm1.transB hm2 (Nat.le_refl _)⟩
def SprRel(b:List UInt8)(lo hi b5:Nat)(w0:World)(i:Value)(w:World):Prop:=∃n:Nat,lo<=n/\n<=hi/\i=.int .i64 n/\w.heap[b5]?=some (.cells (qI (rowW b n)) 340 (0,0))/\Mod (fun k=>k=b5) w0 w
def RndRel(w0:World)(b2 b4 b10 b11 b5:Nat)(sp:List UInt32)(s:W8)(i:Value)(w:World):Prop:=∃n:Nat,n<=64/\i=.int .i64 n/\w.heap[b10]?=some (.cells (qI (rounds shaKeys sp n s).list) 302 (0,0))/\
 w.heap[b11]?=some (.cells (qI shaKeys) 340 (0,0))/\w.heap[b5]?=some (.cells (qI sp) 340 (0,0))/\w.heap[b2]?=some (.cells (qI s.list) 302 (0,0))/\w.heap[b4]?=some (.cells (qI (List.replicate 8 0)) 302 (0,0))/\Mod NoB w0 w
def Add2Rel(w0:World)(b2 b4 b10:Nat)(s c:W8)(i:Value)(w:World):Prop:=∃n:Nat,n<=8/\i=.int .i64 n/\w.heap[b10]?=some (.cells (qY (qI c.list) 0 (qI ((addW s c).list.take n))) 302 (0,0))/\
 w.heap[b2]?=some (.cells (qI s.list) 302 (0,0))/\w.heap[b4]?=some (.cells (qI (List.replicate 8 0)) 302 (0,0))/\Mod NoB w0 w
theorem built8w(x0 x1 x2 x3 x4 x5 x6 x7:UInt32):prog.built 302 [(0,wordV x0),(1,wordV x1),(2,wordV x2),(3,wordV x3),(4,wordV x4),(5,wordV x5),(6,wordV x6),(7,wordV x7)]=some (qI [x0,x1,x2,x3,x4,x5,x6,x7]):=by kernel_rfl
theorem refBlock_any{own:Bool}{G:Nat->Prop}{v:Value}{b:List UInt8}{s:W8}{w:World}(hb:Sl own w G 1 ByteC v b)(hl:b.length=64):Calls prog 210 #[.agg (qI s.list),v] w (RetM (.agg (qI (blockL s b).list)) w):=by
 obtain⟨av,cap,rfl,hlen,hat⟩:=hb.at;obtain⟨bb,off,rfl,-,-,hcs⟩:=hat 0 (by omega)
 have hbyte:∀j,j<64->w.cell? ⟨bb,off+j*1,none⟩=some (byteV (b.getD j 0)):=fun j hj=>by
  obtain⟨cs,_,rfl,hc⟩:=hcs j (by omega);rw[List.getD_eq_getElem?_getD,List.getElem?_eq_getElem (by omega)];exact CellsAt.one.1 hc
 have hbb:bb<w.heap.size:=block_lt_of_cell (hbyte 0 (by omega));have HB0:=hid hbyte;clear hat hcs hb hbyte;go_enter func210,ntmps210;go_upto_region 0 with(fail)
 refine wpR [1,1] ?_;simp only[stz];refine wpD (zL 302 _ _ (by rfl) (by rfl) (fun w1 hB2 hm1 hs1=>?_))
 replace hB2:w1.heap[w.heap.size]?=some (.cells (qI s.list) 302 (0,0)):=hB2;try simp only[nmz]
 refine wpD (qN 302 _ (by rfl) w8Z (fun w2 hB4 hm2 hs2=>?_));replace hB4:w2.heap[w1.heap.size]?=some (.cells (qI (List.replicate 8 0)) 302 (0,0)):=hB4
 simp only[stz];replace hB2:=hm2.obj id hB2;go_upto_region 1 with(fail);refine wpR [1] ?_;simp only[stz];refine wpD (qN 340 _ (by rfl) w64Z (fun w3 hB5 hm3 hs3=>?_))
 replace hB5:w3.heap[w2.heap.size]?=some (.cells (qI (List.replicate 64 0)) 340 (0,0)):=hB5;simp only[stz];replace hB2:=hm3.obj id hB2;replace hB4:=hm3.obj id hB4
 have hM3:Mod NoB w w3:=(hm1.trans0 hm2).trans0 hm3
 have HB:Hid (∀j,j<64->w3.cell? ⟨bb,off+j*1,none⟩=some (byteV (b.getD j 0))):=fun j hj=>hM3.cell id (HB0.out j hj);have hz1:=hm1.size;have hz2:=hm2.size
 clear hm1 hm2 hm3 HB0;generalize hb2:w.heap.size=b2 at*;generalize hb4:w1.heap.size=b4 at*;generalize hb5:w2.heap.size=b5 at*;clear hb4 hb5 hz2 hz1;go_wp2
 go_loopw [6] (SprRel b 0 16 b5 w3) (fun i _=>16-(intOf i).toNat)
 case atStart=>exact⟨0,by omega,by omega,rfl,by simpa[rowW,xB]using hB5,Mod.refl _ _⟩
 case round=>
  rename World=>wr
  clear hB5;obtain⟨n,-,hn,rfl,hrow,hM⟩:=hrel;have hbne:¬bb=b5:=by omega
  by_cases hlt16:n<16
  ·have hz:(n:Int)<16:=by omega
   have hlt:n<64:=by omega
   have hsz:=qE (rowW b n);rw[rowW_len b (by omega)]at hsz;have hset:=rowW_set b hlt;rw[if_pos hlt16]at hset
   have hbw:∀j,j<64->wr.cell? ⟨bb,off+j*1,none⟩=some (byteV (b.getD j 0)):=fun j hj=>hM.cell hbne (HB.out j hj);have HBW:=hid hbw;have HSET:=hid hset
   have h0:4*n<b.length:=by omega
   have h1:4*n+1<b.length:=by omega
   have h2:4*n+2<b.length:=by omega
   have h3:4*n+3<b.length:=by omega
   clear hbw hset HB;go_upto_region 5 with(fail);have hS:Mod (fun k=>k=b5) wr wr.drew:=(Mod.refl _ _).drew
   refine wpRZ [3,3,3,3,3,0,3,3,3,3,3,3,3,0,3,3,3,3,3,3,3,3,0,3,3,3,3,3,3,3,3,0,3,3,3,1] [] (fun w'=>Mod (fun k=>k=b5) wr w') hS ?_
   simp only[stz];refine xZ _ _ _ _ 4 (n:Int) ((4*n:Nat):Int) rfl rfl rfl rfl (by omega) (by omega) (by omega) ?_;simp only[nmz];refine wpPI underlying53 1 h0 ?_
   simp only[nmz];refine wpLd 5 bb (off+4*n*1) (fun w' hS=>hS.cell hbne (HBW.out (4*n) (by omega))) underlying5 ?_;simp only[nmz]
   refine qC rfl (fun w'=>xH _ _ _ _ rfl rfl (by kernel_rfl) underlying301) ?_;simp only[nmz]
   refine jV _ _ _ _ _ .u64 24 rfl rfl rfl rfl (by omega) ?_;simp only[stz]
   refine xZ _ _ _ _ 4 (n:Int) ((4*n:Nat):Int) rfl rfl rfl rfl (by omega) (by omega) (by omega) ?_;simp only[nmz]
   refine zF _ _ _ _ ((4*n:Nat):Int) 1 ((4*n+1:Nat):Int) rfl rfl rfl rfl (by omega) (by omega) (by omega) ?_;simp only[nmz];refine wpPI underlying53 1 h1 ?_
   simp only[nmz];refine wpLd 5 bb (off+(4*n+1)*1) (fun w' hS=>hS.cell hbne (HBW.out (4*n+1) (by omega))) underlying5 ?_;simp only[nmz]
   refine qC rfl (fun w'=>xH _ _ _ _ rfl rfl (by kernel_rfl) underlying301) ?_;simp only[nmz]
   refine jV _ _ _ _ _ .u64 16 rfl rfl rfl rfl (by omega) ?_;simp only[nmz];refine wpPi_or32 _ _ _ _ _ _ rfl rfl rfl rfl ?_;simp only[stz]
   refine xZ _ _ _ _ 4 (n:Int) ((4*n:Nat):Int) rfl rfl rfl rfl (by omega) (by omega) (by omega) ?_;simp only[nmz]
   refine zF _ _ _ _ ((4*n:Nat):Int) 2 ((4*n+2:Nat):Int) rfl rfl rfl rfl (by omega) (by omega) (by omega) ?_;simp only[nmz];refine wpPI underlying53 1 h2 ?_
   simp only[nmz];refine wpLd 5 bb (off+(4*n+2)*1) (fun w' hS=>hS.cell hbne (HBW.out (4*n+2) (by omega))) underlying5 ?_;simp only[nmz]
   refine qC rfl (fun w'=>xH _ _ _ _ rfl rfl (by kernel_rfl) underlying301) ?_;simp only[nmz]
   refine jV _ _ _ _ _ .u64 8 rfl rfl rfl rfl (by omega) ?_;simp only[nmz];refine wpPi_or32 _ _ _ _ _ _ rfl rfl rfl rfl ?_;simp only[stz]
   refine xZ _ _ _ _ 4 (n:Int) ((4*n:Nat):Int) rfl rfl rfl rfl (by omega) (by omega) (by omega) ?_;simp only[nmz]
   refine zF _ _ _ _ ((4*n:Nat):Int) 3 ((4*n+3:Nat):Int) rfl rfl rfl rfl (by omega) (by omega) (by omega) ?_;simp only[nmz];refine wpPI underlying53 1 h3 ?_
   simp only[nmz];refine wpLd 5 bb (off+(4*n+3)*1) (fun w' hS=>hS.cell hbne (HBW.out (4*n+3) (by omega))) underlying5 ?_;simp only[nmz]
   refine qC rfl (fun w'=>xH _ _ _ _ rfl rfl (by kernel_rfl) underlying301) ?_;simp only[nmz];refine wpPi_or32 _ _ _ _ _ _ rfl rfl rfl rfl ?_
   simp only[nmz];refine qH _ _ _ _ _ _ _ _ rfl rfl rfl rfl underlying340 (n:=1) (by kernel_rfl) hlt ?_;simp only[nmz];refine qL rfl (fun K hK=>?_)
   refine qR 301 _ _ b5 (n*1) (wordV (wordAt b n)) (by rfl) (by rfl) (by rfl) rfl (by kernel_rfl) _ _ (show wr.drew.heap[b5]?=_ from hrow) (by rw[hsz];omega) (fun w2' hB2' hm2'=>?_)
   rw[Nat.mul_one,HSET.out]at hB2';replace hS:=hS.trans hm2' (fun _ _ h=>h);refine hK _ _ hS ?_;clear hK K;simp only[stz]
   have hM2:Mod (fun k=>k=b5) w3 w2':=hM.trans hS (fun _ _ h=>h);clear hM hS hm2' hrow;go_wp2
   go_roundw
   case rel=>exact⟨n+1,by omega,by omega,by go_num,hB2',hM2⟩
   case measure=>simp[intOf];omega
  ·have hz:¬(n:Int)<16:=by omega
   obtain rfl:n=16:=by omega
   clear HB hlt16 hz hn;go_wp2
   go_loopw [7] (SprRel b 16 64 b5 w3) (fun i _=>64-(intOf i).toNat)
   case atStart=>exact⟨16,by omega,by omega,rfl,hrow,hM⟩
   case round=>
    rename World=>wq
    clear hrow hM;obtain⟨n,hlo,hn,rfl,hrow,hM⟩:=hrel
    by_cases hlt:n<64
    ·have hz:(n:Int)<64:=by omega
     have hsz:=qE (rowW b n);rw[rowW_len b hn]at hsz;have hset:=rowW_set b hlt;rw[if_neg (by omega)]at hset;have HSET:=hid hset
     have hwd:∀i,i<n->(qI (rowW b n))[i]?=some (wordV ((xB b n).getD i 0)):=fun i hi=>rowW_at b hn hi;have HW:=hid hwd
     have hk15:n-15<64:=by omega
     have hk2:n-2<64:=by omega
     have hk16:n-16<64:=by omega
     have hk7:n-7<64:=by omega
     clear hwd hset;go_upto_region 9 with(fail);have hS:Mod NoB wq wq.drew:=(Mod.refl _ _).drew
     refine wpRP [(0,3),(1,3),(2,3),(3,0),(5,3),(6,3),(7,3),(8,0),(11,3),(12,3),(13,3),(14,0),(15,3),(4,1),(9,1),(10,3),(16,3),(17,3)] [] (fun w'=>Mod NoB wq w') hS ?_
     simp only[stz];refine zJ _ _ _ _ (n:Int) 15 ((n-15:Nat):Int) rfl rfl rfl rfl (by omega) (by omega) (by omega) ?_;simp only[nmz]
     refine qH _ _ _ _ _ _ _ _ rfl rfl rfl rfl underlying340 (n:=1) (by kernel_rfl) hk15 ?_;simp only[nmz]
     refine wpLd 301 b5 ((n-15)*1) (fun w' hS=>by rw[cell_of_row _ _ _ _ _ _ (hS.obj id hrow),Nat.mul_one];exact HW.out (n-15) (by omega)) underlying301 ?_
     simp only[stz];refine zJ _ _ _ _ (n:Int) 15 ((n-15:Nat):Int) rfl rfl rfl rfl (by omega) (by omega) (by omega) ?_;simp only[nmz]
     refine qH _ _ _ _ _ _ _ _ rfl rfl rfl rfl underlying340 (n:=1) (by kernel_rfl) hk15 ?_;simp only[nmz]
     refine wpLd 301 b5 ((n-15)*1) (fun w' hS=>by rw[cell_of_row _ _ _ _ _ _ (hS.obj id hrow),Nat.mul_one];exact HW.out (n-15) (by omega)) underlying301 ?_
     simp only[stz];refine zJ _ _ _ _ (n:Int) 15 ((n-15:Nat):Int) rfl rfl rfl rfl (by omega) (by omega) (by omega) ?_;simp only[nmz]
     refine qH _ _ _ _ _ _ _ _ rfl rfl rfl rfl underlying340 (n:=1) (by kernel_rfl) hk15 ?_;simp only[nmz]
     refine wpLd 301 b5 ((n-15)*1) (fun w' hS=>by rw[cell_of_row _ _ _ _ _ _ (hS.obj id hrow),Nat.mul_one];exact HW.out (n-15) (by omega)) underlying301 ?_
     simp only[nmz];refine jU _ _ _ _ _ .u64 3 rfl rfl rfl rfl (by omega) ?_;simp only[nmz];refine qL rfl (fun K hK=>?_)
     refine yQ (zX 237 [.tmp 62,.const (.int .i64 7)] _ rfl _ func237 rfl (by kernel_rfl) [wordV ((xB b n).getD (n-15) 0),.int .i64 7] rfl _) (yG ((xB b n).getD (n-15) 0) 7 (by omega) _) (fun wc1 hc1=>?_)
     have hS1:=hS.trans0 hc1;refine hK _ _ hS1 ?_;clear hK K;try simp only[nmz]
     refine qL rfl (fun K hK=>?_)
     refine yQ (zX 237 [.tmp 67,.const (.int .i64 18)] _ rfl _ func237 rfl (by kernel_rfl) [wordV ((xB b n).getD (n-15) 0),.int .i64 18] rfl _) (yG ((xB b n).getD (n-15) 0) 18 (by omega) _) (fun wc2 hc2=>?_)
     have hS2:=hS1.trans0 hc2;refine hK _ _ hS2 ?_;clear hK K;try simp only[nmz]
     refine zQ _ _ _ _ _ _ rfl rfl rfl rfl ?_;simp only[nmz];refine zQ _ _ _ _ _ _ rfl rfl rfl rfl ?_;simp only[stz]
     replace hM:=hM.trans hS2 (fun _ _ h=>h.elim);replace hrow:=hS2.obj id hrow;clear hS hS1 hS2 hc1 hc2;generalize wc2=wy at*;go_upto_region 10 with(fail)
     have hS:Mod NoB wy wy.drew:=(Mod.refl _ _).drew
     refine wpRP [(0,3),(1,3),(2,3),(3,0),(5,3),(6,3),(7,3),(8,0),(11,3),(12,3),(13,3),(14,0),(15,3),(4,1),(9,1),(10,3),(16,3),(17,3)] [] (fun w'=>Mod NoB wy w') hS ?_
     simp only[stz];refine zJ _ _ _ _ (n:Int) 2 ((n-2:Nat):Int) rfl rfl rfl rfl (by omega) (by omega) (by omega) ?_;simp only[nmz]
     refine qH _ _ _ _ _ _ _ _ rfl rfl rfl rfl underlying340 (n:=1) (by kernel_rfl) hk2 ?_;simp only[nmz]
     refine wpLd 301 b5 ((n-2)*1) (fun w' hS=>by rw[cell_of_row _ _ _ _ _ _ (hS.obj id hrow),Nat.mul_one];exact HW.out (n-2) (by omega)) underlying301 ?_
     simp only[stz];refine zJ _ _ _ _ (n:Int) 2 ((n-2:Nat):Int) rfl rfl rfl rfl (by omega) (by omega) (by omega) ?_;simp only[nmz]
     refine qH _ _ _ _ _ _ _ _ rfl rfl rfl rfl underlying340 (n:=1) (by kernel_rfl) hk2 ?_;simp only[nmz]
     refine wpLd 301 b5 ((n-2)*1) (fun w' hS=>by rw[cell_of_row _ _ _ _ _ _ (hS.obj id hrow),Nat.mul_one];exact HW.out (n-2) (by omega)) underlying301 ?_
     simp only[stz];refine zJ _ _ _ _ (n:Int) 2 ((n-2:Nat):Int) rfl rfl rfl rfl (by omega) (by omega) (by omega) ?_;simp only[nmz]
     refine qH _ _ _ _ _ _ _ _ rfl rfl rfl rfl underlying340 (n:=1) (by kernel_rfl) hk2 ?_;simp only[nmz]
     refine wpLd 301 b5 ((n-2)*1) (fun w' hS=>by rw[cell_of_row _ _ _ _ _ _ (hS.obj id hrow),Nat.mul_one];exact HW.out (n-2) (by omega)) underlying301 ?_
     simp only[nmz];refine jU _ _ _ _ _ .u64 10 rfl rfl rfl rfl (by omega) ?_;simp only[nmz];refine qL rfl (fun K hK=>?_)
     refine yQ (zX 237 [.tmp 79,.const (.int .i64 17)] _ rfl _ func237 rfl (by kernel_rfl) [wordV ((xB b n).getD (n-2) 0),.int .i64 17] rfl _) (yG ((xB b n).getD (n-2) 0) 17 (by omega) _) (fun wc1 hc1=>?_)
     have hS1:=hS.trans0 hc1;refine hK _ _ hS1 ?_;clear hK K;try simp only[nmz]
     refine qL rfl (fun K hK=>?_)
     refine yQ (zX 237 [.tmp 84,.const (.int .i64 19)] _ rfl _ func237 rfl (by kernel_rfl) [wordV ((xB b n).getD (n-2) 0),.int .i64 19] rfl _) (yG ((xB b n).getD (n-2) 0) 19 (by omega) _) (fun wc2 hc2=>?_)
     have hS2:=hS1.trans0 hc2;refine hK _ _ hS2 ?_;clear hK K;try simp only[nmz]
     refine zQ _ _ _ _ _ _ rfl rfl rfl rfl ?_;simp only[nmz];refine zQ _ _ _ _ _ _ rfl rfl rfl rfl ?_;simp only[stz]
     replace hM:=hM.trans hS2 (fun _ _ h=>h.elim);replace hrow:=hS2.obj id hrow;clear hS hS1 hS2 hc1 hc2;generalize wc2=wz at*;go_upto_region 11 with(fail)
     have hS:Mod NoB wz wz.drew:=(Mod.refl _ _).drew;refine wpRZ [3,3,3,3,0,3,3,3,3,3,0,3,3,3,3,2] [15] (fun w'=>Mod NoB wz w') hS ?_;simp only[stz]
     refine zJ _ _ _ _ (n:Int) 16 ((n-16:Nat):Int) rfl rfl rfl rfl (by omega) (by omega) (by omega) ?_;simp only[nmz]
     refine qH _ _ _ _ _ _ _ _ rfl rfl rfl rfl underlying340 (n:=1) (by kernel_rfl) hk16 ?_;simp only[nmz]
     refine wpLd 301 b5 ((n-16)*1) (fun w' hS=>by rw[cell_of_row _ _ _ _ _ _ (hS.obj id hrow),Nat.mul_one];exact HW.out (n-16) (by omega)) underlying301 ?_
     simp only[stz];refine zR _ _ _ _ _ _ rfl rfl rfl rfl ?_;simp only[stz]
     refine zJ _ _ _ _ (n:Int) 7 ((n-7:Nat):Int) rfl rfl rfl rfl (by omega) (by omega) (by omega) ?_;simp only[nmz]
     refine qH _ _ _ _ _ _ _ _ rfl rfl rfl rfl underlying340 (n:=1) (by kernel_rfl) hk7 ?_;simp only[nmz]
     refine wpLd 301 b5 ((n-7)*1) (fun w' hS=>by rw[cell_of_row _ _ _ _ _ _ (hS.obj id hrow),Nat.mul_one];exact HW.out (n-7) (by omega)) underlying301 ?_
     simp only[nmz];refine zR _ _ _ _ _ _ rfl rfl rfl rfl ?_;simp only[stz];refine zR _ _ _ _ _ _ rfl rfl rfl rfl ?_;simp only[nmz]
     refine qH _ _ _ _ _ _ _ _ rfl rfl rfl rfl underlying340 (n:=1) (by kernel_rfl) hlt ?_;simp only[nmz];refine zD rfl (fun K hK=>?_)
     refine qR 301 _ _ b5 (n*1) (wordV (wordNext (xB b n) n)) (by rfl) (by rfl) (by rfl) rfl (by kernel_rfl) _ _ (show wz.drew.heap[b5]?=_ from hrow) (by rw[hsz];omega) (fun wn hBn hmn=>?_)
     rw[Nat.mul_one,HSET.out]at hBn;refine hK _ _ ?_;clear hK K;simp only[stz]
     have hMn:Mod (fun k=>k=b5) w3 wn:=(hM.trans hS (fun _ _ h=>h.elim)).trans hmn (fun _ _ h=>h);clear hM hS hmn hrow;go_wp2
     go_roundw
     case rel=>exact⟨n+1,by omega,by omega,by go_num,hBn,hMn⟩
     case measure=>simp[intOf];omega
    ·have hz:¬(n:Int)<64:=by omega
     obtain rfl:n=64:=by omega
     have e64:rowW b 64=xB b 64:=by simp[rowW]
     rw[e64]at hrow;obtain⟨sp,hsp⟩:∃sp,xB b 64=sp:=⟨_,rfl⟩;have hspl:sp.length=64:=by rw[<-hsp];exact jT b 64
     rw[hsp]at hrow;have HSP:=hid hsp;replace hB2:=hM.objB (by omega) hB2;replace hB4:=hM.objB (by omega) hB4;have hMq:Mod NoB w wq:=hM3.transB hM (by omega)
     have hq:=hM.size;clear hsp e64 hz hn hlo hM;go_upto_region 12 with(fail);refine wpR [1,1,1] ?_;simp only[stz]
     refine wpXA 302 b2 0 (qI s.list) (CellsAt.whole hB2) underlying302 8 (by rw[qE];rfl) trivial ?_;try simp only[nmz]
     refine wpD (qN 302 _ (by rfl) w8Z (fun w5 hC10 hm5 hs5=>?_));replace hC10:w5.heap[wq.heap.size]?=some (.cells (qI (List.replicate 8 0)) 302 (0,0)):=hC10
     try simp only[nmz]
     refine wpD (qF 302 _ _ wq.heap.size 0 (qI s.list) (by rfl) (by rfl) (by rfl) (zT _) 8 (by kernel_rfl) (by rw[qE];rfl) _ _ hC10 (by rw[qE,qE];simp[W8.list]) (fun w6 hD10 hm6=>?_))
     rw[qD (by rw[qE,qE];simp[W8.list])]at hD10;simp only[stz];have hmq:Mod NoB wq w6:=hm5.transB hm6 (Nat.le_refl _)
     have hq6:=hm6.size;replace hB2:=hmq.obj id hB2;replace hB4:=hmq.obj id hB4;replace hrow:=hmq.obj id hrow;replace hMq:=hMq.trans0 hmq;clear hm5 hm6 hmq hC10
     go_upto_region 13 with(fail);refine wpR [1,1,1] ?_;simp only[stz]
     refine wpD (yQ (zX 238 [] _ rfl _ func238 rfl (by kernel_rfl) [] rfl _) (refKeys_any _) (fun w7 hm7=>?_));try simp only[nmz]
     refine wpD (qN 340 _ (by rfl) w64Z (fun w8 hC11 hm8 hs8=>?_))
     replace hC11:w8.heap[w7.heap.size]?=some (.cells (qI (List.replicate 64 0)) 340 (0,0)):=hC11;try simp only[nmz]
     refine wpD (qF 340 _ _ w7.heap.size 0 (qI shaKeys) (by rfl) (by rfl) (by rfl) (zT _) 64 (by kernel_rfl) (by rw[qE];rfl) _ _ hC11 (by rw[qE,qE];simp[shaKeys]) (fun w9 hD11 hm9=>?_))
     rw[qD (by rw[qE,qE];simp[shaKeys])]at hD11;simp only[stz];have hq7:=hm7.size
     have hmq:Mod NoB w6 w9:=(hm7.trans0 hm8).transB hm9 hm7.size;replace hB2:=hmq.obj id hB2;replace hB4:=hmq.obj id hB4;replace hrow:=hmq.obj id hrow
     replace hD10:=hmq.obj id hD10;replace hMq:=hMq.trans0 hmq;clear hm7 hm8 hm9 hmq hC11;generalize wq.heap.size=b10 at*;generalize w7.heap.size=b11 at*
     have hL10:w.heap.size<=b10:=by omega
     go_wp2
     go_loopw [12] (RndRel w b2 b4 b10 b11 b5 sp s) (fun i _=>64-(intOf i).toNat)
     case atStart=>exact⟨0,by omega,rfl,hD10,hD11,hrow,hB2,hB4,hMq⟩
     case round=>
      rename World=>wu
      clear hB2 hB4 hrow hD10 hD11 hMq;obtain⟨n,hn,rfl,hC10,hC11,hSP,hB2,hB4,hM⟩:=hrel
      by_cases hlt:n<64
      ·have hz:(n:Int)<64:=by omega
       obtain⟨c,hc⟩:∃c,rounds shaKeys sp n s=c:=⟨_,rfl⟩;have hnext:rounds shaKeys sp (n+1) s=round c (shaKeys.getD n 0) (sp.getD n 0):=by rw[<-hc];rfl
       rw[hc]at hC10;have HC:=hid hc;have HN:=hid hnext;clear hc hnext;go_upto_region 17 with(fail);have hS:Mod NoB wu wu.drew:=(Mod.refl _ _).drew
       refine wpRP [(0,3),(1,0),(2,3),(3,0),(5,3),(6,0),(9,3),(10,0),(14,3),(15,0),(16,3),(17,0),(18,3),(19,3),(20,0),(21,3),(22,3),(23,0),(24,3),(25,3),(27,3),(28,3),(29,0),(31,3),(32,3),(33,0),(4,1),(7,1),(8,3),(11,1),(12,3),(13,3),(26,3),(30,3),(34,3),(35,3)] [] (fun w'=>Mod NoB wu w') hS ?_
       simp only[stz];refine qH _ _ _ _ _ _ _ 7 rfl rfl rfl rfl underlying302 (n:=1) (by kernel_rfl) (by omega) ?_;simp only[nmz]
       refine wpLd (v:=(wordV c.h)) 301 b10 7 (fun w' hS=>word8 (hS.obj id hC10) 7 (by omega)) underlying301 ?_;simp only[nmz]
       refine qH _ _ _ _ _ _ _ 4 rfl rfl rfl rfl underlying302 (n:=1) (by kernel_rfl) (by omega) ?_;simp only[nmz]
       refine wpLd (v:=(wordV c.e)) 301 b10 4 (fun w' hS=>word8 (hS.obj id hC10) 4 (by omega)) underlying301 ?_;simp only[nmz]
       refine qH _ _ _ _ _ _ _ 4 rfl rfl rfl rfl underlying302 (n:=1) (by kernel_rfl) (by omega) ?_;simp only[nmz]
       refine wpLd (v:=(wordV c.e)) 301 b10 4 (fun w' hS=>word8 (hS.obj id hC10) 4 (by omega)) underlying301 ?_;simp only[nmz]
       refine qH _ _ _ _ _ _ _ 4 rfl rfl rfl rfl underlying302 (n:=1) (by kernel_rfl) (by omega) ?_;simp only[nmz]
       refine wpLd (v:=(wordV c.e)) 301 b10 4 (fun w' hS=>word8 (hS.obj id hC10) 4 (by omega)) underlying301 ?_;simp only[nmz]
       refine qH _ _ _ _ _ _ _ 4 rfl rfl rfl rfl underlying302 (n:=1) (by kernel_rfl) (by omega) ?_;simp only[nmz]
       refine wpLd (v:=(wordV c.e)) 301 b10 4 (fun w' hS=>word8 (hS.obj id hC10) 4 (by omega)) underlying301 ?_;simp only[nmz]
       refine qH _ _ _ _ _ _ _ 5 rfl rfl rfl rfl underlying302 (n:=1) (by kernel_rfl) (by omega) ?_;simp only[nmz]
       refine wpLd (v:=(wordV c.f)) 301 b10 5 (fun w' hS=>word8 (hS.obj id hC10) 5 (by omega)) underlying301 ?_;simp only[nmz]
       refine yY _ _ _ _ _ _ rfl rfl rfl rfl ?_;simp only[nmz];refine qH _ _ _ _ _ _ _ 4 rfl rfl rfl rfl underlying302 (n:=1) (by kernel_rfl) (by omega) ?_
       simp only[nmz];refine wpLd (v:=(wordV c.e)) 301 b10 4 (fun w' hS=>word8 (hS.obj id hC10) 4 (by omega)) underlying301 ?_;simp only[nmz]
       refine wpPi_not32 _ _ _ rfl rfl rfl ?_;simp only[nmz];refine qH _ _ _ _ _ _ _ 6 rfl rfl rfl rfl underlying302 (n:=1) (by kernel_rfl) (by omega) ?_
       simp only[nmz];refine wpLd (v:=(wordV c.g)) 301 b10 6 (fun w' hS=>word8 (hS.obj id hC10) 6 (by omega)) underlying301 ?_;simp only[nmz]
       refine yY _ _ _ _ _ _ rfl rfl rfl rfl ?_;simp only[nmz];refine zQ _ _ _ _ _ _ rfl rfl rfl rfl ?_;simp only[stz]
       refine qH _ _ _ _ _ _ _ _ rfl rfl rfl rfl underlying340 (n:=1) (by kernel_rfl) hlt ?_;simp only[nmz]
       refine wpLd (v:=(wordV (shaKeys.getD n 0))) 301 b11 (n*1) (fun w' hS=>by rw[Nat.mul_one];exact word64 (hS.obj id hC11) (by rfl) hlt) underlying301 ?_
       simp only[stz];refine qH _ _ _ _ _ _ _ _ rfl rfl rfl rfl underlying340 (n:=1) (by kernel_rfl) hlt ?_;simp only[nmz]
       refine wpLd (v:=(wordV (sp.getD n 0))) 301 b5 (n*1) (fun w' hS=>by rw[Nat.mul_one];exact word64 (hS.obj id hSP) hspl hlt) underlying301 ?_;simp only[nmz]
       refine qL rfl (fun K hK=>?_)
       refine yQ (zX 237 [.tmp 117,.const (.int .i64 6)] _ rfl _ func237 rfl (by kernel_rfl) [wordV c.e,.int .i64 6] rfl _) (yG c.e 6 (by omega) _) (fun wc1 hc1=>?_)
       have hS1:=hS.trans0 hc1;refine hK _ _ hS1 ?_;clear hK K;try simp only[nmz]
       refine qL rfl (fun K hK=>?_)
       refine yQ (zX 237 [.tmp 120,.const (.int .i64 11)] _ rfl _ func237 rfl (by kernel_rfl) [wordV c.e,.int .i64 11] rfl _) (yG c.e 11 (by omega) _) (fun wc2 hc2=>?_)
       have hS2:=hS1.trans0 hc2;refine hK _ _ hS2 ?_;clear hK K;try simp only[nmz]
       refine zQ _ _ _ _ _ _ rfl rfl rfl rfl ?_;simp only[nmz];refine qL rfl (fun K hK=>?_)
       refine yQ (zX 237 [.tmp 124,.const (.int .i64 25)] _ rfl _ func237 rfl (by kernel_rfl) [wordV c.e,.int .i64 25] rfl _) (yG c.e 25 (by omega) _) (fun wc3 hc3=>?_)
       have hS3:=hS2.trans0 hc3;refine hK _ _ hS3 ?_;clear hK K;try simp only[nmz]
       refine zQ _ _ _ _ _ _ rfl rfl rfl rfl ?_;simp only[nmz];refine zR _ _ _ _ _ _ rfl rfl rfl rfl ?_;simp only[nmz]
       refine zR _ _ _ _ _ _ rfl rfl rfl rfl ?_;simp only[nmz];refine zR _ _ _ _ _ _ rfl rfl rfl rfl ?_;simp only[nmz]
       refine zR _ _ _ _ _ _ rfl rfl rfl rfl ?_;simp only[stz];replace hM:=hM.trans0 hS3;replace hC10:=hS3.obj id hC10;replace hC11:=hS3.obj id hC11
       replace hSP:=hS3.obj id hSP;replace hB2:=hS3.obj id hB2;replace hB4:=hS3.obj id hB4;clear hS hS1 hS2 hS3 hc1 hc2 hc3;generalize wc3=wv at*
       go_upto_region 18 with(fail);have hS:Mod NoB wv wv.drew:=(Mod.refl _ _).drew
       refine wpRP [(0,3),(1,0),(3,3),(4,0),(7,3),(8,0),(11,3),(12,0),(13,3),(14,0),(15,3),(16,3),(17,0),(18,3),(19,0),(20,3),(21,3),(22,3),(23,0),(24,3),(25,0),(26,3),(27,3),(2,1),(5,1),(6,3),(9,1),(10,3),(28,3),(29,3)] [] (fun w'=>Mod NoB wv w') hS ?_
       simp only[stz];refine qH _ _ _ _ _ _ _ 0 rfl rfl rfl rfl underlying302 (n:=1) (by kernel_rfl) (by omega) ?_;simp only[nmz]
       refine wpLd (v:=(wordV c.a)) 301 b10 0 (fun w' hS=>word8 (hS.obj id hC10) 0 (by omega)) underlying301 ?_;simp only[nmz]
       refine qH _ _ _ _ _ _ _ 0 rfl rfl rfl rfl underlying302 (n:=1) (by kernel_rfl) (by omega) ?_;simp only[nmz]
       refine wpLd (v:=(wordV c.a)) 301 b10 0 (fun w' hS=>word8 (hS.obj id hC10) 0 (by omega)) underlying301 ?_;simp only[nmz]
       refine qH _ _ _ _ _ _ _ 0 rfl rfl rfl rfl underlying302 (n:=1) (by kernel_rfl) (by omega) ?_;simp only[nmz]
       refine wpLd (v:=(wordV c.a)) 301 b10 0 (fun w' hS=>word8 (hS.obj id hC10) 0 (by omega)) underlying301 ?_;simp only[nmz]
       refine qH _ _ _ _ _ _ _ 0 rfl rfl rfl rfl underlying302 (n:=1) (by kernel_rfl) (by omega) ?_;simp only[nmz]
       refine wpLd (v:=(wordV c.a)) 301 b10 0 (fun w' hS=>word8 (hS.obj id hC10) 0 (by omega)) underlying301 ?_;simp only[nmz]
       refine qH _ _ _ _ _ _ _ 1 rfl rfl rfl rfl underlying302 (n:=1) (by kernel_rfl) (by omega) ?_;simp only[nmz]
       refine wpLd (v:=(wordV c.b)) 301 b10 1 (fun w' hS=>word8 (hS.obj id hC10) 1 (by omega)) underlying301 ?_;simp only[nmz]
       refine yY _ _ _ _ _ _ rfl rfl rfl rfl ?_;simp only[nmz];refine qH _ _ _ _ _ _ _ 0 rfl rfl rfl rfl underlying302 (n:=1) (by kernel_rfl) (by omega) ?_
       simp only[nmz];refine wpLd (v:=(wordV c.a)) 301 b10 0 (fun w' hS=>word8 (hS.obj id hC10) 0 (by omega)) underlying301 ?_;simp only[nmz]
       refine qH _ _ _ _ _ _ _ 2 rfl rfl rfl rfl underlying302 (n:=1) (by kernel_rfl) (by omega) ?_;simp only[nmz]
       refine wpLd (v:=(wordV c.c)) 301 b10 2 (fun w' hS=>word8 (hS.obj id hC10) 2 (by omega)) underlying301 ?_;simp only[nmz]
       refine yY _ _ _ _ _ _ rfl rfl rfl rfl ?_;simp only[nmz];refine zQ _ _ _ _ _ _ rfl rfl rfl rfl ?_;simp only[nmz]
       refine qH _ _ _ _ _ _ _ 1 rfl rfl rfl rfl underlying302 (n:=1) (by kernel_rfl) (by omega) ?_;simp only[nmz]
       refine wpLd (v:=(wordV c.b)) 301 b10 1 (fun w' hS=>word8 (hS.obj id hC10) 1 (by omega)) underlying301 ?_;simp only[nmz]
       refine qH _ _ _ _ _ _ _ 2 rfl rfl rfl rfl underlying302 (n:=1) (by kernel_rfl) (by omega) ?_;simp only[nmz]
       refine wpLd (v:=(wordV c.c)) 301 b10 2 (fun w' hS=>word8 (hS.obj id hC10) 2 (by omega)) underlying301 ?_;simp only[nmz]
       refine yY _ _ _ _ _ _ rfl rfl rfl rfl ?_;simp only[nmz];refine zQ _ _ _ _ _ _ rfl rfl rfl rfl ?_;simp only[nmz];refine qL rfl (fun K hK=>?_)
       refine yQ (zX 237 [.tmp 150,.const (.int .i64 2)] _ rfl _ func237 rfl (by kernel_rfl) [wordV c.a,.int .i64 2] rfl _) (yG c.a 2 (by omega) _) (fun wc1 hc1=>?_)
       have hS1:=hS.trans0 hc1;refine hK _ _ hS1 ?_;clear hK K;try simp only[nmz]
       refine qL rfl (fun K hK=>?_)
       refine yQ (zX 237 [.tmp 153,.const (.int .i64 13)] _ rfl _ func237 rfl (by kernel_rfl) [wordV c.a,.int .i64 13] rfl _) (yG c.a 13 (by omega) _) (fun wc2 hc2=>?_)
       have hS2:=hS1.trans0 hc2;refine hK _ _ hS2 ?_;clear hK K;try simp only[nmz]
       refine zQ _ _ _ _ _ _ rfl rfl rfl rfl ?_;simp only[nmz];refine qL rfl (fun K hK=>?_)
       refine yQ (zX 237 [.tmp 157,.const (.int .i64 22)] _ rfl _ func237 rfl (by kernel_rfl) [wordV c.a,.int .i64 22] rfl _) (yG c.a 22 (by omega) _) (fun wc3 hc3=>?_)
       have hS3:=hS2.trans0 hc3;refine hK _ _ hS3 ?_;clear hK K;try simp only[nmz]
       refine zQ _ _ _ _ _ _ rfl rfl rfl rfl ?_;simp only[nmz];refine zR _ _ _ _ _ _ rfl rfl rfl rfl ?_;simp only[stz];replace hM:=hM.trans0 hS3
       replace hC10:=hS3.obj id hC10;replace hC11:=hS3.obj id hC11;replace hSP:=hS3.obj id hSP;replace hB2:=hS3.obj id hB2;replace hB4:=hS3.obj id hB4
       clear hS hS1 hS2 hS3 hc1 hc2 hc3;generalize wc3=wx at*;go_upto_region 19 with(fail);refine wpR [3,3,3,3,1,3,1,3,1,3,1,3,3,3,1,3,1,3,1,3,1] ?_
       simp only[stz];refine zR _ _ _ _ _ _ rfl rfl rfl rfl ?_;simp only[nmz]
       refine qH _ _ _ _ _ _ _ 0 rfl rfl rfl rfl underlying302 (n:=1) (by kernel_rfl) (by omega) ?_;simp only[nmz]
       refine wpXd (v:=(wordV c.a)) 301 b10 0 (word8 hC10 0 (by omega)) underlying301 trivial ?_;try simp only[nmz]
       refine qH _ _ _ _ _ _ _ 1 rfl rfl rfl rfl underlying302 (n:=1) (by kernel_rfl) (by omega) ?_;simp only[nmz]
       refine wpXd (v:=(wordV c.b)) 301 b10 1 (word8 hC10 1 (by omega)) underlying301 trivial ?_;try simp only[nmz]
       refine qH _ _ _ _ _ _ _ 2 rfl rfl rfl rfl underlying302 (n:=1) (by kernel_rfl) (by omega) ?_;simp only[nmz]
       refine wpXd (v:=(wordV c.c)) 301 b10 2 (word8 hC10 2 (by omega)) underlying301 trivial ?_;try simp only[nmz]
       refine qH _ _ _ _ _ _ _ 3 rfl rfl rfl rfl underlying302 (n:=1) (by kernel_rfl) (by omega) ?_;simp only[nmz]
       refine wpXd (v:=(wordV c.d)) 301 b10 3 (word8 hC10 3 (by omega)) underlying301 trivial ?_;simp only[stz];refine zR _ _ _ _ _ _ rfl rfl rfl rfl ?_
       simp only[nmz];refine qH _ _ _ _ _ _ _ 4 rfl rfl rfl rfl underlying302 (n:=1) (by kernel_rfl) (by omega) ?_;simp only[nmz]
       refine wpXd (v:=(wordV c.e)) 301 b10 4 (word8 hC10 4 (by omega)) underlying301 trivial ?_;try simp only[nmz]
       refine qH _ _ _ _ _ _ _ 5 rfl rfl rfl rfl underlying302 (n:=1) (by kernel_rfl) (by omega) ?_;simp only[nmz]
       refine wpXd (v:=(wordV c.f)) 301 b10 5 (word8 hC10 5 (by omega)) underlying301 trivial ?_;try simp only[nmz]
       refine qH _ _ _ _ _ _ _ 6 rfl rfl rfl rfl underlying302 (n:=1) (by kernel_rfl) (by omega) ?_;simp only[nmz]
       refine wpXd (v:=(wordV c.g)) 301 b10 6 (word8 hC10 6 (by omega)) underlying301 trivial ?_;try simp only[nmz]
       refine qC (v:=.agg (qI (round c (shaKeys.getD n 0) (sp.getD n 0)).list)) rfl (fun w'=>qO 302 _ [(0,wordV (roundX c (shaKeys.getD n 0) (sp.getD n 0)+roundY c)),(1,wordV c.a),(2,wordV c.b),(3,wordV c.c),(4,wordV (c.d+roundX c (shaKeys.getD n 0) (sp.getD n 0))),(5,wordV c.e),(6,wordV c.f),(7,wordV c.g)] _ (by rfl) (by rfl) (built8w _ _ _ _ _ _ _ _)) ?_
       simp only[nmz]
       refine wpD (qF 302 _ _ b10 0 (qI (round c (shaKeys.getD n 0) (sp.getD n 0)).list) (by rfl) (by rfl) (by rfl) (zT _) 8 (by kernel_rfl) (by rw[qE];rfl) _ _ hC10 (by rw[qE,qE];simp[W8.list]) (fun w5 hD4 hm5=>?_))
       rw[qD (by rw[qE,qE];simp[W8.list]),<-HN.out]at hD4;have hM5:=hM.transB hm5 hL10;replace hB2:=hm5.objB (by omega) hB2
       replace hB4:=hm5.objB (by omega) hB4;replace hC11:=hm5.objB (by omega) hC11;replace hSP:=hm5.objB (by omega) hSP;clear hC10 hm5;simp only[stz];go_wp2
       go_roundw
       case rel=>exact⟨n+1,by omega,by go_num,hD4,hC11,hSP,hB2,hB4,hM5⟩
       case measure=>simp[intOf];omega
      ·have hz:¬(n:Int)<64:=by omega
       obtain rfl:n=64:=by omega
       obtain⟨c,hc⟩:∃c,rounds shaKeys sp 64 s=c:=⟨_,rfl⟩;rw[hc]at hC10
       have HR:Hid (blockL s b=addW s c):=by
        show blockL s b=addW s c
        unfold blockL;rw[HSP.out,hc]
       have hlen:(addW s c).list.length=8:=rfl;have hcsz:(qI c.list).size=8:=by rw[qE];rfl
       clear hc hC11 hSP hz hn;go_wp2
       go_loopw [15] (Add2Rel w b2 b4 b10 s c) (fun i _=>8-(intOf i).toNat)
       case atStart=>exact⟨0,by omega,rfl,by rw[List.take_zero,putRow_none (by omega)];exact hC10,hB2,hB4,hM⟩
       case round=>
        rename World=>wl
        clear hC10 hB2 hB4 hM;obtain⟨n,hn,rfl,hrow,hB2,hB4,hM⟩:=hrel
        by_cases hlt:n<8
        ·have hz:(n:Int)<8:=by omega
         have hw1:wl.cell? ⟨b10,n*1,none⟩=some (wordV (c.list.getD n 0)):=by
          have h0:=words_row c n hlt;rw[Nat.zero_add]at h0
          rw[cell_of_row _ _ _ _ _ _ hrow,Nat.mul_one,putRow_get (by rw[qE,List.length_take];omega),if_neg (by rw[qE,List.length_take];omega),h0]
         have hstep:=putRow_step (cur:=qI c.list) (oa:=0) (n:=n) (l:=(addW s c).list) (by omega) (by omega)
         have hpsz:(qY (qI c.list) 0 (qI ((addW s c).list.take n))).size=8:=by rw[yH (by rw[qE,List.length_take];omega),hcsz]
         rw[addW_at s c n hlt,UInt32.add_comm,Nat.zero_add]at hstep;have HST:=hid hstep;clear hstep;go_upto_region 23 with(fail)
         have hS:Mod NoB wl wl.drew:=(Mod.refl _ _).drew;refine wpRZ [3,3,3,0,3,3,0,3,3,2] [9] (fun w'=>Mod NoB wl w') hS ?_;simp only[stz]
         refine qH _ _ _ _ _ _ _ _ rfl rfl rfl rfl underlying302 (n:=1) (by kernel_rfl) hlt ?_;simp only[nmz]
         refine wpLd (v:=(wordV (c.list.getD n 0))) 301 b10 (n*1) (fun w' hS=>hS.cell id hw1) underlying301 ?_;simp only[stz]
         refine qH _ _ _ _ _ _ _ _ rfl rfl rfl rfl underlying302 (n:=1) (by kernel_rfl) hlt ?_;simp only[nmz]
         refine wpLd (v:=(wordV (s.list.getD n 0))) 301 b2 (n*1) (fun w' hS=>by rw[Nat.mul_one];exact word8 (hS.obj id hB2) n hlt) underlying301 ?_;simp only[nmz]
         refine zR _ _ _ _ _ _ rfl rfl rfl rfl ?_;simp only[nmz];refine qH _ _ _ _ _ _ _ _ rfl rfl rfl rfl underlying302 (n:=1) (by kernel_rfl) hlt ?_
         simp only[nmz];refine zD rfl (fun K hK=>?_)
         refine qR 301 _ _ b10 (n*1) (wordV (c.list.getD n 0+s.list.getD n 0)) (by rfl) (by rfl) (by rfl) rfl (by kernel_rfl) _ _ (show wl.drew.heap[b10]?=_ from hrow) (by rw[hpsz];omega) (fun wn hBn hmn=>?_)
         rw[Nat.mul_one,HST.out]at hBn;replace hB2:=hmn.objB (by omega) (show wl.drew.heap[b2]?=_ from hB2)
         replace hB4:=hmn.objB (by omega) (show wl.drew.heap[b4]?=_ from hB4);refine hK _ _ ?_;clear hK K;simp only[stz]
         have hMn:Mod NoB w wn:=(hM.trans0 hS).transB hmn (by omega);clear hM hS hmn hrow hw1;go_wp2
         go_roundw
         case rel=>exact⟨n+1,by omega,by go_num,hBn,hB2,hB4,hMn⟩
         case measure=>simp[intOf];omega
        ·have hz:¬(n:Int)<8:=by omega
         obtain rfl:n=8:=by omega
         have hfin:qY (qI c.list) 0 (qI ((addW s c).list.take 8))=qI (addW s c).list:=by
          rw[List.take_of_length_le (by omega)];exact qD (by rw[hcsz,qE];rfl)
         rw[hfin]at hrow;clear hfin;go_upto_region 24 with(fail);refine wpR [1,1] ?_;simp only[stz]
         refine wpXA 302 b10 0 (qI (addW s c).list) (CellsAt.whole hrow) underlying302 8 (by rw[qE];rfl) trivial ?_;try simp only[nmz]
         refine wpD (qF 302 _ _ b4 0 (qI (addW s c).list) (by rfl) (by rfl) (by rfl) (zT _) 8 (by kernel_rfl) (by rw[qE];rfl) _ _ hB4 (by rw[qE,qE];simp[W8.list]) (fun wz hD4 hmz=>?_))
         rw[qD (by rw[qE,qE];simp[W8.list])]at hD4;simp only[stz];have hMz:Mod NoB w wz:=hM.transB hmz (by omega)
         clear hmz hM hB4 hB2 hrow;go_wp2;refine bodyPost_ret (results_cell_row rfl _ _ b4 _ _ _ _ (by rfl) hD4 underlying302 rfl (by rw[qE];kernel_rfl)) rfl ?_
         exact⟨by rw[HR.out],hMz⟩
section
variable{P:Program}{ops:Array Oper}{Q:Exit->Act->World->Prop}{S:World->Prop}{o:Oper}{r:List (Oper×Nat)}{a:Act}{w:World}
theorem wpPi_sliceLH(t e:TypeId)(x l h:Operand)(ad:Option Addr)(len cap i j n:Nat)(hw:Region.wanted o (yielded ops a.tmps)=true)(ho:o.op=.slice t x (some l) (some h) none)(hx:a.eval x=.slice ad len cap)(hl:a.eval l=.int .i64 (i:Int))(hh:a.eval h=.int .i64 (j:Int))
 (hu:P.underlying t=some (.slice e))(hs:(P.info? e).map (·.size)=some n)(hi:i<=j)(hj:j<=cap)(hk:wpPi P ops Q S r (a.put o.dst (sliced ad i j cap n)) w):wpPi P ops Q S ((o,3)::r) a w:=
 qC hw (fun w=>by
  have he:P.elem t=e:=by simp[Program.elem,hu]
  have hsz:(sizeOf e).run P w=.ok n w:=by
   cases hq:P.info? e with
   |none=>simp[hq]at hs
   |some i=>simp[hq]at hs;simp[sizeOf,typeInfo,hq,hs]
  unfold execOp;simp only[ho,hx,hl,hh,Option.map_none,Option.map_some]
  have h1:=run_sliceAt_slice (P:=P) (w:=w) t (.slice ad len cap) (some (.int .i64 (i:Int))) (some (.int .i64 (j:Int))) none (by rw[he];exact hu)
  have h2:=run_slice_lh (P:=P) (w:=w) t ad len cap (by rw[he];exact hu) .i64 .i64 (i:Int) (j:Int) (by omega) (by omega) (by omega)
  simp only[Sem.run_bind,h1,h2,he,hsz,Result.andThen_ok,Sem.run_pure,Int.toNat_natCast]) hk
end
theorem Sl.mid{α:Type}{own:Bool}{w:World}{G:Nat->Prop}{sz cap:Nat}{R:Array Value->α->Prop}{ad:Option Addr}{l:List α}(h:Sl own w G sz R (.slice ad l.length cap) l)(i j:Nat)(hij:i<j)(hj:j<=l.length):Sl own w G sz R (sliced ad i j cap sz) ((l.drop i).take (j-i)):=by
 obtain⟨a,c,e,h1,h2,h3⟩:=h
 cases e
 refine⟨_,_,by rw[List.length_take,List.length_drop,Nat.min_eq_left (by omega)];rfl,by rw[List.length_take,List.length_drop];omega,by omega,fun hne=>?_⟩
 obtain⟨b,off,rfl,hG,ho,hc⟩:=h3 (by rintro rfl;simp at hj;omega);refine⟨b,off+i*sz,by rw[if_neg (by omega)];simp[jS],hG,ho,fun k hk=>?_⟩
 rw[List.length_take,List.length_drop]at hk;obtain⟨cs,hs,hR,hcs⟩:=hc (i+k) (by omega);refine⟨cs,hs,by rw[List.getElem_take,List.getElem_drop];exact hR,?_⟩
 rw[show off+i*sz+k*sz=off+(i+k)*sz by rw[Nat.add_mul];omega];exact hcs
def BlkRel2(w0:World)(b6:Nat)(Y:List UInt8)(i:Value)(w:World):Prop:=∃k:Nat,64*k<=Y.length/\i=.int .i64 ((64*k:Nat):Int)/\w.heap[b6]?=some (.cells (qI (xD k shaBegin Y).list) 302 (0,0))/\Mod (fun q=>q=b6) w0 w
def OutRel2(w0:World)(b2 b4:Nat)(c:W8)(i:Value)(w:World):Prop:=∃n:Nat,n<=32/\i=.int .i64 n/\w.heap[b2]?=some (.cells (outRow c n) 24 (0,0))/\w.heap[b4]?=some (.cells (qI c.list) 302 (0,0))/\Mod (fun q=>q=b2) w0 w
theorem built8b:prog.built 302 [(0,.int .u32 1779033703),(1,.int .u32 3144134277),(2,.int .u32 1013904242),(3,.int .u32 2773480762),(4,.int .u32 1359893119),(5,.int .u32 2600822924),(6,.int .u32 528734635),(7,.int .u32 1541459225)]=some (qI shaBegin.list):=by kernel_rfl
def LenDRel(w0:World)(X:List UInt8)(n:Nat)(v i:Value)(w:World):Prop:=∃k:Nat,k<=8/\i=.int .i64 (7-(k:Int))/\Bts w0.heap.size w v (X++(yB n).take k)/\Mod NoB w0 w
theorem refSum_any{own:Bool}{G:Nat->Prop}{v:Value}{m:List UInt8}{w:World}(hb:Sl own w G 1 ByteC v m)(hl:m.length<=70368744177664):
 Calls prog 152 #[v] w (RetM (.agg (qA (shaL m))) w):=by
 have hbS:=hid hb;obtain⟨adm,capm,rfl,hlem,hmxm,-⟩:=hb;go_enter func152,ntmps152;go_upto_region 0 with(fail);refine wpR [1] ?_;simp only[stz]
 refine wpD (qN 24 _ (by rfl) idZ (fun w1 hB1 hm1 hs1=>?_));replace hB1:w1.heap[w.heap.size]?=some (.cells (qA (List.replicate 32 0)) 24 (0,0)):=hB1
 simp only[stz];go_upto_region 1 with(fail);refine wpR [1,3,1,1,1,3] ?_;simp only[stz]
 refine wpD (xA 53 5 (by rfl) underlying53 (by kernel_rfl) (fun w2 hB2 hm2 hs2=>?_));simp only[stz]
 refine wpD (jH _ _ (by rfl) w1.heap.size _ [] (by rfl) (yN _ hB2 (Nat.le_refl _)) _ m (by rfl) (hbS.out.keep0 (hm1.trans0 hm2)).bsrc (by simp;omega) hm2.size (fun v3 w3 ho3 hm3=>?_))
 rw[List.nil_append]at ho3;try simp only[nmz]
 refine wpD (qQ 53 5 _ (byteV 128) (.int .u8 0) 1 (by rfl) (by rfl) underlying53 (by kernel_rfl) (by omega) (by omega) (by rfl) (fun w5 hB5 hm5 hs5=>?_))
 replace hB5:w5.heap[w3.heap.size]?=some (.cells #[byteV 128] 5 (0,0)):=hB5;try simp only[nmz]
 refine wpDo rfl ?_;have hs3:=hm3.size
 refine jH _ _ (by rfl) w1.heap.size _ m (by rfl) (ho3.keep hm5 (fun _ _=>id)) (.slice (some ⟨w3.heap.size,0,none⟩) 1 1) [128] (by rfl) (owns_src (owns_lit hB5)) (by simp;omega) (by omega) (fun v6 w6 ho6 hm6=>?_)
 simp only[stz]
 have hM3:Mod NoB w1 w3:=hm2.trans hm3 (fun k hk e=>by
  have e':some w1.heap.size=some k:=e
  cases e';omega)
 have hM6:Mod NoB w1 w6:=(hM3.trans0 hm5).trans hm6 (fun k hk e=>by have:=(ho3.lt e).1;omega);clear hM3 hm2 hm3 hm5 hm6 ho3 hB5 hs5 hs2 hB2;go_wp2
 go_loopw [3] (PadRel w1 m) (fun v _=>padM (lenV v))
 case atStart=>exact⟨0,Nat.zero_le _,by simpa[padJ]using ho6,hM6⟩
 case round=>
  rename World=>wr
  clear ho6 hM6;obtain⟨j,hj,hob,hM⟩:=hrel;have hoH:=hid hob;have hjl:=padJ_len m j;have hpad:padN m.length<64:=by unfold padN;omega
  have hPS:=hid (padJ_succ m j);obtain⟨ad,cap,rfl⟩:=hob.slice;clear hob;have hwr:=hM.size;go_upto_region 2 with(fail)
  by_cases h56:(m.length+1+j+8)%64=0
  ·skip
   refine wpR [3,3,3,3,3] ?_;simp only[stz];refine wpPL ?_;simp only[nmz]
   refine zF _ _ _ _ ((padJ m j).length:Int) 8 (((padJ m j).length+8:Nat):Int) rfl rfl rfl rfl (by omega) (by omega) (by omega) ?_;simp only[nmz]
   refine wpPi_remR _ _ _ _ (((padJ m j).length+8:Nat):Int) 64 0 rfl rfl rfl rfl (by omega) (by omega) (by omega) ?_;simp only[nmz]
   refine qK _ _ _ _ _ _ _ _ rfl rfl rfl rfl rfl false (by rfl) ?_;simp only[stz];have hj2:j=padN m.length:=by unfold padN at hj |-;omega
   subst hj2;clear hPS h56 hj;generalize hX:padJ m (padN m.length)=X at hoH hjl |-;have HX:=hid hX
   have hcv:IntKind.u64.wrap (m.length:Int)=(m.length:Int):=by simp[IntKind.wrap,IntKind.bits,IntKind.signed];omega
   have HCV:=hid hcv;clear hcv;go_upto_region 4 with(fail);refine wpR [3,3,3,3,3] ?_;simp only[stz];refine wpPL ?_;simp only[nmz]
   refine qC (v:=.int .u64 (m.length:Int)) rfl (fun w'=>exec_conv_uint 3 300 _ _ rfl rfl (by kernel_rfl) underlying300 _ HCV.out) ?_;simp only[nmz]
   refine qC (v:=.int .u64 ((m.length*8:Nat):Int)) rfl (fun w'=>exec_mul64 _ _ _ _ m.length 8 (m.length*8) rfl rfl rfl rfl (by omega)) ?_;simp only[stz];go_wp2
   go_loopw [3,5] (LenDRel w1 X m.length) (fun _ i _=>(intOf i+1).toNat)
   case atStart=>exact⟨0,by omega,rfl,by simpa using hoH.out,hM⟩
   case round=>
    rename World=>wq
    clear hoH hM hwr;obtain⟨k,hk,rfl,hob,hM⟩:=hrel;obtain⟨Y,hY⟩:∃Y,X++(yB m.length).take k=Y:=⟨_,rfl⟩;rw[hY]at hob
    have hYl:Y.length=X.length+k:=by rw[<-hY,List.length_append,List.length_take,lenBytes_len];omega
    have hoH:=hid hob;obtain⟨ad2,cap2,rfl⟩:=hob.slice;clear hob;have hwq:=hM.size
    by_cases hlt:k<8
    ·have hz:(0:Int)<=7-(k:Int):=by omega
     have hstep:Y++[UInt8.ofNat (m.length*8/2^(56-8*k))]=X++(yB m.length).take (k+1):=by rw[lenBytes_step m.length k hlt,<-hY,List.append_assoc]
     have HSTEP:=hid hstep;have HYY:=hid hY;clear hstep hY;obtain⟨y,hy⟩:∃y,UInt8.ofNat (m.length*8/2^(56-8*k))=y:=⟨_,rfl⟩;have HY:=hid hy;clear hy
     go_upto_region 8 with(fail);refine wpR [3,3,3,3,3,3,1,1,3] ?_;simp only[stz]
     refine xZ _ _ _ _ 8 (7-(k:Int)) ((56-8*k:Nat):Int) rfl rfl rfl rfl (by omega) (by omega) (by omega) ?_;simp only[nmz]
     refine qC (v:=.int .u64 ((m.length*8/2^(56-8*k):Nat):Int)) rfl (fun w'=>exec_shr64 _ _ _ _ (m.length*8) .i64 (56-8*k) rfl rfl rfl (by omega) (by omega)) ?_
     simp only[nmz];refine qC (v:=byteV y) rfl (fun w'=>by rw[<-HY.out];exact exec_byte_of_u64 _ _ _ _ rfl rfl (by kernel_rfl) underlying5) ?_;simp only[nmz]
     refine wpD (qQ 53 5 _ (byteV y) (.int .u8 0) 1 (by rfl) (by rfl) underlying53 (by kernel_rfl) (by omega) (by omega) (by rfl) (fun w7 hB7 hm7 hs7=>?_))
     replace hB7:w7.heap[wq.heap.size]?=some (.cells #[byteV y] 5 (0,0)):=hB7;try simp only[nmz]
     refine wpD (jH _ _ (by rfl) w1.heap.size _ Y (by rfl) (hoH.out.keep hm7 (fun _ _=>id)) (.slice (some ⟨wq.heap.size,0,none⟩) 1 1) [y] (by rfl) (owns_src (owns_lit hB7)) (by simp;omega) (by omega) (fun v8 w8 ho8 hm8=>?_))
     rw[<-HY.out,HSTEP.out]at ho8;have hM8:Mod NoB w1 w8:=(hM.trans0 hm7).trans hm8 (fun k hk e=>by have:=(hoH.out.lt e).1;omega);simp only[stz];clear hm8 hm7 hB7 hs7
     go_wp2
     go_roundw
     case rel=>exact⟨k+1,by omega,by congr 1;omega,ho8,hM8⟩
     case measure=>simp[intOf];omega
    ·have hz:¬(0:Int)<=7-(k:Int):=by omega
     obtain rfl:k=8:=by omega
     have hYX:padL m=Y:=by
      rw[<-hY,<-HX.out,List.take_of_length_le (by rw[lenBytes_len];omega)];rfl
     have hY64:Y.length%64=0:=by rw[<-hYX];exact(padL_len m).2
     have hYmax:Y.length<=140737488355328:=by omega
     have HYX:=hid hYX;have hb1:w.heap.size<w1.heap.size:=hs1;clear hY hYX hz hk;go_upto_region 9 with(fail);refine wpR [1,1,1] ?_;simp only[stz]
     refine wpX rfl (qO 302 _ _ (qI shaBegin.list) (by rfl) (by rfl) built8b) trivial ?_;try simp only[nmz]
     refine wpD (qN 302 _ (by rfl) w8Z (fun w7 hC6 hm7 hs7=>?_));replace hC6:w7.heap[wq.heap.size]?=some (.cells (qI (List.replicate 8 0)) 302 (0,0)):=hC6
     try simp only[nmz]
     refine wpD (qF 302 _ _ wq.heap.size 0 (qI shaBegin.list) (by rfl) (by rfl) (by rfl) (zT _) 8 (by kernel_rfl) (by rw[qE];rfl) _ _ hC6 (by rw[qE,qE];simp[W8.list]) (fun w8 hD6 hm8=>?_))
     rw[qD (by rw[qE,qE];simp[W8.list])]at hD6;simp only[stz];have hmq:Mod NoB wq w8:=hm7.transB hm8 (Nat.le_refl _)
     have hsl:Sl true w8 (fun k=>k<wq.heap.size) 1 ByteC (.slice ad2 Y.length cap2) Y:=((hoH.out.sl).mono (G':=fun k=>k<wq.heap.size) (fun k hk=>hk.2.1) (fun _ _ h=>h)).keep0 hmq
     have HSL:=hid hsl
     have hcap2:Y.length<=cap2:=by
      obtain⟨a',c',e,h,-⟩:=hsl;cases e;exact h
     have hM8:Mod NoB w1 w8:=hM.trans0 hmq;clear hm7 hm8 hmq hoH hM hC6 hsl;generalize hb6:wq.heap.size=b6 at*;go_wp2
     go_loopw [7] (BlkRel2 w8 b6 Y) (fun i _=>Y.length-(intOf i).toNat)
     case atStart=>exact⟨0,by omega,rfl,hD6,Mod.refl _ _⟩
     case round=>
      rename World=>wv
      clear hD6;obtain⟨k,hk,rfl,hrow6,hM⟩:=hrel
      by_cases hz:((64*k:Nat):Int)<(Y.length:Int)
      ·have hlt:64*k+64<=Y.length:=by omega
       have hslv:=HSL.out.keepB hM (fun k hk=>by have hk':k<b6:=hk;omega);go_upto_region 13 with(fail);have hS:Mod NoB wv wv.drew:=(Mod.refl _ _).drew
       refine wpRZ [0,3,3,3,3,3,1,2] [7] (fun w'=>Mod NoB wv w') hS ?_;simp only[stz]
       refine wpLA 302 b6 0 (qI (xD k shaBegin Y).list) (fun w' hS=>CellsAt.whole (hS.obj id hrow6)) underlying302 8 (by rw[qE];rfl) ?_
       simp only[stz];refine zF _ _ _ _ ((64*k:Nat):Int) 64 ((64*k+64:Nat):Int) rfl rfl rfl rfl (by omega) (by omega) (by omega) ?_;simp only[nmz]
       refine wpPi_sliceLH 53 5 _ _ _ _ _ _ (64*k) (64*k+64) 1 rfl rfl rfl rfl rfl underlying53 (by kernel_rfl) (by omega) (by omega) ?_;simp only[nmz]
       refine qL rfl (fun K hK=>?_)
       refine yQ (zX 210 [.tmp 46,.tmp 51] _ rfl _ func210 rfl (by kernel_rfl) [.agg (qI (xD k shaBegin Y).list),sliced ad2 (64*k) (64*k+64) cap2 1] rfl _) (refBlock_any ((hslv.keep0 hS).mid (64*k) (64*k+64) (by omega) hlt) (by rw[List.length_take,List.length_drop];omega)) (fun w9 hm9=>?_)
       have hS9:=hS.trans0 hm9;refine hK _ _ hS9 ?_;clear hK K;try simp only[nmz]
       refine zD rfl (fun K hK=>?_)
       refine qF 302 _ _ b6 0 (qI (blockL (xD k shaBegin Y) ((Y.drop (64*k)).take (64*k+64-64*k))).list) (by rfl) (by rfl) (by rfl) (zT _) 8 (by kernel_rfl) (by rw[qE];rfl) _ _ (hS9.obj id hrow6) (by rw[qE,qE];simp[W8.list]) (fun wa hBa hma=>?_)
       rw[qD (by rw[qE,qE];simp[W8.list])]at hBa;refine hK _ _ ?_;clear hK K;simp only[stz]
       have hMa:Mod (fun q=>q=b6) w8 wa:=(hM.trans hS9 (fun _ _ h=>h.elim)).trans hma (fun _ _ h=>h)
       have hblk:blockL (xD k shaBegin Y) ((Y.drop (64*k)).take (64*k+64-64*k))=xD (k+1) shaBegin Y:=by
        rw[blocksL_add,Nat.add_sub_cancel_left];rfl
       rw[hblk]at hBa;clear hma hS9 hm9 hM hS hrow6 hblk hslv;go_wp2
       go_roundw
       case rel=>exact⟨k+1,by omega,by congr 1<;>omega,hBa,hMa⟩
       case measure=>simp[intOf];omega
      ·have hkk:Y.length/64=k:=by omega
       obtain⟨c,hc⟩:∃c,xD k shaBegin Y=c:=⟨_,rfl⟩;rw[hc]at hrow6
       have HSH:Hid (shaL m=outL c):=by
        show shaL m=outL c
        unfold shaL;rw[HYX.out,hkk,hc]
       have hMv:Mod NoB w1 wv:=hM8.transB hM (by omega);replace hB1:=hMv.obj id hB1;have hMw:Mod NoB w wv:=hm1.trans0 hMv;have hv:=hMv.size
       have hb6v:b6<wv.heap.size:=by
        rcases Nat.lt_or_ge b6 wv.heap.size with h|h
        ·exact h
        ·rw[Array.getElem?_eq_none h]at hrow6;cases hrow6
       clear hc hkk hk hY64 hM;go_upto_region 14 with(fail);refine wpR [1] ?_;simp only[stz];refine wpD (qN 24 _ (by rfl) idZ (fun w9 hB8 hm9 hs9=>?_))
       replace hB8:w9.heap[wv.heap.size]?=some (.cells (qA (List.replicate 32 0)) 24 (0,0)):=hB8;simp only[stz];replace hB1:=hm9.obj id hB1
       replace hrow6:=hm9.obj id hrow6;replace hMw:=hMw.trans0 hm9
       have hr8:w9.heap[wv.heap.size]?=some (.cells (outRow c 0) 24 (0,0)):=by
        have e:outRow c 0=qA (List.replicate 32 0):=by simp[outRow]
        rw[e];exact hB8
       clear hB8 hm9;generalize hb8:wv.heap.size=b8 at*;go_wp2
       go_loopw [9] (OutRel2 w9 b8 b6 c) (fun i _=>32-(intOf i).toNat)
       case atStart=>exact⟨0,by omega,rfl,hr8,hrow6,Mod.refl _ _⟩
       case round=>
        rename World=>wu
        clear hr8 hrow6;obtain⟨i,hi,rfl,hr8,hrow6,hMu⟩:=hrel;have hosz:=outRow_size c i hi
        by_cases hlt:i<32
        ·have hzi:(i:Int)<32:=by omega
         have HST:=hid (outRow_step c i hlt);have hq4:i/4<8:=by omega
         have hw4:=word8 hrow6 (i/4) hq4;obtain⟨x,hx⟩:∃x,c.list.getD (i/4) 0=x:=⟨_,rfl⟩;rw[hx]at hw4
         have hy:UInt8.ofNat (shrU x (24-8*(i%4))).toNat=outByte c i:=by unfold outByte;rw[hx]
         have HY:=hid hy;clear hy hx;generalize outByte c i=y at*;go_upto_region 18 with(fail);refine wpR [3,3,3,3,1,3,3,3,3,3,3,3,1] ?_;simp only[stz]
         refine wpPi_quoR _ _ _ _ (i:Int) 4 ((i/4:Nat):Int) rfl rfl rfl rfl (by rw[Int.tdiv_eq_ediv_of_nonneg (by omega)];omega) (by omega) (by omega) (by omega) ?_
         simp only[nmz];refine qH _ _ _ _ _ _ _ _ rfl rfl rfl rfl underlying302 (n:=1) (by kernel_rfl) hq4 ?_;simp only[nmz]
         refine wpXd (v:=(wordV x)) 301 b6 (i/4*1) (by rw[Nat.mul_one];exact hw4) underlying301 trivial ?_;simp only[stz]
         refine wpPi_remR _ _ _ _ (i:Int) 4 ((i%4:Nat):Int) rfl rfl rfl rfl (by omega) (by omega) (by omega) ?_;simp only[nmz]
         refine xZ _ _ _ _ 8 ((i%4:Nat):Int) ((8*(i%4):Nat):Int) rfl rfl rfl rfl (by omega) (by omega) (by omega) ?_;simp only[nmz]
         refine zJ _ _ _ _ 24 ((8*(i%4):Nat):Int) ((24-8*(i%4):Nat):Int) rfl rfl rfl rfl (by omega) (by omega) (by omega) ?_;simp only[nmz]
         refine jU _ _ _ _ _ .i64 (24-8*(i%4)) rfl rfl rfl rfl (by omega) ?_;simp only[nmz]
         refine qC (v:=byteV y) rfl (fun w'=>by rw[<-HY.out];exact exec_byte_of_word _ _ _ _ rfl rfl (by kernel_rfl) underlying5) ?_;simp only[nmz]
         refine qH _ _ _ _ _ _ _ _ rfl rfl rfl rfl underlying24 (n:=1) (by kernel_rfl) hlt ?_;simp only[nmz]
         refine wpD (qR 5 _ _ b8 (i*1) (byteV y) (by rfl) (by rfl) (by rfl) rfl (by kernel_rfl) _ _ hr8 (by rw[hosz];omega) (fun wb hBb hmb=>?_))
         rw[Nat.mul_one,HST.out]at hBb;have hrowb:=hmb.objB (by omega) hrow6;have hMb:Mod (fun q=>q=b8) w9 wb:=hMu.trans hmb (fun _ _ h=>h);simp only[stz]
         clear hmb hr8 hrow6 hw4;go_wp2
         go_roundw
         case rel=>exact⟨i+1,by omega,by go_num,hBb,hrowb,hMb⟩
         case measure=>simp[intOf];omega
        ·have hzi:¬(i:Int)<32:=by omega
         obtain rfl:i=32:=by omega
         have hout:outRow c 32=qA (outL c):=by simp[outRow,List.take_of_length_le (Nat.le_of_eq (outL_len c))]
         rw[hout]at hr8 hosz;have hB1u:=hMu.objB (by omega) hB1;go_upto_region 19 with(fail);refine wpR [1,1] ?_;simp only[stz]
         refine wpXA 24 b8 0 (qA (outL c)) (CellsAt.whole hr8) underlying24 32 hosz trivial ?_;try simp only[nmz]
         refine wpD (qF 24 _ _ w.heap.size 0 (qA (outL c)) (by rfl) (by rfl) (by rfl) (qP _) 32 (by kernel_rfl) hosz _ _ hB1u (by rw[hosz,qB];simp) (fun wb hBb hmb=>?_))
         rw[qD (by rw[hosz,qB];rfl)]at hBb;simp only[stz];have hMb:Mod NoB w wb:=(hMw.transB hMu (by omega)).transB hmb (Nat.le_refl _)
         clear hmb hr8 hrow6 hMu;go_wp2;refine bodyPost_ret (results_cell_row rfl _ _ w.heap.size _ _ _ _ (by rfl) hBb underlying24 rfl (by rw[hosz];kernel_rfl)) rfl ?_
         exact⟨by rw[HSH.out],hMb⟩
  ·obtain⟨q,hq⟩:∃q:Nat,((padJ m j).length+8)%64=q:=⟨_,rfl⟩
   have hq56:q≠0:=by rw[<-hq,hjl];exact h56
   refine wpR [3,3,3,3,3] ?_;simp only[stz];refine wpPL ?_;simp only[nmz]
   refine zF _ _ _ _ ((padJ m j).length:Int) 8 (((padJ m j).length+8:Nat):Int) rfl rfl rfl rfl (by omega) (by omega) (by omega) ?_;simp only[nmz]
   refine wpPi_remR _ _ _ _ (((padJ m j).length+8:Nat):Int) 64 (q:Int) rfl rfl rfl rfl (by omega) (by omega) (by omega) ?_;simp only[nmz]
   refine qK _ _ _ _ _ _ _ _ rfl rfl rfl rfl rfl true (by simp[cmpB];omega) ?_;simp only[stz]
   have hjlt:j<padN m.length:=by
    rcases Nat.lt_or_ge j (padN m.length)with h|h
    ·exact h
    ·exfalso;unfold padN at hj h hpad;omega
   go_upto_region 3 with(fail);refine wpR [3,1,1,3] ?_;simp only[stz]
   refine wpD (qQ 53 5 _ (byteV 0) (.int .u8 0) 1 (by rfl) (by rfl) underlying53 (by kernel_rfl) (by omega) (by omega) (by rfl) (fun w7 hB7 hm7 hs7=>?_))
   replace hB7:w7.heap[wr.heap.size]?=some (.cells #[byteV 0] 5 (0,0)):=hB7;try simp only[nmz]
   refine wpD (jH _ _ (by rfl) w1.heap.size _ (padJ m j) (by rfl) (hoH.out.keep hm7 (fun _ _=>id)) (.slice (some ⟨wr.heap.size,0,none⟩) 1 1) [0] (by rfl) (owns_src (owns_lit hB7)) (by simp;omega) (by omega) (fun v8 w8 ho8 hm8=>?_))
   rw[hPS.out]at ho8;have hM8:Mod NoB w1 w8:=(hM.trans0 hm7).trans hm8 (fun k hk e=>by have:=(hoH.out.lt e).1;omega);simp only[stz]
   have hME:Hid (padM (lenV v8)<padM (padJ m j).length):=by
    show _<_
    rw[ho8.len,padJ_len,padJ_len];unfold padM;omega
   have HR:Hid (PadRel w1 m v8 w8):=⟨j+1,hjlt,ho8,hM8⟩;clear ho8 hM8 hm8 hm7 hB7;go_wp2
   go_roundw
   case rel=>exact HR.out
   case measure=>exact hME.out
section
variable{P:Program}{w:World}{o:Oper}{a:Act}
theorem exec_shl64(t:TypeId)(x y:Operand)(yt:TypeId)(m:Nat)(k:IntKind)(n d:Nat)(ho:o.op=.binOp .shl t x y yt)(hx:a.eval x=.int .u64 (m:Int))(hy:a.eval y=.int k (n:Int))(hn:n<=63)(hd:m*2^n=d)(hv:d<18446744073709551616):(execOp a.eval o).run P w=.ok (.value (.int .u64 (d:Int))) w:=by
 subst hd
 have h1:IntKind.u64.wrap ((m:Int)*2^n)=((m*2^n:Nat):Int):=by
  have h2:((m:Int)*2^n)=((m*2^n:Nat):Int):=by simp
  rw[h2];generalize m*2^n=q at hv
  simp[IntKind.wrap,IntKind.bits,IntKind.signed];omega
 unfold execOp;simp only[ho,hx,hy]
 go_simp
 try exact h1
theorem exec_or64(t:TypeId)(x y:Operand)(yt:TypeId)(m n d:Nat)(ho:o.op=.binOp .or t x y yt)(hx:a.eval x=.int .u64 (m:Int))(hy:a.eval y=.int .u64 (n:Int))(hm:m<18446744073709551616)(hn:n<18446744073709551616)(hd:m ||| n=d):(execOp a.eval o).run P w=.ok (.value (.int .u64 (d:Int))) w:=by
 subst hd;have hb:=u64_or_nat m n hm hn;unfold execOp;simp only[ho,hx,hy]
 go_simp
theorem exec_u64_of_byte(t u:TypeId)(x:Operand)(m:UInt8)(ho:o.op=.convert t u x)(hx:a.eval x=byteV m)(ht:(P.underlying t).isSome=true)(hu:P.underlying u=some (.int .u64)):
 (execOp a.eval o).run P w=.ok (.value (.int .u64 ((m.toNat:Nat):Int))) w:=by
 unfold execOp;unfold byteV at hx;simp only[ho,hx];have hk:P.intKind u=.u64:=by simp[Program.intKind,hu]
 have h1:=run_convert_int (P:=P) w t u .u8 (m.toNat:Int) ht (by rw[hk];exact hu);rw[hk]at h1
 have h2:IntKind.u64.wrap (m.toNat:Int)=(m.toNat:Int):=by
  have h9:=m.toNat_lt
  simp[IntKind.wrap,IntKind.bits,IntKind.signed]
  omega
 rw[h2]at h1;rw[Sem.run_bind,h1]
 rfl
theorem exec_int_of_byte(t u:TypeId)(x:Operand)(m:UInt8)(ho:o.op=.convert t u x)(hx:a.eval x=byteV m)(ht:(P.underlying t).isSome=true)(hu:P.underlying u=some (.int .i64)):
 (execOp a.eval o).run P w=.ok (.value (.int .i64 ((m.toNat:Nat):Int))) w:=by
 unfold execOp;unfold byteV at hx;simp only[ho,hx];have hk:P.intKind u=.i64:=by simp[Program.intKind,hu]
 have h1:=run_convert_int (P:=P) w t u .u8 (m.toNat:Int) ht (by rw[hk];exact hu);rw[hk]at h1;have h9:=m.toNat_lt;rw[wrap_in (by omega) (by omega)]at h1
 rw[Sem.run_bind,h1]
 rfl
theorem exec_int_of_u64(t u:TypeId)(x:Operand)(m:Nat)(ho:o.op=.convert t u x)(hx:a.eval x=.int .u64 (m:Int))(ht:(P.underlying t).isSome=true)(hu:P.underlying u=some (.int .i64))(hm:m<9223372036854775808):
 (execOp a.eval o).run P w=.ok (.value (.int .i64 (m:Int))) w:=by
 unfold execOp;simp only[ho,hx];have hk:P.intKind u=.i64:=by simp[Program.intKind,hu]
 have h1:=run_convert_int (P:=P) w t u .u64 (m:Int) ht (by rw[hk];exact hu);rw[hk,wrap_in (by omega) (by omega)]at h1;rw[Sem.run_bind,h1]
 rfl
theorem exec_shrI(t:TypeId)(x y:Operand)(yt:TypeId)(m n:Nat)(ho:o.op=.binOp .shr t x y yt)(hx:a.eval x=.int .i64 (m:Int))(hy:a.eval y=.int .i64 (n:Int))(hn:n<=63)(hm:m<9223372036854775808):(execOp a.eval o).run P w=.ok (.value (.int .i64 ((m/2^n:Nat):Int))) w:=by
 have h0:m/2^n<=m:=Nat.div_le_self _ _;have h1:((m/2^n:Nat):Int)=(m:Int)/2^n:=by simp
 have h3:0<=((m/2^n:Nat):Int)/\((m/2^n:Nat):Int)<=9223372036854775807:=by
  generalize m/2^n=q at h0;omega
 have h2:=wrap_in (m:=((m/2^n:Nat):Int)) (by omega) (by omega);rw[h1]at h2;rw[h1];unfold execOp;simp only[ho,hx,hy]
 go_simp
 all_goals (try exact h2)
theorem exec_max(t:TypeId)(x y:Operand)(m n d:Int)(ho:o.op=.call { callee:=.builtin .max,args:=#[x,y],argTypes:=#[t,t] })(hx:a.eval x=.int .i64 m)(hy:a.eval y=.int .i64 n)(hd:max m n=d):(execOp a.eval o).run P w=.ok (.value (.int .i64 d)) w:=by
 subst hd;have h:(if n>m then n else m)=max m n:=by omega
 unfold execOp
 simp[ho,hx,hy,resolve,invoke,builtin,run_max_int2,h]
end
theorem pow8(k:Nat):2^(8*k)=256^k:=by rw[Nat.pow_mul]
theorem be_or(n:Nat)(x:UInt8):n*2^8 ||| x.toNat=n*256+x.toNat:=by
 have h:=Nat.shiftLeft_add_eq_or_of_lt (b:=x.toNat) (i:=8) x.toNat_lt n;rw[Nat.shiftLeft_eq]at h;exact h.symm
def NSizeR(n:Nat)(i:Value)(w0 w:World):Prop:=∃k:Nat,1<=k/\k<=8/\i=.int .i64 k/\szK n 1=szK n k/\w=w0
theorem wSize_any(n:Nat)(hn:n<9223372036854775808)(w:World):Calls prog 282 #[.int .i64 n] w (RetE (.int .i64 (sizeN n:Nat)) w):=by
 have hsz:=fun(w:World)(o:Oper)(a:Act)=> @exec_shrI prog w o a
 by_cases h:n<192
 ·have hs:sizeN n=0:=if_pos h
  have hz:(n:Int)<192:=by omega
  rw[hs];go_enter func282,ntmps282;go_wp2;go_ret;exact⟨rfl,rfl⟩
 ·have hs:sizeN n=szK n 1:=if_neg h
  have hz:¬(n:Int)<192:=by omega
  rw[hs];obtain⟨r,hr⟩:∃r,szK n 1=r:=⟨_,rfl⟩;have HR:=hid hr;rw[hr];clear hr hs h;go_enter func282,ntmps282;go_upto_region 3 with(fail);go_wp2
  go_loopw [3] (fun i wr=>NSizeR n i w wr) (fun i _=>8-(intOf i).toNat)
  case atStart=>exact⟨1,by omega,by omega,rfl,rfl,rfl⟩
  case round=>
   rename World=>wr
   obtain⟨k,hk1,hk8,rfl,hsk,rfl⟩:=hrel;rw[HR.out]at hsk;have HSK:=hid hsk;clear hsk
   by_cases hlt:k<8
   ·have hp:2^(8*k)=256^k:=pow8 k
    have hm8:(8:Int)*(k:Int)=((8*k:Nat):Int):=by omega
    by_cases hg:0<n/256^k
    ·go_upto_region 4 with(fail)
     refine wpR [3,3,3,3,3,3,3,3,3] ?_;simp only[stz];refine qK _ _ _ _ _ _ _ _ rfl rfl rfl rfl rfl true (by simp[cmpB];omega) ?_;simp only[stz]
     refine xZ _ _ _ _ 8 (k:Int) ((8*k:Nat):Int) rfl rfl rfl rfl hm8 (by omega) (by omega) ?_;simp only[nmz]
     refine qC rfl (fun w'=>hsz w' _ _ _ _ _ _ n (8*k) rfl rfl rfl (by omega) hn) ?_;simp only[nmz]
     refine qK _ _ _ _ _ _ _ _ rfl rfl rfl rfl rfl true (by simp only[cmpB,decide_eq_true_eq];rw[hp];exact Int.natCast_pos.2 hg) ?_;simp only[stz];go_wp2
     go_roundw
     case rel=>exact⟨k+1,by omega,by omega,by go_num,by rw[HR.out,<-szK_step ⟨hlt,hg⟩];exact HSK.out,rfl⟩
     case measure=>simp[intOf];omega
    ·have hz0:n/256^k=0:=Nat.eq_zero_of_not_pos hg
     go_upto_region 4 with(fail);refine wpR [3,3,3,3,3,3,3,3,3] ?_;simp only[stz];refine qK _ _ _ _ _ _ _ _ rfl rfl rfl rfl rfl true (by simp[cmpB];omega) ?_
     simp only[stz];refine xZ _ _ _ _ 8 (k:Int) ((8*k:Nat):Int) rfl rfl rfl rfl hm8 (by omega) (by omega) ?_;simp only[nmz]
     refine qC rfl (fun w'=>hsz w' _ _ _ _ _ _ n (8*k) rfl rfl rfl (by omega) hn) ?_;simp only[nmz]
     refine qK _ _ _ _ _ _ _ _ rfl rfl rfl rfl rfl false (by simp only[cmpB,decide_eq_false_iff_not];rw[hp,hz0];simp) ?_;simp only[stz];go_wp2;go_ret
     have e:r=k:=HSK.out.trans (szK_stop (by omega));exact⟨by rw[e];rfl,rfl⟩
   ·go_upto_region 4 with(fail)
    refine wpR [3,3,3,3,3,3,3,3,3] ?_;simp only[stz];refine qK _ _ _ _ _ _ _ _ rfl rfl rfl rfl rfl false (by simp[cmpB];omega) ?_;simp only[stz];go_wp2;go_ret
    have e:r=k:=HSK.out.trans (szK_stop (by omega));exact⟨by rw[e];rfl,rfl⟩
theorem Sl.midLe{α:Type}{own:Bool}{w:World}{G:Nat->Prop}{sz cap:Nat}{R:Array Value->α->Prop}{ad:Option Addr}{l:List α}(h:Sl own w G sz R (.slice ad l.length cap) l)(i j:Nat)(hij:i<=j)(hj:j<=l.length):Sl own w G sz R (sliced ad i j cap sz) ((l.drop i).take (j-i)):=by
 obtain⟨a,c,e,h1,h2,h3⟩:=h
 cases e
 refine⟨_,_,by rw[List.length_take,List.length_drop,Nat.min_eq_left (by omega)];rfl,by rw[List.length_take,List.length_drop];omega,by omega,fun hne=>?_⟩
 have hlt:i<j:=by
  rcases Nat.lt_or_ge i j with h|h
  ·exact h
  ·rw[show j-i=0 by omega]at hne;simp at hne
 obtain⟨b,off,rfl,hG,ho,hc⟩:=h3 (by rintro rfl;simp at hj;omega);refine⟨b,off+i*sz,by rw[if_neg (by omega)];simp[jS],hG,ho,fun k hk=>?_⟩
 rw[List.length_take,List.length_drop]at hk;obtain⟨cs,hs,hR,hcs⟩:=hc (i+k) (by omega);refine⟨cs,hs,by rw[List.getElem_take,List.getElem_drop];exact hR,?_⟩
 rw[show off+i*sz+k*sz=off+(i+k)*sz by rw[Nat.add_mul];omega];exact hcs
theorem take_succ_be{l:List UInt8}{i:Nat}(h:i<l.length):be (l.take (i+1))=be (l.take i)*256+l[i].toNat:=by
 rw[List.take_succ_eq_append_getElem h,be_snoc]
theorem be_take_lt(l:List UInt8)(i:Nat)(hi:i<=7):be (l.take i)<72057594037927936:=by
 have h:=be_lt (l.take i);have h2:(l.take i).length<=7:=by rw[List.length_take];omega
 have h3:256^(l.take i).length<=256^7:=Nat.pow_le_pow_right (by omega) h2;omega
def NumRel(w0:World)(l:List UInt8)(s i:Value)(w:World):Prop:=∃k:Nat,k<=l.length/\i=.int .i64 k/\s=.int .u64 (be (l.take k):Nat)/\Mod NoB w0 w
section
variable{w:World}{rb wb:Nat}{bv:Value}{b:List UInt8}{a:Nat}{e p:Int}
def NumR(w:World)(rb wb:Nat)(bv:Value)(b:List UInt8)(n:Nat)(s:RS):Ending->World->Prop:=fun x w'=>x=.returned (.int .i64 n)/\RdS w w' rb wb bv b s
theorem RdI.of_drew{w1 w2:World}(h:RdI w1 rb wb bv b a 0 p)(h1:Mod NoB w w1)(hm:Mod (fun k=>k=wb) w1 w2){er at_:Int}(he:er≠0)(hw:w2.heap[wb]?=some (.cells #[.int .i64 er,.int .i64 at_] 320 (0,0))):RdS w w2 rb wb bv b none:=RdS.pre h1 (h.fail hm he hw)
theorem rNum_any(h:RdI w rb wb bv b a e p):Calls prog 240 #[.pointer (some ⟨rb,0,none⟩)] w (NumR w rb wb bv b (rNumL b (stOf a e)).1 (rNumL b (stOf a e)).2):=by
 have hn:=rNone_any h;have H:=hid h
 by_cases he:e=0
 ·subst he
  have hal:=h.al;have hln:=h.len;obtain⟨ad,cap,rfl,hcap,hat⟩:=Sl.at h.sl;obtain⟨n,s,hns⟩:∃n s,rNumL b (some a)=(n,s):=⟨_,_,rfl⟩
  have HE:Hid ((rNumL b (some a)).1=n):=hid (by rw[hns]);have HE2:Hid ((rNumL b (some a)).2=s):=hid (by rw[hns]);rw[stOf_zero,HE.out,HE2.out];have HNS:=hid hns
  clear hns h;have HM:Hid (Mod NoB w w):=hid (Mod.refl _ _);go_enter func240,ntmps240
  go_upto_region 3 with(go_at_call 281;refine hn.mono ?_;rintro _ w1 ⟨rfl,hw⟩;obtain rfl:=hw.symm);have hS:Mod NoB w w.drew:=(Mod.refl _ _).drew
  rcases Nat.lt_or_ge a b.length with hlt|hge
  rotate_left
  · -- nothing is left
    have hz:(a:Int)>=(b.length:Nat):=by omega
    have hbn:b[a]?=none:=List.getElem?_eq_none hge;have hr0:rNumL b (some a)=(0,none):=by simp[rNumL,rdNum,hbn]
    replace HE:Hid (n=0):=hid (by rw[<-HE.out,hr0]);replace HE2:Hid (s=none):=hid (by rw[<-HE2.out,hr0]);clear hbn hr0
    refine wpRZ [3,3,3,0,3,3,3,0,3,3] [] (fun w'=>Mod NoB w w') hS ?_;simp only[stz];refine wpLd 3 rb 2 (fun w' hS=>hS.cell id H.out.cell.2.2.1) underlying3 ?_
    simp only[stz];refine wpLd 53 rb 1 (fun w' hS=>hS.cell id H.out.cell.2.1) underlying53 ?_;simp only[nmz];refine wpPL ?_;simp only[nmz]
    refine qK _ _ _ _ _ _ _ _ rfl rfl rfl rfl rfl true (decide_eq_true (by omega)) ?_;simp only[stz];have H1:=hid (H.out.keep0 hS)
    replace HM:Hid (Mod NoB w w.drew):=hid hS;clear hS;generalize w.drew=w0 at*;go_upto_region 4 with(fail);have hS:Mod NoB w0 w0.drew:=(Mod.refl _ _).drew
    refine wpRZ [3,3,3,0,3,3,3,0,2] [8] (fun w'=>Mod NoB w0 w') hS ?_;simp only[stz];refine wpLd 318 rb 0 (fun w' hS=>hS.cell id (H1.out.cell.1)) underlying318 ?_
    simp only[stz];refine wpLd 3 rb 2 (fun w' hS=>hS.cell id (H1.out.cell.2.2.1)) underlying3 ?_;simp only[nmz];refine zD rfl (fun K hK=>?_)
    refine wpC func254 (wFails_any p 6 a (hS.obj id H1.out.wr)) ?_;rintro e w2 ⟨rfl,hm2,hB2⟩;refine⟨_,rfl,hK _ _ ?_⟩;clear hK K;simp only[stz]
    have HF:Hid (RdS w0 w2 rb wb _ b none):=hid (RdI.of_drew (H1.out.keep0 hS) hS hm2 (by decide) hB2);clear hS hm2 hB2;go_wp2;go_ret
    exact⟨by rw[HE.out];rfl,by rw[HE2.out];exact RdS.pre HM.out HF.out⟩
  ·obtain⟨c,hc⟩:∃c,b[a]=c:=⟨_,rfl⟩
   have hbs:b[a]?=some c:=by rw[List.getElem?_eq_getElem hlt,hc]
   have hz:¬(a:Int)>=(b.length:Nat):=by omega
   obtain⟨k,hk⟩:∃k,c.toNat-191=k:=⟨_,rfl⟩;have hct:=c.toNat_lt
   have hrd:rNumL b (some a)=(match(if 199<c.toNat then none else if b.length-a-1<k then none else if k=0 then some (c.toNat,a+1)else if be ((b.drop (a+1)).take k)>=9223372036854775808\/sizeN (be ((b.drop (a+1)).take k))≠k then none else some (be ((b.drop (a+1)).take k),a+1+k):Option (Nat×Nat))with|none=>(0,none)|some q=>(q.1,some q.2)):=by
    simp only[rNumL,rdNum,hbs,hk]
    generalize (if 199<c.toNat then none else if b.length-a-1<k then none else if k=0 then some (c.toNat,a+1)else if be ((b.drop (a+1)).take k)>=9223372036854775808\/sizeN (be ((b.drop (a+1)).take k))≠k then none else some (be ((b.drop (a+1)).take k),a+1+k):Option (Nat×Nat))=q
    cases q<;>rfl
   obtain⟨bk,off,rfl,-,-,hcells⟩:=hat a hlt;obtain⟨cs,hcs,hcR,hcA⟩:=hcells a hlt;rw[hc]at hcR;obtain rfl:cs=#[byteV c]:=hcR;have hcell:=CellsAt.one.1 hcA
   rw[Nat.mul_one]at hcell;have HRD:=hid hrd;clear hrd hcells hat hcA hcs hbs;refine wpRZ [3,3,3,0,3,3,3,0,3,3] [] (fun w'=>Mod NoB w w') hS ?_;simp only[stz]
   refine wpLd 3 rb 2 (fun w' hS=>hS.cell id H.out.cell.2.2.1) underlying3 ?_;simp only[stz];refine wpLd 53 rb 1 (fun w' hS=>hS.cell id H.out.cell.2.1) underlying53 ?_
   simp only[nmz];refine wpPL ?_;simp only[nmz];refine qK _ _ _ _ _ _ _ _ rfl rfl rfl rfl rfl false (decide_eq_false (by omega)) ?_;simp only[stz]
   have hcell0:=hS.cell id hcell;have H0:=hid (H.out.keep0 hS);have HM0:Hid (Mod NoB w w.drew):=hid hS;clear hS hcell HM H;generalize w.drew=w0 at*
   go_upto_region 6 with(fail);have hS:Mod NoB w0 w0.drew:=(Mod.refl _ _).drew;refine wpRZ [3,3,3,0,3,3,3,0,3,0,3,3] [] (fun w'=>Mod NoB w0 w') hS ?_
   simp only[stz];refine wpLd 53 rb 1 (fun w' hS=>hS.cell id H0.out.cell.2.1) underlying53 ?_;simp only[stz]
   refine wpLd 3 rb 2 (fun w' hS=>hS.cell id H0.out.cell.2.2.1) underlying3 ?_;simp only[nmz];refine wpPI underlying53 1 hlt ?_;simp only[nmz]
   refine wpLd (v:=(byteV c)) 5 bk (off+a*1) (fun w' hS=>by rw[Nat.mul_one];exact hS.cell id hcell0) underlying5 ?_;simp only[nmz]
   refine qC rfl (fun w'=>exec_int_of_byte _ _ _ c rfl rfl (by kernel_rfl) underlying3) ?_;simp only[stz];have H1:=hid (H0.out.keep0 hS)
   have HM1:Hid (Mod NoB w w0.drew):=hid (HM0.out.trans0 hS);clear hS hcell0 H0 HM0;generalize w0.drew=w1 at*;go_upto_region 7 with(fail)
   have hkk:max ((c.toNat:Int)-191) 0=(k:Int):=by omega
   refine wpR [3,3,1,3] ?_;simp only[stz];refine yK _ _ _ _ ((c.toNat:Nat):Int) 191 rfl rfl rfl rfl (by omega) (by omega) ?_;simp only[nmz]
   refine wpX rfl (exec_max _ _ _ ((c.toNat:Int)-191) 0 (k:Int) (by rfl) (by rfl) (by rfl) hkk) trivial ?_;simp only[stz];have HMM:=HM1
   by_cases h199:199<c.toNat
   · -- no number begins so
     have h199z:((c.toNat:Nat):Int)>199:=by omega
     have hr0:rNumL b (some a)=(0,none):=by rw[HRD.out,if_pos h199]
     replace HE:Hid (n=0):=hid (by rw[<-HE.out,hr0]);replace HE2:Hid (s=none):=hid (by rw[<-HE2.out,hr0]);replace HM:Hid (Mod NoB w w1):=HM1;clear hr0
     go_upto_region 9 with(fail);have hS:Mod NoB w1 w1.drew:=(Mod.refl _ _).drew;refine wpRZ [3,3,3,0,3,3,3,0,2] [8] (fun w'=>Mod NoB w1 w') hS ?_;simp only[stz]
     refine wpLd 318 rb 0 (fun w' hS=>hS.cell id (H1.out.cell.1)) underlying318 ?_;simp only[stz]
     refine wpLd 3 rb 2 (fun w' hS=>hS.cell id (H1.out.cell.2.2.1)) underlying3 ?_;simp only[nmz];refine zD rfl (fun K hK=>?_)
     refine wpC func254 (wFails_any p 5 a (hS.obj id H1.out.wr)) ?_;rintro e w2 ⟨rfl,hm2,hB2⟩;refine⟨_,rfl,hK _ _ ?_⟩;clear hK K;simp only[stz]
     have HF:Hid (RdS w1 w2 rb wb _ b none):=hid (RdI.of_drew (H1.out.keep0 hS) hS hm2 (by decide) hB2);clear hS hm2 hB2;go_wp2;go_ret
     exact⟨by rw[HE.out];rfl,by rw[HE2.out];exact RdS.pre HM.out HF.out⟩
   ·have h199z:¬((c.toNat:Nat):Int)>199:=by omega
    have hr1:=HRD.out;rw[if_neg h199]at hr1;replace HRD:=hid hr1;clear hr1;go_upto_region 11 with(fail);have hS:Mod NoB w1 w1.drew:=(Mod.refl _ _).drew
    by_cases hsh:b.length-a-1<k
    ·have hr0:rNumL b (some a)=(0,none):=by rw[HRD.out,if_pos hsh]
     replace HE:Hid (n=0):=hid (by rw[<-HE.out,hr0]);replace HE2:Hid (s=none):=hid (by rw[<-HE2.out,hr0]);clear hr0
     refine wpRZ [3,3,3,0,3,3,3,3,0,3,3,3,3,3] [] (fun w'=>Mod NoB w1 w') hS ?_;simp only[stz]
     refine wpLd 53 rb 1 (fun w' hS=>hS.cell id H1.out.cell.2.1) underlying53 ?_;simp only[nmz];refine wpPL ?_;simp only[stz]
     refine wpLd 3 rb 2 (fun w' hS=>hS.cell id H1.out.cell.2.2.1) underlying3 ?_;simp only[nmz]
     refine yK _ _ _ _ ((b.length:Nat):Int) (a:Int) rfl rfl rfl rfl (by omega) (by omega) ?_;simp only[nmz]
     refine yK _ _ _ _ ((b.length:Int)-(a:Int)) 1 rfl rfl rfl rfl (by omega) (by omega) ?_;simp only[stz]
     refine qK _ _ _ _ _ _ _ _ rfl rfl rfl rfl rfl true (decide_eq_true (by omega)) ?_;simp only[stz];have H2:=hid (H1.out.keep0 hS)
     replace HM:Hid (Mod NoB w w1.drew):=hid (HM1.out.trans0 hS);clear hS;generalize w1.drew=w2 at*;go_upto_region 12 with(fail)
     have hS:Mod NoB w2 w2.drew:=(Mod.refl _ _).drew;refine wpRZ [3,3,3,0,3,3,3,0,2] [8] (fun w'=>Mod NoB w2 w') hS ?_;simp only[stz]
     refine wpLd 318 rb 0 (fun w' hS=>hS.cell id (H2.out.cell.1)) underlying318 ?_;simp only[stz]
     refine wpLd 3 rb 2 (fun w' hS=>hS.cell id (H2.out.cell.2.2.1)) underlying3 ?_;simp only[nmz];refine zD rfl (fun K hK=>?_)
     refine wpC func254 (wFails_any p 6 a (hS.obj id H2.out.wr)) ?_;rintro e w3 ⟨rfl,hm2,hB2⟩;refine⟨_,rfl,hK _ _ ?_⟩;clear hK K;simp only[stz]
     have HF:Hid (RdS w2 w3 rb wb _ b none):=hid (RdI.of_drew (H2.out.keep0 hS) hS hm2 (by decide) hB2);clear hS hm2 hB2;go_wp2;go_ret
     exact⟨by rw[HE.out];rfl,by rw[HE2.out];exact RdS.pre HM.out HF.out⟩
    ·have hr1:=HRD.out
     rw[if_neg hsh]at hr1;replace HRD:=hid hr1;clear hr1;refine wpRZ [3,3,3,0,3,3,3,3,0,3,3,3,3,3] [] (fun w'=>Mod NoB w1 w') hS ?_;simp only[stz]
     refine wpLd 53 rb 1 (fun w' hS=>hS.cell id H1.out.cell.2.1) underlying53 ?_;simp only[nmz];refine wpPL ?_;simp only[stz]
     refine wpLd 3 rb 2 (fun w' hS=>hS.cell id H1.out.cell.2.2.1) underlying3 ?_;simp only[nmz]
     refine yK _ _ _ _ ((b.length:Nat):Int) (a:Int) rfl rfl rfl rfl (by omega) (by omega) ?_;simp only[nmz]
     refine yK _ _ _ _ ((b.length:Int)-(a:Int)) 1 rfl rfl rfl rfl (by omega) (by omega) ?_;simp only[stz]
     refine qK _ _ _ _ _ _ _ _ rfl rfl rfl rfl rfl false (decide_eq_false (by omega)) ?_;simp only[stz];have H2:=hid (H1.out.keep0 hS)
     have HM2:Hid (Mod NoB w w1.drew):=hid (HM1.out.trans0 hS);clear hS HM1 HMM H1;generalize w1.drew=w2 at*
     by_cases hk0:k=0
     · -- a number of one byte
       have hkz:(k:Int)=0:=by omega
       have hr0:rNumL b (some a)=(c.toNat,some (a+1)):=by rw[HRD.out,if_pos hk0]
       replace HE:Hid (n=c.toNat):=hid (by rw[<-HE.out,hr0]);replace HE2:Hid (s=some (a+1)):=hid (by rw[<-HE2.out,hr0]);clear hr0;have hbox:=H2.out.box
       have hca:=H2.out.cell.2.2.1;go_upto_region 15 with(fail);refine wpR [3,3,3,1,3,3,3,1] ?_;simp only[stz]
       refine wpXd (v:=(.int .i64 a)) 3 rb 2 hca underlying3 trivial ?_;try simp only[nmz]
       refine zF _ _ _ _ (a:Int) 1 ((a+1:Nat):Int) rfl rfl rfl rfl (by omega) (by omega) (by omega) ?_;simp only[stz]
       refine wpD (qR 3 _ _ rb 2 (.int .i64 ((a+1:Nat):Int)) (by rfl) (by rfl) (by rfl) rfl (by kernel_rfl) _ _ hbox (by simp) (fun w3 hB3 hm3=>?_))
       have HT:Hid (RdS w2 w3 rb wb (.slice (some ⟨bk,off,none⟩) b.length cap) b (some (a+1))):=hid (H2.out.on hm3 (by omega) hB3);simp only[stz];clear hbox hca hB3 hm3
       go_wp2;go_ret;exact⟨by rw[HE.out];rfl,by rw[HE2.out];exact RdS.pre HM2.out HT.out⟩
     ·have hkz:¬(k:Int)=0:=by omega
      have hr1:=HRD.out;rw[if_neg hk0]at hr1;replace HRD:=hid hr1;clear hr1;have hk8:k<=8:=by omega
      obtain⟨l,hl⟩:∃l,(b.drop (a+1)).take k=l:=⟨_,rfl⟩;have hll:l.length=k:=by rw[<-hl,List.length_take,List.length_drop];omega
      have hsl:=(H2.out.sl).midLe (a+1) (a+1+k) (by omega) (by omega);rw[show a+1+k-(a+1)=k by omega,hl]at hsl;have HL:=hid hl;clear hl
      go_upto_region 18 with(fail);have hS:Mod NoB w2 w2.drew:=(Mod.refl _ _).drew
      have hcap1:a+1+k<=cap:=by
       obtain⟨ad',cap',hq,hle,-⟩:=H2.out.sl
       cases hq
       omega
      refine wpRZ [3,3,3,0,3,3,3,0,3,3,3,3,0,3,3,3,3,3,3] [] (fun w'=>Mod NoB w2 w') hS ?_;simp only[stz]
      refine wpLd 53 rb 1 (fun w' hS=>hS.cell id H2.out.cell.2.1) underlying53 ?_;simp only[stz]
      refine wpLd 3 rb 2 (fun w' hS=>hS.cell id H2.out.cell.2.2.1) underlying3 ?_;simp only[nmz]
      refine zF _ _ _ _ (a:Int) 1 ((a+1:Nat):Int) rfl rfl rfl rfl (by omega) (by omega) (by omega) ?_;simp only[stz]
      refine wpLd 3 rb 2 (fun w' hS=>hS.cell id H2.out.cell.2.2.1) underlying3 ?_;simp only[nmz]
      refine zF _ _ _ _ (a:Int) 1 ((a+1:Nat):Int) rfl rfl rfl rfl (by omega) (by omega) (by omega) ?_;simp only[stz]
      refine zF _ _ _ _ ((a+1:Nat):Int) (k:Int) ((a+1+k:Nat):Int) rfl rfl rfl rfl (by omega) (by omega) (by omega) ?_;simp only[nmz]
      refine wpPi_sliceLH 53 5 _ _ _ _ _ _ (a+1) (a+1+k) 1 rfl rfl rfl rfl rfl underlying53 (by kernel_rfl) (by omega) hcap1 ?_;simp only[nmz];refine wpPL ?_
      simp only[stz];have H3:=hid (H2.out.keep0 hS);have HM3:Hid (Mod NoB w w2.drew):=hid (HM2.out.trans0 hS);replace hsl:=hsl.keep0 hS;clear hS HM2 H2
      generalize w2.drew=w3 at*;obtain⟨sv,hsv⟩:∃sv,sliced (some ⟨bk,off,none⟩) (a+1) (a+1+k) cap 1=sv:=⟨_,rfl⟩;rw[hsv]at hsl |-;clear hsv
      obtain⟨ad2,cap2,rfl,hlm,hat2⟩:=Sl.at hsl;have HAT:=hid hat2;clear hsl hat2 hcap1;go_wp2
      go_loopw [5,107] (NumRel w3 l) (fun _ i _=>l.length-(intOf i).toNat)
      case atStart=>exact⟨0,Nat.zero_le _,rfl,by simp[be],Mod.refl _ _⟩
      case round=>
       rename World=>wr
       obtain⟨j,hj,rfl,rfl,hmr⟩:=hrel
       by_cases hjl:j<l.length
       ·have hjz:(j:Int)<(l.length:Nat):=by omega
        obtain⟨b2,off2,rfl,-,-,hcc⟩:=HAT.out j hjl;obtain⟨cs,-,hcR,hcA⟩:=hcc j hjl;obtain rfl:cs=#[byteV l[j]]:=hcR;have hcell:=CellsAt.one.1 hcA
        rw[Nat.mul_one]at hcell;have hcr:=hmr.cell id hcell;have hnx:=take_succ_be hjl;have hbt:=be_take_lt l j (by omega);generalize l[j]=x at*
        have hxt:=x.toNat_lt;obtain⟨q,hq⟩:∃q,be (l.take j)=q:=⟨_,rfl⟩;rw[hq]at hnx hbt |-;have hor:=be_or q x;have HNX:=hid hnx;clear hnx hq hcell hcA hcc
        go_upto_region 20 with(fail);refine wpR [3,1,3] ?_;simp only[stz]
        refine wpPi_index _ _ _ _ _ _ _ _ _ rfl rfl rfl rfl underlying53 (n:=1) (by kernel_rfl) (by omega) ?_;simp only[nmz]
        refine wpXd (v:=(byteV x)) 5 b2 (off2+j*1) (by rw[Nat.mul_one];exact hcr) underlying5 trivial ?_;simp only[stz];go_upto_region 21 with(fail)
        refine wpR [3,3,3,3,3,3] ?_;simp only[stz];refine qC rfl (fun w'=>exec_shl64 _ _ _ _ q _ 8 (q*2^8) rfl rfl rfl (by omega) rfl (by omega)) ?_
        simp only[stz];refine qC rfl (fun w'=>exec_u64_of_byte _ _ _ x rfl rfl (by kernel_rfl) underlying300) ?_;simp only[nmz]
        refine qC rfl (fun w'=>exec_or64 _ _ _ _ (q*2^8) x.toNat (q*256+x.toNat) rfl rfl rfl (by omega) (by omega) hor) ?_;simp only[stz];clear hcr hor;go_wp2
        go_roundw
        case rel=>exact⟨j+1,by omega,by go_num,by rw[HNX.out],hmr⟩
        case measure=>simp[intOf];omega
       ·obtain rfl:j=l.length:=by omega
        have hjz:¬((l.length:Nat):Int)<(l.length:Nat):=by omega
        have hfull:l.take l.length=l:=List.take_length;rw[hfull];have hbl:=be_lt l;have hb8:256^l.length<=256^8:=Nat.pow_le_pow_right (by omega) (by omega)
        have h256:(256:Nat)^8=18446744073709551616:=by decide
        have hr1:=HRD.out;rw[HL.out]at hr1;obtain⟨q,hq⟩:∃q,be l=q:=⟨_,rfl⟩;rw[hq]at hr1 hbl |-;have hqb:q<18446744073709551616:=by omega
        have HR1:=hid hr1;have H4:=hid (H3.out.keep0 hmr);have HM4:Hid (Mod NoB w wr):=hid (HM3.out.trans0 hmr);clear hr1 hbl hb8 h256 hq hfull hmr HRD HL HAT H3 HM3
        by_cases hbig:9223372036854775808<=q
        ·have hr0:rNumL b (some a)=(0,none):=by rw[HR1.out,if_pos (.inl hbig)]
         replace HE:Hid (n=0):=hid (by rw[<-HE.out,hr0]);replace HE2:Hid (s=none):=hid (by rw[<-HE2.out,hr0]);replace HM:Hid (Mod NoB w wr):=HM4;clear hr0
         go_upto_region 23 with(fail);refine wpR [3,3,3,3,3,1,3,3,3] ?_;simp only[stz]
         refine qK _ _ _ _ _ _ _ _ rfl rfl rfl rfl rfl true (decide_eq_true (by omega)) ?_;simp only[stz];refine zO rfl trivial ?_;simp only[stz]
         go_upto_region 24 with(fail);have hS:Mod NoB wr wr.drew:=(Mod.refl _ _).drew;refine wpRZ [3,3,3,0,3,3,3,0,2] [8] (fun w'=>Mod NoB wr w') hS ?_
         simp only[stz];refine wpLd 318 rb 0 (fun w' hS=>hS.cell id (H4.out.cell.1)) underlying318 ?_;simp only[stz]
         refine wpLd 3 rb 2 (fun w' hS=>hS.cell id (H4.out.cell.2.2.1)) underlying3 ?_;simp only[nmz];refine zD rfl (fun K hK=>?_)
         refine wpC func254 (wFails_any p 5 a (hS.obj id H4.out.wr)) ?_;rintro e w2 ⟨rfl,hm2,hB2⟩;refine⟨_,rfl,hK _ _ ?_⟩;clear hK K;simp only[stz]
         have HF:Hid (RdS wr w2 rb wb _ b none):=hid (RdI.of_drew (H4.out.keep0 hS) hS hm2 (by decide) hB2);clear hS hm2 hB2;go_wp2;go_ret
         exact⟨by rw[HE.out];rfl,by rw[HE2.out];exact RdS.pre HM.out HF.out⟩
        ·have hsn:=wSize_any q (by omega)
         obtain⟨sn,hsne⟩:∃sn,sizeN q=sn:=⟨_,rfl⟩;rw[hsne]at hsn;have hr1:=HR1.out;rw[hsne]at hr1
         by_cases hsk:sn=k
         ·have hskz:(sn:Int)=(k:Int):=by omega
          have hr0:rNumL b (some a)=(q,some (a+1+k)):=by rw[hr1,if_neg (by omega)]
          replace HE:Hid (n=q):=hid (by rw[<-HE.out,hr0]);replace HE2:Hid (s=some (a+1+k)):=hid (by rw[<-HE2.out,hr0]);clear hr0 hr1 HR1 hsne
          go_upto_region 23 with(fail);refine wpR [3,3,3,3,3,1,3,3,3] ?_;simp only[stz]
          refine qK _ _ _ _ _ _ _ _ rfl rfl rfl rfl rfl false (decide_eq_false (by omega)) ?_;simp only[stz]
          refine qC rfl (fun w'=>exec_int_of_u64 _ _ _ q rfl rfl (by kernel_rfl) underlying3 (by omega)) ?_;simp only[nmz];refine wpD (wpC func282 (hsn _) ?_)
          rintro e w5 ⟨rfl,hw⟩;obtain rfl:=hw.symm;refine⟨_,rfl,?_⟩;simp only[stz]
          refine qK _ _ _ _ _ _ _ _ rfl rfl rfl rfl rfl false (by simp only[cmpB,decide_eq_false_iff_not];omega) ?_;simp only[stz];have hbox:=H4.out.box
          have hca:=H4.out.cell.2.2.1;go_upto_region 26 with(fail);refine wpR [3,3,3,1,3,3,3,3,3,1] ?_;simp only[stz]
          refine wpXd (v:=(.int .i64 a)) 3 rb 2 hca underlying3 trivial ?_;simp only[stz]
          refine zF _ _ _ _ 1 (k:Int) ((1+k:Nat):Int) rfl rfl rfl rfl (by omega) (by omega) (by omega) ?_;simp only[nmz]
          refine zF _ _ _ _ (a:Int) ((1+k:Nat):Int) ((a+1+k:Nat):Int) rfl rfl rfl rfl (by omega) (by omega) (by omega) ?_;simp only[stz]
          refine wpD (qR 3 _ _ rb 2 (.int .i64 ((a+1+k:Nat):Int)) (by rfl) (by rfl) (by rfl) rfl (by kernel_rfl) _ _ hbox (by simp) (fun w6 hB6 hm6=>?_))
          have HT:Hid (RdS wr w6 rb wb (.slice (some ⟨bk,off,none⟩) b.length cap) b (some (a+1+k))):=hid (H4.out.on hm6 (by omega) hB6);simp only[stz]
          go_upto_region 27 with(fail);refine wpR [3,3,3] ?_;simp only[stz]
          refine qC rfl (fun w'=>exec_int_of_u64 _ _ _ q rfl rfl (by kernel_rfl) underlying3 (by omega)) ?_;simp only[stz];clear hbox hca hB6 hm6;go_wp2;go_ret
          exact⟨by rw[HE.out];rfl,by rw[HE2.out];exact RdS.pre HM4.out HT.out⟩
         ·have hskz:¬(sn:Int)=(k:Int):=by omega
          have hr0:rNumL b (some a)=(0,none):=by rw[hr1,if_pos (.inr hsk)]
          replace HE:Hid (n=0):=hid (by rw[<-HE.out,hr0]);replace HE2:Hid (s=none):=hid (by rw[<-HE2.out,hr0]);replace HM:Hid (Mod NoB w wr):=HM4
          clear hr0 hr1 HR1 hsne;go_upto_region 23 with(fail);refine wpR [3,3,3,3,3,1,3,3,3] ?_;simp only[stz]
          refine qK _ _ _ _ _ _ _ _ rfl rfl rfl rfl rfl false (decide_eq_false (by omega)) ?_;simp only[stz]
          refine qC rfl (fun w'=>exec_int_of_u64 _ _ _ q rfl rfl (by kernel_rfl) underlying3 (by omega)) ?_;simp only[nmz];refine wpD (wpC func282 (hsn _) ?_)
          rintro e w5 ⟨rfl,hw⟩;obtain rfl:=hw.symm;refine⟨_,rfl,?_⟩;simp only[stz]
          refine qK _ _ _ _ _ _ _ _ rfl rfl rfl rfl rfl true (by simp only[cmpB,decide_eq_true_eq];omega) ?_;simp only[stz];go_upto_region 24 with(fail)
          have hS:Mod NoB wr wr.drew:=(Mod.refl _ _).drew;refine wpRZ [3,3,3,0,3,3,3,0,2] [8] (fun w'=>Mod NoB wr w') hS ?_;simp only[stz]
          refine wpLd 318 rb 0 (fun w' hS=>hS.cell id (H4.out.cell.1)) underlying318 ?_;simp only[stz]
          refine wpLd 3 rb 2 (fun w' hS=>hS.cell id (H4.out.cell.2.2.1)) underlying3 ?_;simp only[nmz];refine zD rfl (fun K hK=>?_)
          refine wpC func254 (wFails_any p 5 a (hS.obj id H4.out.wr)) ?_;rintro e w2 ⟨rfl,hm2,hB2⟩;refine⟨_,rfl,hK _ _ ?_⟩;clear hK K;simp only[stz]
          have HF:Hid (RdS wr w2 rb wb _ b none):=hid (RdI.of_drew (H4.out.keep0 hS) hS hm2 (by decide) hB2);clear hS hm2 hB2;go_wp2;go_ret
          exact⟨by rw[HE.out];rfl,by rw[HE2.out];exact RdS.pre HM.out HF.out⟩
 ·have hd:decide (e≠0)=true:=by simpa using he
  rw[hd]at hn;rw[stOf_bad he];have HT:Hid (RdS w w rb wb bv b (stOf a e)):=hid h.stay;clear h H;go_enter func240,ntmps240
  go_wp2_with (go_at_call 281;refine hn.mono ?_;rintro _ w1 ⟨rfl,hw⟩;obtain rfl:=hw.symm);go_ret;have hT:=HT.out;rw[stOf_bad he]at hT;exact⟨rfl,hT⟩
end
theorem cloneB_any{own:Bool}{G:Nat->Prop}{v:Value}{m:List UInt8}{w:World}(hb:Sl own w G 1 ByteC v m)(hl:m.length<=140737488355328):Calls prog 239 #[v] w (CloneR w m):=by
 have hbS:=hid hb;obtain⟨ad,cap,rfl,hle,hmx,hne⟩:=hb
 cases ad with
 |none=>
  have hm:m=[]:=by
   cases m with
   |nil=>rfl
   |cons x m=>obtain⟨b,off,h,_⟩:=hne (by simp);cases h
  subst hm;clear hne;rw[List.length_nil];have heq:=fun w=>Lib.run_eql_slice_nil (P:=prog) w 53 5 none 0 cap 0 0 underlying53;go_enter func239,ntmps239;go_wp2;go_ret
  exact⟨_,rfl,⟨rfl,.inl ⟨rfl,rfl⟩⟩,Mod.refl _ _⟩
 |some q=>
  clear hne;have heq:=fun w=>Lib.run_eql_slice_nil (P:=prog) w 53 5 (some q) m.length cap 0 0 underlying53;go_enter func239,ntmps239;go_upto_region 3 with(fail)
  refine wpR [1,3,1,3] ?_;simp only[stz];refine wpD (xA 53 5 (by rfl) underlying53 (by kernel_rfl) (fun w1 hB1 hm1 hs1=>?_));simp only[stz]
  refine wpD (jH _ _ (by rfl) w.heap.size _ [] (by rfl) (yN _ hB1 (Nat.le_refl _)) _ m (by rfl) (hbS.out.keep0 hm1).bsrc (by simpa using hl) hm1.size (fun v' w2 ho2 hm2=>?_))
  rw[List.nil_append]at ho2;simp only[stz];go_wp2;go_ret
  exact⟨_,rfl,ho2,hm1.trans hm2 (fun k hk e=>by
   have e':some w.heap.size=some k:=e
   cases e';omega)⟩
section
variable{w:World}{rb wb:Nat}{bv:Value}{b:List UInt8}{a:Nat}{e p:Int}
theorem rMany_any(h:RdI w rb wb bv b a e p)(most:Nat)(hm:most<=4096):Calls prog 313 #[.pointer (some ⟨rb,0,none⟩),.int .i64 most] w (NumR w rb wb bv b (rManyL b most (stOf a e)).1 (rManyL b most (stOf a e)).2):=by
 have hn:=rNone_any h;have H:=hid h;have hnum:=rNum_any h;have hc2:=h.cell.2.2.1;have hok:=rNumL_ok (b:=b) (s:=stOf a e)
 by_cases he:e=0
 ·subst he
  rw[stOf_zero]at hnum hok |-;obtain⟨n,hne⟩:∃n,(rNumL b (some a)).1=n:=⟨_,rfl⟩;obtain⟨s,hse⟩:∃s,(rNumL b (some a)).2=s:=⟨_,rfl⟩
  have hml:rManyL b most (some a)=if most<n then(n,none)else(n,s):=by
   unfold rManyL;rw[hne]
   split
   ·rfl
   ·exact Prod.ext hne hse
  rw[hml];rw[hne,hse]at hnum hok;clear hml;have hnb:=hok.2.1;have HOK:=hid hok;clear h hok hne hse
  by_cases hgt:most<n
  ·have hz:(n:Int)>(most:Nat):=by omega
   rw[if_pos hgt];go_enter func313,ntmps313;go_upto_region 3 with(go_at_call 281;refine hn.mono ?_;rintro _ w1 ⟨rfl,hw⟩;obtain rfl:=hw.symm);refine wpR [3,3,3,1,3] ?_
   simp only[stz];refine wpXd (v:=(.int .i64 a)) 3 rb 2 hc2 underlying3 trivial ?_;simp only[stz];go_upto_region 4 with(fail);refine wpR [3,1,3] ?_;simp only[stz]
   refine wpD (wpC func240 (hnum) ?_);rintro e w2 ⟨rfl,hr2⟩;have HR2:=hid hr2;refine⟨_,rfl,?_⟩;simp only[stz];go_upto_region 6 with(fail)
   obtain⟨⟨a2,e2,p2,hi2,hs2⟩,hm2⟩:=HR2.out
   have he2:e2=0:=by
    rcases Int.decEq e2 0 with h|h
    ·rw[stOf_bad h]at hs2
     have:=HOK.out.2.2 hs2.symm;omega
    ·exact h
   subst he2;have HI2:=hid hi2;clear hi2 hs2;refine wpR [3,3,3,1,3,1] ?_;simp only[stz]
   refine wpXd (v:=(.pointer (some ⟨wb,0,none⟩))) 318 rb 0 HI2.out.cell.1 underlying318 trivial ?_;simp only[stz];refine wpD (wpC func254 (wFails_any p2 4 a HI2.out.wr) ?_)
   rintro e w3 ⟨rfl,hm3,hB3⟩;refine⟨_,rfl,?_⟩;simp only[stz];have HF:Hid (RdS w2 w3 rb wb _ b none):=hid (HI2.out.fail hm3 (by decide) hB3);clear hm3 hB3;go_wp2;go_ret
   exact⟨rfl,HR2.out.trans HF.out⟩
  ·have hz:¬(n:Int)>(most:Nat):=by omega
   rw[if_neg hgt];go_enter func313,ntmps313;go_upto_region 3 with(go_at_call 281;refine hn.mono ?_;rintro _ w1 ⟨rfl,hw⟩;obtain rfl:=hw.symm);refine wpR [3,3,3,1,3] ?_
   simp only[stz];refine wpXd (v:=(.int .i64 a)) 3 rb 2 hc2 underlying3 trivial ?_;simp only[stz];go_upto_region 4 with(fail);refine wpR [3,1,3] ?_;simp only[stz]
   refine wpD (wpC func240 (hnum) ?_);rintro e w2 ⟨rfl,hr2⟩;have HR2:=hid hr2;refine⟨_,rfl,?_⟩;simp only[stz];clear hr2;go_wp2;go_ret;exact⟨rfl,HR2.out⟩
 ·have hd:decide (e≠0)=true:=by simpa using he
  rw[hd]at hn;have HT:=hid h.stay;rw[stOf_bad he]at HT |-;have hr:rManyL b most none=(0,none):=by simp[rManyL,rNumL]
  rw[hr];clear h H hnum hok;go_enter func313,ntmps313;go_wp2_with (go_at_call 281;refine hn.mono ?_;rintro _ w1 ⟨rfl,hw⟩;obtain rfl:=hw.symm);go_ret;exact⟨rfl,HT.out⟩
def TakeR(w:World)(rb wb:Nat)(bv:Value)(b x:List UInt8)(s:RS):Ending->World->Prop:=fun e w'=>RdS w w' rb wb bv b s/\∃v,e=.returned v/\Bts w.heap.size w' v x
theorem rTake_any(h:RdI w rb wb bv b a e p)(n:Nat)(hnb:n<9223372036854775808)(at_:Int):Calls prog 312 #[.pointer (some ⟨rb,0,none⟩),.int .i64 n,.int .i64 at_] w (TakeR w rb wb bv b (rTakeL b n (stOf a e)).1 (rTakeL b n (stOf a e)).2):=by
 have hn:=rNone_any h;have H:=hid h;have hal:=h.al;have hln:=h.len
 by_cases he:e=0
 ·subst he
  rw[stOf_zero];obtain⟨ad,cap,rfl,-,-⟩:=Sl.at h.sl
  have hcap:b.length<=cap:=by
   obtain⟨ad',cap',hq,hle,-⟩:=h.sl
   cases hq;exact hle
  clear h
  by_cases hgt:b.length-a<n
  ·have hr:rTakeL b n (some a)=([],none):=by simp[rTakeL,hgt]
   rw[hr];clear hr;go_enter func312,ntmps312;go_upto_region 3 with(go_at_call 281;refine hn.mono ?_;rintro _ w1 ⟨rfl,hw⟩;obtain rfl:=hw.symm)
   have hS:Mod NoB w w.drew:=(Mod.refl _ _).drew;refine wpRZ [3,3,3,3,0,3,3,3,3,0,3,3] [] (fun w'=>Mod NoB w w') hS ?_;simp only[stz]
   refine wpLd 53 rb 1 (fun w' hS=>hS.cell id H.out.cell.2.1) underlying53 ?_;simp only[nmz];refine wpPL ?_;simp only[stz]
   refine wpLd 3 rb 2 (fun w' hS=>hS.cell id H.out.cell.2.2.1) underlying3 ?_;simp only[nmz]
   refine yK _ _ _ _ ((b.length:Nat):Int) (a:Int) rfl rfl rfl rfl (by omega) (by omega) ?_;simp only[nmz]
   refine qK _ _ _ _ _ _ _ _ rfl rfl rfl rfl rfl true (decide_eq_true (by omega)) ?_;simp only[stz];have H1:=hid (H.out.keep0 hS);have HM:=hid hS;clear hS
   generalize w.drew=w1 at*;go_upto_region 4 with(fail);refine wpR [3,3,3,1,3,1] ?_;simp only[stz]
   refine wpXd (v:=(.pointer (some ⟨wb,0,none⟩))) 318 rb 0 H1.out.cell.1 underlying318 trivial ?_;simp only[stz];refine wpD (wpC func254 (wFails_any p 6 at_ H1.out.wr) ?_)
   rintro e w3 ⟨rfl,hm3,hB3⟩;refine⟨_,rfl,?_⟩;simp only[stz];have HF:Hid (RdS w1 w3 rb wb _ b none):=hid (H1.out.fail hm3 (by decide) hB3);clear hm3 hB3;go_wp2;go_ret
   exact⟨RdS.pre HM.out HF.out,_,rfl,⟨rfl,.inl ⟨rfl,rfl⟩⟩⟩
  ·have hr:rTakeL b n (some a)=((b.drop a).take n,some (a+n)):=by simp[rTakeL,hgt]
   rw[hr];clear hr;go_enter func312,ntmps312;go_upto_region 3 with(go_at_call 281;refine hn.mono ?_;rintro _ w1 ⟨rfl,hw⟩;obtain rfl:=hw.symm)
   have hS:Mod NoB w w.drew:=(Mod.refl _ _).drew;refine wpRZ [3,3,3,3,0,3,3,3,3,0,3,3] [] (fun w'=>Mod NoB w w') hS ?_;simp only[stz]
   refine wpLd 53 rb 1 (fun w' hS=>hS.cell id H.out.cell.2.1) underlying53 ?_;simp only[nmz];refine wpPL ?_;simp only[stz]
   refine wpLd 3 rb 2 (fun w' hS=>hS.cell id H.out.cell.2.2.1) underlying3 ?_;simp only[nmz]
   refine yK _ _ _ _ ((b.length:Nat):Int) (a:Int) rfl rfl rfl rfl (by omega) (by omega) ?_;simp only[nmz]
   refine qK _ _ _ _ _ _ _ _ rfl rfl rfl rfl rfl false (decide_eq_false (by omega)) ?_;simp only[stz];have H1:=hid (H.out.keep0 hS);have HM:=hid hS;clear hS
   generalize hw1:w.drew=w1 at*;have HSZ:Hid (w.heap.size=w1.heap.size):=hid (by rw[<-hw1];rfl);clear hw1
   have hsl:=(H1.out.sl).midLe a (a+n) (by omega) (by omega);rw[show a+n-a=n by omega]at hsl;obtain⟨sv,hsv⟩:∃sv,sliced ad a (a+n) cap 1=sv:=⟨_,rfl⟩
   have HSV:=hid hsv;rw[hsv]at hsl;have HSL:=hid hsl;clear hsl hsv;go_upto_region 6 with(fail);have hS:Mod NoB w1 w1.drew:=(Mod.refl _ _).drew
   refine wpRZ [3,3,3,0,3,3,3,0,3,3,3,0,3,3,3,1,3] [] (fun w'=>Mod NoB w1 w') hS ?_;simp only[stz]
   refine wpLd 53 rb 1 (fun w' hS=>hS.cell id H1.out.cell.2.1) underlying53 ?_;simp only[stz];refine wpLd 3 rb 2 (fun w' hS=>hS.cell id H1.out.cell.2.2.1) underlying3 ?_
   simp only[stz];refine wpLd 3 rb 2 (fun w' hS=>hS.cell id H1.out.cell.2.2.1) underlying3 ?_;simp only[stz]
   refine zF _ _ _ _ (a:Int) (n:Int) ((a+n:Nat):Int) rfl rfl rfl rfl (by omega) (by omega) (by omega) ?_;simp only[nmz]
   refine wpPi_sliceLH 53 5 _ _ _ _ _ _ a (a+n) 1 rfl rfl rfl rfl rfl underlying53 (by kernel_rfl) (by omega) (by omega) ?_;simp only[nmz];refine qL rfl (fun K hK=>?_)
   rw[HSV.out];refine wpC func239 (cloneB_any (HSL.out.keep0 hS) (by rw[List.length_take];omega)) ?_;rintro e w2 ⟨v2,rfl,hv2,hm2⟩;have hS2:=hS.trans0 hm2
   have hv0:Bts w.heap.size w2 v2 ((b.drop a).take n):=by rw[HSZ.out];exact jF hv2 (Nat.le_refl _)
   have hone:v2.oneCell'=true:=xW hv2;refine⟨_,rfl,hK _ _ hS2 ?_⟩;clear hK K;simp only[stz];have H2:=hid (H1.out.keep0 hS2);have HM2:=hid (HM.out.trans0 hS2)
   have hvl:∀k,v2.ownBlock=some k->k≠rb:=fun k hk e=>by
    have h1:=(Bts.lt hv0 hk).1;have h2:=(Array.getElem?_eq_some_iff.1 H.out.box).1;omega
   clear hS hS2 hm2 hv2;go_upto_region 7 with(fail);refine wpR [3,3,3,1,3,3,3,3,1] ?_;simp only[stz]
   refine wpXd (v:=(.int .i64 a)) 3 rb 2 H2.out.cell.2.2.1 underlying3 trivial ?_;simp only[stz]
   refine zF _ _ _ _ (a:Int) (n:Int) ((a+n:Nat):Int) rfl rfl rfl rfl (by omega) (by omega) (by omega) ?_;simp only[stz]
   refine wpD (qR 3 _ _ rb 2 (.int .i64 ((a+n:Nat):Int)) (by rfl) (by rfl) (by rfl) rfl (by kernel_rfl) _ _ H2.out.box (by simp) (fun w3 hB3 hm3=>?_))
   have HT:Hid (RdS w2 w3 rb wb (.slice ad b.length cap) b (some (a+n))):=hid (H2.out.on hm3 (by omega) hB3)
   have HB:Hid (Bts w.heap.size w3 v2 ((b.drop a).take n)):=hid (hv0.keep hm3 (fun k hk e=>hvl k hk e));simp only[stz];clear hB3 hm3 hv0;go_wp2;go_ret
   exact⟨RdS.pre HM2.out HT.out,_,rfl,HB.out⟩
 ·have hd:decide (e≠0)=true:=by simpa using he
  rw[hd]at hn;have HT:=hid h.stay;rw[stOf_bad he]at HT |-;clear h H;go_enter func312,ntmps312
  go_wp2_with (go_at_call 281;refine hn.mono ?_;rintro _ w1 ⟨rfl,hw⟩;obtain rfl:=hw.symm);go_ret;exact⟨HT.out,_,rfl,⟨rfl,.inl ⟨rfl,rfl⟩⟩⟩
end
section
variable{w:World}{rb wb:Nat}{bv:Value}{b:List UInt8}{a:Nat}{e p:Int}
theorem RdI.notOk(h:RdI w rb wb bv b a e p):RsOk b (stOf a e):=fun x hx=>by
 unfold stOf at hx
 split at hx
 ·cases hx;exact h.al
 ·cases hx
theorem rBytes_any(h:RdI w rb wb bv b a e p)(most:Nat)(hm:most<=4096):Calls prog 283 #[.pointer (some ⟨rb,0,none⟩),.int .i64 most] w (TakeR w rb wb bv b (rBytesL b most (stOf a e)).1 (rBytesL b most (stOf a e)).2):=by
 have hpl:=rPlace_any h;have hmn:=rMany_any h most hm;have hok:=rManyL_ok (b:=b) (most:=most) (s:=stOf a e);unfold rBytesL
 obtain⟨n,hne⟩:∃n,(rManyL b most (stOf a e)).1=n:=⟨_,rfl⟩;obtain⟨s,hse⟩:∃s,(rManyL b most (stOf a e)).2=s:=⟨_,rfl⟩;rw[hne,hse]at hmn hok |-;have hnb:=hok.2
 obtain⟨plc,hple⟩:∃q,(if e≠0 then 0 else(a:Int))=q:=⟨_,rfl⟩;rw[hple]at hpl;clear h hok hne hse hple;go_enter func283,ntmps283;go_upto_region 1 with(fail)
 refine wpR [3,1,3] ?_;simp only[stz];refine wpD (wpC func311 (hpl) ?_);rintro e w1 ⟨rfl,hw⟩;obtain rfl:=hw.symm;refine⟨_,rfl,?_⟩;simp only[stz]
 go_upto_region 2 with(fail);refine wpR [3,3,3,1,3,1,3] ?_;simp only[stz];refine wpD (wpC func313 (hmn) ?_);rintro e w2 ⟨rfl,hr2⟩;have HR2:=Lib.hid hr2
 obtain⟨⟨a2,e2,p2,hi2,hs2⟩,hm2⟩:=hr2;have ht:=rTake_any hi2 n hnb plc;rw[hs2]at ht;clear hi2 hs2;refine⟨_,rfl,?_⟩;simp only[stz];refine wpD (wpC func312 (ht) ?_)
 rintro e w3 ⟨hr3,v,rfl,hv⟩;have HR3:=Lib.hid (HR2.out.trans hr3);have HV:=Lib.hid (jF hv hm2.size);clear hr3 hv hm2;refine⟨_,rfl,?_⟩;simp only[stz];go_wp2;go_ret
 exact⟨HR3.out,_,rfl,HV.out⟩
def TextR(w:World)(rb wb:Nat)(bv:Value)(b x:List UInt8)(s:RS):Ending->World->Prop:=fun e w'=>RdS w w' rb wb bv b s/\e=.returned (.string ⟨x.toArray⟩)
theorem rText_any(h:RdI w rb wb bv b a e p)(most:Nat)(hm:most<=4096):Calls prog 241 #[.pointer (some ⟨rb,0,none⟩),.int .i64 most] w (TextR w rb wb bv b (rBytesL b most (stOf a e)).1 (rBytesL b most (stOf a e)).2):=by
 have hb:=rBytes_any h most hm;clear h;go_enter func241,ntmps241;go_upto_region 1 with(fail);refine wpR [3,3,1,1,3] ?_;simp only[stz];refine wpD (wpC func283 (hb) ?_)
 rintro e w2 ⟨hr2,v,rfl,hv⟩;have HR2:=Lib.hid hr2;have HV:=Lib.hid hv;clear hr2 hv;refine⟨_,rfl,?_⟩;try simp only[nmz]
 refine wpX rfl (xU 53 5 9 _ (by rfl) v (by rfl) (Bts.sl HV.out) underlying53 underlying5 underlying9) trivial ?_;simp only[stz];go_wp2;go_ret
 exact⟨HR2.out,rfl⟩
def IDR(w:World)(rb wb:Nat)(bv:Value)(b x:List UInt8)(s:RS):Ending->World->Prop:=fun e w'=>RdS w w' rb wb bv b s/\e=.returned (.agg (qA x))
theorem wp_copyRow{P:Program}{o:Oper}{a:Act}{w:World}{K:Act->World->Prop}{Q:Exit->Act->World->Prop}(t e:TypeId)(x y:Operand)(b n c:Nat)(ho:o.op=.call { callee:=.builtin .copy,args:=#[x,y],argTypes:=#[t,t] })(hx:a.eval x=.slice (some ⟨b,0,none⟩) n c)(ht:P.underlying t=some (.slice e))(hs:(P.info? e).map (·.size)=some 1)
 (v:Value)(ys:List UInt8)(hy:a.eval y=v)(hsrc:Src w 1 v ys.length (ys.map byteV))(hl:ys.length<=n)(cur:Array Value)(T:TypeId)(hb:w.heap[b]?=some (.cells cur T (0,0)))(hoff:n<=cur.size)
 (h:∀w',w'.heap[b]?=some (.cells (qY cur 0 (qA ys)) T (0,0))->Mod (fun k=>k=b) w w'->K (a.put o.dst (.int .i64 ys.length)) w'):o.wp P a w K Q:=by
 obtain⟨hl',ad,cap,rfl,hsrc⟩:=hsrc;have hmin:Nat.min ys.length n=ys.length:=Nat.min_eq_left hl
 by_cases h0:ys=[]
 ·subst h0
  have hr:=run_copy_none (P:=P) w t t o.type e (some ⟨b,0,none⟩) ad n c 0 cap ht hs (by simp)
  have e1:qY cur 0 (qA [])=cur:=by
   apply Array.toList_inj.1
   simp[qY,qA]
  have h':=h w (by rw[e1];exact hb) (Mod.refl _ _);unfold Oper.wp execOp
  simp only[ho,hx,hy,resolve,invoke,builtin,List.map_toArray,List.map_cons,List.map_nil,Sem.run_bind,Sem.run_pure,Result.andThen_ok,List.length_nil]at hr h' |-;rw[hr]
  exact h'
 ·obtain⟨b2,off,rfl,hc⟩:=hsrc (by intro h;exact h0 (List.eq_nil_of_length_eq_zero h))
  have hr:=run_copy_row (P:=P) w t t o.type e b 0 n c ⟨b2,off,none⟩ ys.length cap cur T (ys.map byteV) ht hs hb (by rw[List.length_map];exact hmin.symm) (fun j v hj=>by rw[jS];exact hc j v hj) (by rw[List.length_map];omega) (fun v hv=>by obtain⟨x,_,rfl⟩:=List.mem_map.1 hv;rfl)
  have e1:(cur.toList.take 0++ys.map byteV++cur.toList.drop (0+(ys.map byteV).length)).toArray=qY cur 0 (qA ys):=by
   simp[qY,qA]
  rw[e1,List.length_map]at hr;have h':=h _ (setRow_heap w b cur _ T _ hb) ⟨rfl,rfl,rfl,by simp,fun k _ hk=>setRow_other w b k _ (fun e=>hk e)⟩;unfold Oper.wp execOp
  simp only[ho,hx,hy,resolve,invoke,builtin,List.map_toArray,List.map_cons,List.map_nil,Sem.run_bind,Sem.run_pure,Result.andThen_ok];rw[hr];exact h'
theorem exec_sliceAllA{P:Program}{o:Oper}{a:Act}{w:World}(t e:TypeId)(x:Operand)(b n:Nat)(ho:o.op=.slice t x none none none)(hx:a.eval x=.pointer (some ⟨b,0,none⟩))(ht:P.underlying t=some (.array n e))(he:(P.info? e).map (·.size)=some 1):
 (execOp a.eval o).run P w=.ok (.value (.slice (some ⟨b,0,none⟩) n n)) w:=by
 have h1:P.arrayLen t=n:=by simp[Program.arrayLen,ht]
 have h2:P.elem t=e:=by simp[Program.elem,ht]
 have h3:(sizeOf e).run P w=.ok 1 w:=by
  cases hq:P.info? e with
  |none=>simp[hq]at he
  |some j=>simp[hq]at he;simp[sizeOf,typeInfo,hq,he]
 have h:=run_sliceAt_array_all (P:=P) w t ⟨b,0,none⟩ (by rw[h1,h2];exact ht);unfold execOp
 simp only[ho,hx,Option.map_none,Sem.run_bind,h,Result.andThen_ok,Sem.run_pure];rw[h1,h2,h3]
 simp[slicedAt,jS]
theorem rID_any(h:RdI w rb wb bv b a e p):Calls prog 284 #[.pointer (some ⟨rb,0,none⟩)] w (IDR w rb wb bv b (rIDL b (stOf a e)).1 (rIDL b (stOf a e)).2):=by
 have H:=Lib.hid h;have htl:=rTakeL_ok (n:=32) h.notOk;obtain⟨x,hx⟩:∃x,(rTakeL b 32 (stOf a e)).1=x:=⟨_,rfl⟩
 obtain⟨s,hs⟩:∃s,(rTakeL b 32 (stOf a e)).2=s:=⟨_,rfl⟩;have hid:rIDL b (stOf a e)=(if x=[]then zeros32 else x,s):=by unfold rIDL;rw[hx,hs]
 rw[hx]at htl;have hx32:=htl.2;rw[hid]
 have hres:qY (qA (List.replicate 32 0)) 0 (qA x)=qA (if x=[]then zeros32 else x):=by
  rcases hx32 with rfl|h32
  ·apply Array.toList_inj.1
   simp[qY,qA,zeros32]
  ·rw[if_neg (by rintro rfl;simp at h32),qD (by rw[qB,qB,h32];simp)]
 have hrs:(qA (if x=[]then zeros32 else x)).size=32:=by
  rw[qB]
  rcases hx32 with rfl|h32
  ·simp[zeros32]
  ·rw[if_neg (by rintro rfl;simp at h32)];exact h32
 have hxl:x.length<=32:=by
  rcases hx32 with rfl|h32
  ·simp
  ·omega
 obtain⟨r,hr⟩:∃r,(if x=[]then zeros32 else x)=r:=⟨_,rfl⟩
 have hTK:=Lib.hid (show ∀(w':World),RdI w' rb wb bv b a e p->∀at_,Calls prog 312 #[.pointer (some ⟨rb,0,none⟩),.int .i64 32,.int .i64 at_] w' (TakeR w' rb wb bv b x s)from fun w' hw' at_=>by
  have:=rTake_any hw' 32 (by omega) at_;rw[hx,hs]at this
  exact this)
 rw[hr]at hres hrs |-;have HRES:=Lib.hid hres;have HXL:=Lib.hid hxl;obtain⟨plc,hple⟩:∃q,(if e≠0 then 0 else(a:Int))=q:=⟨_,rfl⟩
 have HPL:=Lib.hid (show ∀(w':World),RdI w' rb wb bv b a e p->Calls prog 311 #[.pointer (some ⟨rb,0,none⟩)] w' (RetE (.int .i64 plc) w')from fun w' hw'=>by
  have:=rPlace_any hw'
  rwa[hple]at this)
 clear h hx hs hid htl hx32 hres hxl hr hple;go_enter func284,ntmps284;go_upto_region 0 with(fail);refine wpR [1] ?_;simp only[stz]
 refine wpD (qN 24 _ (by rfl) idZ (fun w1 hB1 hm1 hs1=>?_));replace hB1:w1.heap[w.heap.size]?=some (.cells (qA (List.replicate 32 0)) 24 (0,0)):=hB1
 simp only[stz];go_upto_region 1 with(fail);have hS:Mod NoB w1 w1.drew:=(Mod.refl _ _).drew;refine wpRZ [3,3,3,1,2,2] [4,5] (fun w'=>Mod NoB w1 w') hS ?_
 simp only[stz];refine qC rfl (fun w'=>exec_sliceAllA 24 5 _ _ 32 (by rfl) (by rfl) underlying24 (by kernel_rfl)) ?_;simp only[stz];refine qL rfl (fun K hK=>?_)
 refine wpC func311 (HPL.out _ (H.out.keep0 (hm1.trans0 hS))) ?_;rintro e w2 ⟨rfl,hw⟩;subst hw;refine⟨_,rfl,hK _ _ hS ?_⟩;clear hK K;try simp only[nmz]
 refine zD rfl (fun K hK=>?_);refine wpC func312 (hTK.out _ (H.out.keep0 (hm1.trans0 hS)) plc) ?_;rintro e w3 ⟨hr3,v,rfl,hv⟩
 have HR3:=Lib.hid (RdS.pre (hm1.trans0 hS) hr3);have hrl:=(Array.getElem?_eq_some_iff.1 H.out.box).1;have hwl:=(Array.getElem?_eq_some_iff.1 H.out.wr).1
 have hB3:=hr3.2.obj (fun e=>by
  have e':w.heap.size=rb\/w.heap.size=wb:=e
  omega) (hS.obj id hB1)
 have hsrc:=(Bts.sl hv).bsrc
 have hvn:∀k,v.ownBlock=some k->k≠w.heap.size:=fun k hk e=>by
  have:=(Bts.lt hv hk).1;have h2:=hS.size;omega
 clear hr3;refine⟨_,rfl,hK _ _ ?_⟩;clear hK K;try simp only[nmz]
 refine zD rfl (fun K hK=>?_)
 refine wp_copyRow 53 5 _ _ w.heap.size 32 32 (by rfl) (by rfl) underlying53 (by kernel_rfl) v x (by rfl) hsrc HXL.out _ _ hB3 (by simp[qA]) (fun w4 hB4 hm4=>?_)
 rw[HRES.out]at hB4;have HR4:Hid (RdS w w4 rb wb bv b s):=Lib.hid (HR3.out.keepN H.out.all (Nat.le_refl _) hm4 (Nat.le_refl _));refine hK _ _ ?_;clear hK K;simp only[stz]
 clear hm1 hm4 hS hB1 hB3 hsrc hvn hv;go_upto_region 2 with(fail);refine wpR [1,1] ?_;simp only[stz]
 refine wpXA 24 w.heap.size 0 (qA r) (CellsAt.whole hB4) underlying24 32 hrs trivial ?_;try simp only[nmz]
 refine wpD (qF 24 _ _ w.heap.size 0 (qA r) (by rfl) (by rfl) (by rfl) (qP _) 32 (by kernel_rfl) hrs _ _ hB4 (by rw[hrs];omega) (fun w5 hB5 hm5=>?_))
 rw[qD (rfl)]at hB5;simp only[stz];have HR5:Hid (RdS w w5 rb wb bv b s):=Lib.hid (HR4.out.keepN H.out.all (Nat.le_refl _) hm5 (Nat.le_refl _));clear hm5 hB4;go_wp2
 refine bodyPost_ret (results_cell_row (P:=prog) (ty:=24) rfl _ _ w.heap.size _ _ _ _ (by rfl) hB5 underlying24 rfl (by rw[hrs];kernel_rfl)) rfl ?_;exact⟨HR5.out,rfl⟩
end
theorem fltZ:(prog.info? 255).bind (·.zero)=some (.agg #[.int .i64 0,.int .i64 0]):=by kernel_rfl
section
variable{w:World}{rb wb:Nat}{bv:Value}{b:List UInt8}{a:Nat}{e p:Int}
theorem rEnd_any(h:RdI w rb wb bv b a e p):Calls prog 245 #[.pointer (some ⟨rb,0,none⟩)] w (EndR w b a e p):=by
 have H:=hid h;have hal:=h.al;have hln:=h.len;have hzp:=h.z;have hc0:=h.cell.1
 have hfl:=hid (fun(w':World)(hw':RdI w' rb wb bv b a e p)=>wFailed_at hw'.cell.2.2.2.1);obtain⟨ad,cap,rfl,-,-⟩:=Sl.at h.sl;clear h;go_enter func245,ntmps245
 go_upto_region 0 with(fail);refine wpR [1] ?_;simp only[stz];refine wpD (qN 255 _ (by rfl) fltZ (fun w1 hB1 hm1 hs1=>?_))
 replace hB1:w1.heap[w.heap.size]?=some (.cells #[.int .i64 0,.int .i64 0] 255 (0,0)):=hB1;simp only[stz];have H1:=hid (H.out.keep0 hm1);replace hc0:=hm1.cell id hc0
 go_upto_region 3 with(fail);have hS:Mod NoB w1 w1.drew:=(Mod.refl _ _).drew
 by_cases he:e=0
 ·subst he
  obtain rfl:=hzp rfl
  rcases Nat.lt_or_ge a b.length with hlt|hge
  ·have hlz:(a:Int)<(b.length:Nat):=by omega
   refine wpRZ [3,3,3,0,1,3,3,3,3,3,0,3,3,3,0,3,3,3,3] [] (fun w'=>Mod NoB w1 w') hS ?_;simp only[stz]
   refine wpLd 318 rb 0 (fun w' hS=>hS.cell id H1.out.cell.1) underlying318 ?_;simp only[nmz];refine qL rfl (fun K hK=>?_)
   refine wpC func252 (hfl.out _ (H1.out.keep0 hS)) ?_;rintro e w2 ⟨rfl,hw⟩;subst hw;refine⟨_,rfl,hK _ _ hS ?_⟩;clear hK K;try simp only[stz]
   try refine zM _ _ false (by rfl) (by rfl) (by rfl) ?_
   try simp only[stz]
   refine wpLd 3 rb 2 (fun w' hS=>hS.cell id H1.out.cell.2.2.1) underlying3 ?_;simp only[stz];refine wpLd 53 rb 1 (fun w' hS=>hS.cell id H1.out.cell.2.1) underlying53 ?_
   simp only[nmz];refine wpPL ?_;simp only[nmz];refine qK _ _ _ _ _ _ _ _ rfl rfl rfl rfl rfl true (decide_eq_true (by omega)) ?_;simp only[stz]
   have H3:=hid (H1.out.keep0 hS);have HM3:Hid (Mod NoB w w1.drew):=hid (hm1.trans0 hS);have hB3:=hS.obj id hB1;clear hS hm1 hB1 hc0 H1 H hfl;generalize w1.drew=w3 at*
   go_upto_region 4 with(fail);refine wpR [3,3,3,1,0,1] ?_;simp only[stz];refine wpXd (v:=(.int .i64 a)) 3 rb 2 H3.out.cell.2.2.1 underlying3 trivial ?_
   try simp only[nmz]
   refine qG rfl (fun w' hS=>qO 255 [(0,_),(1,_)] [(0,.int .i64 4),(1,.int .i64 a)] _ (by rfl) (by rfl) (built_fault 4 a)) ?_;simp only[nmz]
   refine wpD (qF 255 _ _ w.heap.size 0 #[.int .i64 4,.int .i64 a] (by rfl) (by rfl) (by rfl) (by simp[Value.oneCell']) 2 (by kernel_rfl) rfl _ _ hB3 (by simp) (fun w4 hB4 hm4=>?_))
   rw[qD (by rfl)]at hB4;simp only[stz];have hM4:Hid (Mod NoB w w4):=hid (HM3.out.transB hm4 (Nat.le_refl _));clear hm4 hB3;go_wp2
   refine bodyPost_ret (results_cell_row (P:=prog) (ty:=255) rfl _ _ w.heap.size _ _ _ _ (by rfl) hB4 underlying255 rfl (by kernel_rfl)) rfl ?_
   exact⟨hM4.out,4,a,rfl,by omega,by omega⟩
  ·have hlz:¬(a:Int)<(b.length:Nat):=by omega
   refine wpRZ [3,3,3,0,1,3,3,3,3,3,0,3,3,3,0,3,3,3,3] [] (fun w'=>Mod NoB w1 w') hS ?_;simp only[stz]
   refine wpLd 318 rb 0 (fun w' hS=>hS.cell id H1.out.cell.1) underlying318 ?_;simp only[nmz];refine qL rfl (fun K hK=>?_)
   refine wpC func252 (hfl.out _ (H1.out.keep0 hS)) ?_;rintro e w2 ⟨rfl,hw⟩;subst hw;refine⟨_,rfl,hK _ _ hS ?_⟩;clear hK K;try simp only[stz]
   try refine zM _ _ false (by rfl) (by rfl) (by rfl) ?_
   try simp only[stz]
   refine wpLd 3 rb 2 (fun w' hS=>hS.cell id H1.out.cell.2.2.1) underlying3 ?_;simp only[stz];refine wpLd 53 rb 1 (fun w' hS=>hS.cell id H1.out.cell.2.1) underlying53 ?_
   simp only[nmz];refine wpPL ?_;simp only[nmz];refine qK _ _ _ _ _ _ _ _ rfl rfl rfl rfl rfl false (decide_eq_false (by omega)) ?_;simp only[stz]
   have H3:=hid (H1.out.keep0 hS);have HM3:Hid (Mod NoB w w1.drew):=hid (hm1.trans0 hS);have hB3:=hS.obj id hB1;clear hS hm1 hB1 hc0 H1 H hfl;generalize w1.drew=w3 at*
   go_upto_region 5 with(fail);refine wpR [3,3,3,1,3,3,1,1] ?_;simp only[stz]
   refine wpXd (v:=(.pointer (some ⟨wb,0,none⟩))) 318 rb 0 H3.out.cell.1 underlying318 trivial ?_;simp only[stz]
   refine wpXA 255 wb 0 #[.int .i64 0,.int .i64 0] H3.out.row underlying255 2 rfl trivial ?_;try simp only[nmz]
   refine wpD (qF 255 _ _ w.heap.size 0 #[.int .i64 0,.int .i64 0] (by rfl) (by rfl) (by rfl) (by simp[Value.oneCell']) 2 (by kernel_rfl) rfl _ _ hB3 (by simp) (fun w4 hB4 hm4=>?_))
   rw[qD (by rfl)]at hB4;simp only[stz];have hM4:Hid (Mod NoB w w4):=hid (HM3.out.transB hm4 (Nat.le_refl _));clear hm4 hB3;go_wp2
   refine bodyPost_ret (results_cell_row (P:=prog) (ty:=255) rfl _ _ w.heap.size _ _ _ _ (by rfl) hB4 underlying255 rfl (by kernel_rfl)) rfl ?_
   exact⟨hM4.out,0,0,rfl,by omega,by omega⟩
 ·have hd:decide (e≠0)=true:=by simpa using he
  have hf2:=hfl.out;simp only[hd]at hf2;replace hfl:=hid hf2;clear hf2
  refine wpRZ [3,3,3,0,1,3,3,3,3,3,0,3,3,3,0,3,3,3,3] [] (fun w'=>Mod NoB w1 w') hS ?_;simp only[stz]
  refine wpLd 318 rb 0 (fun w' hS=>hS.cell id H1.out.cell.1) underlying318 ?_;simp only[nmz];refine qL rfl (fun K hK=>?_)
  refine wpC func252 (hfl.out _ (H1.out.keep0 hS)) ?_;rintro e w2 ⟨rfl,hw⟩;subst hw;refine⟨_,rfl,hK _ _ hS ?_⟩;clear hK K;try simp only[stz]
  try refine zM _ _ true (by rfl) (by rfl) (by rfl) ?_
  try simp only[stz]
  have H3:=hid (H1.out.keep0 hS);have HM3:Hid (Mod NoB w w1.drew):=hid (hm1.trans0 hS);have hB3:=hS.obj id hB1;clear hS hm1 hB1 hc0 H1 H hfl;generalize w1.drew=w3 at*
  go_upto_region 5 with(fail);refine wpR [3,3,3,1,3,3,1,1] ?_;simp only[stz]
  refine wpXd (v:=(.pointer (some ⟨wb,0,none⟩))) 318 rb 0 H3.out.cell.1 underlying318 trivial ?_;simp only[stz]
  refine wpXA 255 wb 0 #[.int .i64 e,.int .i64 p] H3.out.row underlying255 2 rfl trivial ?_;try simp only[nmz]
  refine wpD (qF 255 _ _ w.heap.size 0 #[.int .i64 e,.int .i64 p] (by rfl) (by rfl) (by rfl) (by simp[Value.oneCell']) 2 (by kernel_rfl) rfl _ _ hB3 (by simp) (fun w4 hB4 hm4=>?_))
  rw[qD (by rfl)]at hB4;simp only[stz];have hM4:Hid (Mod NoB w w4):=hid (HM3.out.transB hm4 (Nat.le_refl _));clear hm4 hB3;go_wp2
  refine bodyPost_ret (results_cell_row (P:=prog) (ty:=255) rfl _ _ w.heap.size _ _ _ _ (by rfl) hB4 underlying255 rfl (by kernel_rfl)) rfl ?_
  exact⟨hM4.out,e,p,rfl,by omega,by omega⟩
theorem zero_wrong:prog.built 320 []=some #[.int .i64 0,.int .i64 0]:=by kernel_rfl
theorem built_reader(wb:Nat)(v:Value)(h:v.cells=#[v]):prog.built 344 [(0,.pointer (some ⟨wb,0,none⟩)),(1,v)]=some #[.pointer (some ⟨wb,0,none⟩),v,.int .i64 0]:=by
 have z:(prog.info? 344).bind (·.zero)=some (.agg #[.pointer none,.slice none 0 0,.int .i64 0]):=by kernel_rfl
 have p:xV prog 344=some [(0,1),(1,1),(2,1)]:=by kernel_rfl
 rw[zP z p,zC (off:=0) (size:=1) rfl (by rfl) (by simp),zC (off:=1) (size:=1) rfl (by rw[h];rfl) (by simp[qY,Value.cells]),xY,h]
 rfl
def NewRd(w:World)(b:List UInt8):Ending->World->Prop:=fun x w'=>∃rb wb bv,x=.returned (.pointer (some ⟨rb,0,none⟩))/\RdI w' rb wb bv b 0 0 0/\Mod NoB w w'/\∀k,k=rb\/k=wb\/bv.ownBlock=some k->w.heap.size<=k
theorem rNew_any{own:Bool}{G:Nat->Prop}{v:Value}{w:World}{b:List UInt8}(h:Sl own w G 1 ByteC v b)(hl:b.length<=4096):Calls prog 211 #[v] w (NewRd w b):=by
 have H:=hid h;clear h;go_enter func211,ntmps211;go_upto_region 1 with(fail);refine wpR [0,1,3,1,0,1,3] ?_;simp only[stz]
 refine qG rfl (fun w' hS=>qO 320 [] [] _ (by rfl) (by rfl) zero_wrong) ?_;simp only[nmz]
 refine wpD (zL 320 _ _ (by rfl) (by rfl) (fun w1 hB1 hm1 hs1=>?_));replace hB1:w1.heap[w.heap.size]?=some (.cells #[.int .i64 0,.int .i64 0] 320 (0,0)):=hB1
 simp only[stz];refine wpD (wpC func239 (cloneB_any (H.out.keep0 hm1) (by omega)) ?_);rintro e w2 ⟨v2,rfl,hv2,hm2⟩
 have hvc:v2.cells=#[v2]:=by obtain⟨ad,cap,rfl,-,-⟩:=Sl.at hv2.sl;rfl
 have hbr:=built_reader w.heap.size v2 hvc;refine⟨_,rfl,?_⟩;try simp only[nmz]
 refine qG rfl (fun w' hS=>qO 344 [(0,_),(1,_)] [(0,.pointer (some ⟨w.heap.size,0,none⟩)),(1,v2)] _ (by rfl) (by rfl) hbr) ?_;simp only[nmz]
 refine wpD (zL 344 _ _ (by rfl) (by rfl) (fun w3 hB3 hm3 hs3=>?_))
 replace hB3:w3.heap[w2.heap.size]?=some (.cells #[.pointer (some ⟨w.heap.size,0,none⟩),v2,.int .i64 0] 344 (0,0)):=hB3;simp only[stz]
 have hB1':=(hm2.trans0 hm3).obj id hB1;have hs1:=hs1;have hs2:=hm2.size;have hv3:=Bts.keep hv2 hm3 (fun _ _=>id)
 have hvk:∀k,v2.ownBlock=some k->w1.heap.size<=k/\k<w2.heap.size:=fun k hk=>Bts.lt hv2 hk
 have HT:Hid (NewRd w b (.returned (.pointer (some ⟨w2.heap.size,0,none⟩))) w3):=hid ⟨_,_,v2,rfl,⟨hB3,hB1',(hv3.sl.weak).mono (fun k hk=>hk.2.2) (fun _ _ h=>h),fun k hk=>⟨by have:=hvk k hk;have:=hm3.size;omega,by have:=hvk k hk;omega,by have:=hvk k hk;omega⟩,hl,by omega,fun _=>rfl,by omega⟩,(hm1.trans0 hm2).trans0 hm3,fun k hk=>by
  rcases hk with rfl|rfl|hk
  ·omega
  ·omega
  ·have:=hvk k hk;omega⟩
 clear hB1 hB3 hm1 hm2 hm3 hv2 hv3 hB1' hvk;go_wp2;go_ret;exact HT.out
end
end
section
open Go.RowKit Go.Shelf Go.Proofs.Tryz Go.Lib
section
variable{P:Program}{w:World}{o:Oper}{a:Act}
theorem run_typeInfo{t:TypeId}{i:TypeInfo}(h:P.info? t=some i):(typeInfo t).run P w=.ok i w:=by simp[typeInfo,h]
theorem run_methP(n:Nat)(t e:TypeId)(p:Addr)(name:String)(f:FuncId)
 (hm:((P.info? t).bind fun i=>(i.methods.find? (·.name==name)).map fun m=>(m.path,m.func))=some (#[],some (f,true)))(ht:P.underlying t=some (.pointer e)):
 (_root_.Go.method (n+1) t (.pointer (some p)) name).run P w=.ok (f,.pointer (some p)) w:=by
 cases hi:P.info? t with
 |none=>simp[hi]at hm
 |some i=>
  simp only[hi,Option.bind_some]at hm
  cases hf:i.methods.find? (·.name==name)with
  |none=>simp[hf]at hm
  |some m=>
   simp only[hf,Option.map_some,Option.some.injEq,Prod.mk.injEq]at hm;obtain⟨hp,hfn⟩:=hm
   simp[_root_.Go.method,run_typeInfo hi,hf,hp,hfn,_root_.Go.follow,_root_.Go.receiverAt,run_underlying ht,_root_.Go.Place.get]
theorem run_wrapNil(ts:Array TypeId)(t:TypeId)(p:Addr)(s m:ByteArray):(Builtin.ssaWrapNilChk_ ts t #[.pointer (some p),.string s,.string m]).run P w=.ok (.pointer (some p)) w:=by rfl
theorem run_methV(n:Nat)(t e:TypeId)(p:Addr)(name:String)(f:FuncId)(v:Value)(d:TypeDesc)
 (hm:((P.info? t).bind fun i=>(i.methods.find? (·.name==name)).map fun m=>(m.path,m.func))=some (#[],some (f,false)))(ht:P.underlying t=some (.pointer e))
 (hu:P.underlying e=some d)(hd:(match d with| .struct _| .array _ _=>true|_=>false)=false)(hc:w.cell? p=some v):
 (_root_.Go.method (n+1) t (.pointer (some p)) name).run P w=.ok (f,v) w:=by
 have hagg:(isAgg e).run P w=.ok false w:=by
  unfold isAgg;rw[Sem.run_bind,run_underlying hu w]
  cases d<;>simp_all
 cases hi:P.info? t with
 |none=>simp[hi]at hm
 |some i=>
  simp only[hi,Option.bind_some]at hm
  cases hf:i.methods.find? (·.name==name)with
  |none=>simp[hf]at hm
  |some m=>
   simp only[hf,Option.map_some,Option.some.injEq,Prod.mk.injEq]at hm;obtain⟨hp,hfn⟩:=hm
   have hl:(loadVar e p).run P w=.ok v w:=by
    unfold loadVar;rw[Sem.run_bind,hagg]
    simp[load,Sem.run,hc]
   simp[_root_.Go.method,run_typeInfo hi,hf,hp,hfn,_root_.Go.follow,_root_.Go.receiverAt,run_underlying ht,_root_.Go.Place.get,run_wrapNil,asAddr,hl,strVal]
theorem run_invoke(x:Operand)(name:String)(xs:List Operand)(ts:Array TypeId)(ho:o.op=.call { callee:=.invoke x name,args:=xs.toArray,argTypes:=ts })(t:TypeId)(v:Value)(hx:a.eval x=.iface t v)(f:FuncId)(r:Value)
 (hm:∀n,(_root_.Go.method (n+1) t v name).run P w=.ok (f,r) w)(hpos:0<P.types.size)(fn:Func)(hf:P.funcs[f]?=some fn)(hb:fn.body.isSome=true)(hn:(fn.name== "runtime.NumGoroutine")=false)(args:List Value)(ha:xs.map a.eval=args):
 (execOp a.eval o).run P w=.ok (.enter f (r::args).toArray) w:=by
 subst ha;have hb':¬fn.body=none:=by intro h;simp[h]at hb
 have hn':¬fn.name= "runtime.NumGoroutine" :=by simpa using hn
 obtain⟨n,hn1⟩:∃n,P.types.size+Made.depth=n+1:=⟨P.types.size+Made.depth-1,by omega⟩;unfold execOp
 simp[ho,resolve,invoke,callMethod,hx,hn1,hm,callFunc,hf,hb',hn']
 exact List.take_of_length_le (by simp)
end
theorem pTypes:0<prog.types.size:=of_decide_eq_true (by kernel_rfl)
theorem meth_Less:((prog.info? 178).bind fun i=>(i.methods.find? (·.name== "Less")).map fun m=>(m.path,m.func))=some (#[],some (345,false)):=by kernel_rfl
theorem meth_Len:((prog.info? 178).bind fun i=>(i.methods.find? (·.name== "Len")).map fun m=>(m.path,m.func))=some (#[],some (105,false)):=by kernel_rfl
theorem meth_Swap:((prog.info? 178).bind fun i=>(i.methods.find? (·.name== "Swap")).map fun m=>(m.path,m.func))=some (#[],some (348,false)):=by kernel_rfl
theorem meth_Push:((prog.info? 178).bind fun i=>(i.methods.find? (·.name== "Push")).map fun m=>(m.path,m.func))=some (#[],some (347,true)):=by kernel_rfl
theorem meth_Pop:((prog.info? 178).bind fun i=>(i.methods.find? (·.name== "Pop")).map fun m=>(m.path,m.func))=some (#[],some (346,true)):=by kernel_rfl
section
variable{α:Type}[Inhabited α]{enc:α->List Value}{e k:Nat}{base:Nat}{w:World}{v:Value}{l:List α}
omit [Inhabited α] in
theorem flat_split(enc:α->List Value)(l:List α)(i:Nat)(hi:i<l.length):l.flatMap enc=(l.take i).flatMap enc++(enc l[i]++(l.drop (i+1)).flatMap enc):=by
 conv=>lhs;rw[<-List.take_append_drop i l,List.drop_eq_getElem_cons hi]
 rw[List.flatMap_append,List.flatMap_cons]
omit [Inhabited α] in
theorem flat_set(enc:α->List Value)(l:List α)(i:Nat)(x:α)(hi:i<l.length):(l.set i x).flatMap enc=(l.take i).flatMap enc++(enc x++(l.drop (i+1)).flatMap enc):=by
 rw[List.set_eq_take_append_cons_drop,if_pos hi,List.flatMap_append,List.flatMap_cons]
theorem Gat.at(h:Gat enc e k base w v l)(hk:∀x,(enc x).length=k)(i:Nat)(hi:i<l.length):∃g cap cur,v=.slice (some ⟨g,0,none⟩) l.length cap/\w.heap[g]?=some (.cells cur e (0,0))/\CellsAt w g (i*k) (enc l[i]).toArray/\i*k+k<=cur.size/\base<=g/\
 ∀(x:α)(w':World),w'.heap[g]?=some (.cells (qY cur (i*k) (enc x).toArray) e (0,0))->Gat enc e k base w' v (l.set i x):=by
 rcases h.2 with⟨rfl,h0⟩|⟨g,cap,cur,rfl,hb,hg,hc,hm,hcs,ht⟩
 ·omega
 ·have hlen:=len_enc hk l
  have hA:((l.take i).flatMap enc).length=i*k:=by rw[len_enc hk,List.length_take,Nat.min_eq_left (by omega)]
  have hC:((l.drop (i+1)).flatMap enc).length=(l.length-(i+1))*k:=by rw[len_enc hk,List.length_drop]
  have hnk:i*k+k<=l.length*k:=by
   have:(i+1)*k<=l.length*k:=Nat.mul_le_mul_right _ hi
   rwa[Nat.succ_mul]at this
  have hck:l.length*k<=cap*k:=Nat.mul_le_mul_right _ hc;have hcur:cur.toList=l.flatMap enc++cur.toList.drop (l.length*k):=by rw[<-ht,List.take_append_drop]
  have hsp:=flat_split enc l i hi;refine⟨g,cap,cur,rfl,hg,CellsAt.of_obj hg (fun j hj=>?_),by omega,hb,fun x w' hw'=>?_⟩
  ·have hj':j<k:=by simpa[hk]using hj
   have h1:=flat_enc hk l i hi j hj';rw[<-ht,List.getElem?_take_of_lt (by omega)]at h1;rw[Array.getElem?_toList]at h1;rw[h1];simp
  ·have hx:=hk x
   have hrow:(qY cur (i*k) (enc x).toArray).toList=(l.set i x).flatMap enc++cur.toList.drop (l.length*k):=by
    rw[flat_set enc l i x hi];unfold qY;simp only[List.size_toArray,hx]
    have h1:cur.toList.take (i*k)=(l.take i).flatMap enc:=by
     conv=>lhs;rw[hcur,hsp]
     rw[List.append_assoc,List.take_append_of_le_length (by omega),List.take_of_length_le (by omega)]
    have h2:cur.toList.drop (i*k+k)=(l.drop (i+1)).flatMap enc++cur.toList.drop (l.length*k):=by
     conv=>lhs;rw[hcur,hsp]
     have e1:((l.take i).flatMap enc++(enc l[i]++(l.drop (i+1)).flatMap enc))++cur.toList.drop (l.length*k)=((l.take i).flatMap enc++enc l[i])++((l.drop (i+1)).flatMap enc++cur.toList.drop (l.length*k)):=by simp
     rw[e1,List.drop_append_of_le_length (by rw[List.length_append,hA,hk];omega),List.drop_of_length_le (by rw[List.length_append,hA,hk];omega),List.nil_append]
    rw[h1,h2]
    simp
   have hl2:((l.set i x).flatMap enc).length=l.length*k:=by rw[len_enc hk,List.length_set]
   refine⟨by rw[hl2,List.length_set],.inr ⟨g,cap,_,by rw[List.length_set],hb,hw',by rw[List.length_set];exact hc,hm,by rw[yH (by simp[hk];omega)];exact hcs,?_⟩⟩
   rw[hrow,List.length_set,List.take_append_of_le_length (by omega),List.take_of_length_le (by omega)]
end
def idE(x:List UInt8):List Value:=if x.length=32 then idL x else List.replicate 32 (byteV 0)
theorem jM(x:List UInt8):(idE x).length=32:=by
 unfold idE
 split
 ·rename_i h;exact idL_len h
 ·simp
theorem idE_one(x:List UInt8):∀c∈idE x,c.oneCell'=true:=by
 unfold idE
 split
 ·exact idL_one x
 ·intro c hc;rw[List.eq_of_mem_replicate hc];rfl
theorem idE_eq{x:List UInt8}(h:x.length=32):(idE x).toArray=qA x:=by unfold idE;rw[if_pos h];simp[idL]
abbrev GatI(base:Nat)(w:World)(v:Value)(l:List (List UInt8)):Prop:=Gat idE 24 32 base w v l
structure DgI(w:World)(hb base:Nat)(v:Value)(l:List (List UInt8)):Prop where
 box:w.heap[hb]?=some (.cells #[v] 179 (0,0))
 row:GatI base w v l
 ids:∀x∈l,x.length=32
 ne:∀q,v.ownBlock=some q->q≠hb
 few:l.length<=65536
theorem DgI.cell{w:World}{hb base:Nat}{v:Value}{l:List (List UInt8)}(h:DgI w hb base v l):w.cell? ⟨hb,0,none⟩=some v:=by simp[World.cell?,h.box]
theorem DgI.keep{S:Nat->Prop}{w w':World}{hb base:Nat}{v:Value}{l:List (List UInt8)}(h:DgI w hb base v l)(hm:Mod S w w')(h1:¬S hb)(h2:∀q,v.ownBlock=some q->¬S q):DgI w' hb base v l:=
 ⟨hm.obj h1 h.box,h.row.keep hm h2,h.ids,h.ne,h.few⟩
theorem DgI.keep0{w w':World}{hb base:Nat}{v:Value}{l:List (List UInt8)}(h:DgI w hb base v l)(hm:Mod NoB w w'):DgI w' hb base v l:=h.keep hm id (fun _ _=>id)
theorem atD_mem{l:List (List UInt8)}{i:Nat}(hi:i<l.length):atD l i∈l:=by rw[at_lt hi];exact List.getElem_mem _
section
variable{w:World}{hb base:Nat}{v:Value}{l:List (List UInt8)}
theorem DgI.at(h:DgI w hb base v l)(i:Nat)(hi:i<l.length):∃g cap cur,v=.slice (some ⟨g,0,none⟩) l.length cap/\w.heap[g]?=some (.cells cur 24 (0,0))/\CellsAt w g (i*32) (qA (atD l i))/\i*32+32<=cur.size/\base<=g/\(atD l i).length=32/\
 ∀(x:List UInt8)(w':World),x.length=32->w'.heap[g]?=some (.cells (qY cur (i*32) (qA x)) 24 (0,0))->GatI base w' v (l.set i x):=by
 obtain⟨g,cap,cur,h1,h2,h3,h4,h5,h6⟩:=h.row.at jM i hi;have hm:=h.ids _ (atD_mem hi);rw[at_lt hi]at hm |-
 refine⟨g,cap,cur,h1,h2,?_,h4,h5,hm,fun x w' hx hw=>h6 x w' ?_⟩
 ·rw[<-idE_eq hm];exact h3
 ·rw[idE_eq hx];exact hw
theorem dgLen_any{ad:Option Addr}{n cap:Nat}(w:World):Calls prog 105 #[.slice ad n cap] w (RetE (.int .i64 n) w):=by
 go_enter func105,ntmps105;go_upto_region 1 with(fail);refine wpR [3,3,3] ?_;simp only[stz];refine wpPL ?_;simp only[stz];go_wp2;go_ret;exact⟨rfl,rfl⟩
theorem dgLess_any(h:DgI w hb base v l)(i j:Nat)(hi:i<l.length)(hj:j<l.length):Calls prog 345 #[v,.int .i64 i,.int .i64 j] w (RetM (.bool (decide (atD l i<atD l j))) w):=by
 obtain⟨g,cap,cur,rfl,hg,hci,-,-,hli,-⟩:=h.at i hi;obtain⟨g2,cap2,cur2,he,hg2,hcj,-,-,hlj,-⟩:=h.at j hj
 cases he
 have hneg:=cmpI_neg (atD l i) (atD l j);have hic:=qB (atD l i);have hjc:=qB (atD l j);rw[hli]at hic;rw[hlj]at hjc;generalize atD l i=x at*
 generalize atD l j=y at*;obtain⟨c,hc⟩:∃c,cmpI x y=c:=⟨_,rfl⟩;have hsc:=fun w'=>shaCompare_any x y hli hlj w';rw[hc]at hneg;simp only[hc]at hsc
 have hd:decide (c<0)=decide (x<y):=by rw[decide_eq_decide];exact hneg
 rw[<-hd];clear h hc hd hneg;go_enter func345,ntmps345;go_upto_region 1 with(fail);have hS:Mod NoB w w.drew:=(Mod.refl _ _).drew
 refine wpRZ [3,3,3,0,3,3,3,0,1,3,3] [] (fun w'=>Mod NoB w w') hS ?_;simp only[stz];refine wpPI underlying179 32 hi ?_;simp only[nmz]
 refine wpLA 24 g (i*32) (qA x) (fun w' hS=>hci.keep hS id) underlying24 32 hic ?_;simp only[stz];refine wpPI underlying179 32 hj ?_;simp only[nmz]
 refine wpLA 24 g (j*32) (qA y) (fun w' hS=>hcj.keep hS id) underlying24 32 hjc ?_;simp only[nmz];refine qL rfl (fun K hK=>?_);refine wpC func35 (hsc _) ?_
 rintro e w2 ⟨rfl,hg2⟩;have hS2:=hS.trans0 hg2.mod;refine⟨_,rfl,hK _ _ hS2 ?_⟩;clear hK K;try simp only[nmz]
 refine qK _ _ _ _ _ _ _ _ rfl rfl rfl rfl rfl (decide (c<0)) rfl ?_;simp only[stz];go_wp2;go_ret;exact⟨rfl,hS2⟩
def DgM(w:World)(v:Value)(hb:Nat)(w':World)(v':Value):Prop:=Mod (fun k=>k=hb\/v.ownBlock=some k) w w'/\∀q,v'.ownBlock=some q->v.ownBlock=some q\/w.heap.size<=q
theorem DgM.refl(w:World)(v:Value)(hb:Nat):DgM w v hb w v:=⟨Mod.refl _ _,fun _ h=>.inl h⟩
theorem DgM.trans{w w1 w2:World}{v v1 v2:Value}{hb:Nat}(h:DgM w v hb w1 v1)(k:DgM w1 v1 hb w2 v2):DgM w v hb w2 v2:=
 ⟨h.1.trans k.1 (fun q hq e=>e.elim .inl fun e=>(h.2 q e).elim .inr fun e=>by omega),fun q hq=>(k.2 q hq).elim (h.2 q) fun e=>.inr (Nat.le_trans h.1.size e)⟩
theorem DgM.trans0{w w1 w2:World}{v v1:Value}{hb:Nat}(h:DgM w v hb w1 v1)(k:Mod NoB w1 w2):DgM w v hb w2 v1:=⟨h.1.trans k (fun _ _ h=>h.elim),h.2⟩
def DgTo(w:World)(hb base:Nat)(v:Value)(l':List (List UInt8))(w':World):Prop:=∃v',DgI w' hb base v' l'/\DgM w v hb w' v'
theorem dgSwap_any(h:DgI w hb base v l)(i j:Nat)(hi:i<l.length)(hj:j<l.length):Calls prog 348 #[v,.int .i64 i,.int .i64 j] w (fun e w'=>e=.returned (.tuple #[])/\DgTo w hb base v (swp l i j) w'):=by
 obtain⟨g,cap,cur,rfl,hg,hci,hszi,hbg,hli,hpi⟩:=h.at i hi;obtain⟨g2,cap2,cur2,he,hg2,hcj,hszj,-,hlj,-⟩:=h.at j hj
 cases he
 have H:=hid h;have hic:=qB (atD l i);have hjc:=qB (atD l j);rw[hli]at hic;rw[hlj]at hjc;obtain⟨x,hx⟩:∃x,atD l i=x:=⟨_,rfl⟩
 obtain⟨y,hy⟩:∃y,atD l j=y:=⟨_,rfl⟩;rw[hx]at hci hli hic;rw[hy]at hcj hlj hjc;have HXY:Hid (swp l i j=(l.set i y).set j x):=hid (by unfold swp;rw[hx,hy])
 have HPI:=hid hpi;have hgn:g≠hb:=h.ne g rfl;clear h hpi hx hy hg2;go_enter func348,ntmps348;go_upto_region 0 with(fail);have hS:Mod NoB w w.drew:=(Mod.refl _ _).drew
 refine wpRZ [3,3,3,3,3,3,3,0,3,3,3,0,3,2,3,2] [13,15] (fun w'=>Mod NoB w w') hS ?_;simp only[stz];refine wpPI underlying179 32 hj ?_;simp only[nmz]
 refine wpLA 24 g (j*32) (qA y) (fun w' hS=>hcj.keep hS id) underlying24 32 hjc ?_;simp only[stz];refine wpPI underlying179 32 hi ?_;simp only[nmz]
 refine wpLA 24 g (i*32) (qA x) (fun w' hS=>hci.keep hS id) underlying24 32 hic ?_;simp only[nmz];refine wpPI underlying179 32 hi ?_;simp only[nmz]
 refine zD rfl (fun K hK=>?_)
 refine qF 24 _ _ g (i*32) (qA y) (by rfl) (by rfl) (by rfl) (qP _) 32 (by kernel_rfl) hjc _ _ (hS.obj id hg) (by omega) (fun w3 hB3 hm3=>?_)
 have hm03:Mod (fun k=>k=g) w w3:=(hS.mono (fun _ _ h=>h.elim)).trans hm3 (fun _ _ h=>h);have hrow3:=HPI.out y w3 hlj hB3
 have hD3:DgI w3 hb base (.slice (some ⟨g,0,none⟩) l.length cap) (l.set i y):=⟨hm03.objB (fun e=>hgn e.symm) H.out.box,hrow3,fun q hq=>by
  rcases List.mem_or_eq_of_mem_set hq with hq|hq
  ·exact H.out.ids q hq
  ·rw[hq];exact hlj,H.out.ne,by rw[List.length_set];exact H.out.few⟩
 obtain⟨g4,cap4,cur4,he4,hg4,-,hsz4,-,-,hp4⟩:=hD3.at j (by rw[List.length_set];exact hj);rw[List.length_set]at he4
 cases he4
 refine hK _ _ ?_;clear hK K;try simp only[nmz]
 refine wpPI underlying179 32 hj ?_;simp only[nmz];refine zD rfl (fun K hK=>?_)
 refine qF 24 _ _ g (j*32) (qA x) (by rfl) (by rfl) (by rfl) (qP _) 32 (by kernel_rfl) hic _ _ hg4 (by omega) (fun w5 hB5 hm5=>?_)
 have hrow5:=hp4 x w5 hli hB5
 have HR:Hid (DgTo w hb base (.slice (some ⟨g,0,none⟩) l.length cap) (swp l i j) w5):=hid ⟨_,⟨hm5.objB (fun e=>hgn e.symm) hD3.box,by rw[HXY.out];exact hrow5,fun q hq=>by
  rw[HXY.out]at hq
  rcases List.mem_or_eq_of_mem_set hq with hq|hq
  ·exact hD3.ids q hq
  ·rw[hq];exact hli,H.out.ne,by rw[swp_len];exact H.out.few⟩,(hm03.mono (fun k _ e=>.inr (by have e':k=g:=e;rw[e'];rfl))).trans hm5 (fun k _ e=>.inr (by have e':k=g:=e;rw[e'];rfl)),fun q hq=>.inl hq⟩
 refine hK _ _ ?_;clear hm3 hm5 hB3 hB5 hrow3 hrow5 hp4 hg4 hD3 hm03;clear hK K;simp only[stz];clear hS;go_wp2
 go_end0
 exact⟨rfl,HR.out⟩
end
section
variable{P:Program}{w:World}{o:Oper}{a:Act}
theorem exec_assert(x:Operand)(ti t:TypeId)(v:Value)(ho:o.op=.typeAssert x ti t false)(hx:a.eval x=.iface t v)(hn:(∀ms,P.underlying t≠some (.interface ms))/\(P.underlying t).isSome=true):(execOp a.eval o).run P w=.ok (.value v) w:=by
 unfold execOp;simp only[ho,hx];obtain⟨hn,hs⟩:=hn;obtain⟨d,hd⟩:=Option.isSome_iff_exists.1 hs
 cases d<;>simp[Instr.typeAssert,run_underlying hd]
 exact absurd hd (hn _)
theorem exec_mkIface(x:Operand)(t:TypeId)(v:Value)(ho:o.op=.makeInterface t x)(hx:a.eval x=v)(hn:(∀ms,P.underlying t≠some (.interface ms))/\(P.underlying t).isSome=true):(execOp a.eval o).run P w=.ok (.value (.iface t v)) w:=by
 subst hx;unfold execOp;simp only[ho];obtain⟨hn,hs⟩:=hn;obtain⟨d,hd⟩:=Option.isSome_iff_exists.1 hs
 cases d<;>simp[Instr.makeInterface,run_underlying hd]
 exact absurd hd (hn _)
end
theorem flat_take{α:Type}{enc:α->List Value}{k:Nat}(hk:∀x,(enc x).length=k):∀(l:List α)(i:Nat),i<=l.length->(l.flatMap enc).take (i*k)=(l.take i).flatMap enc:=by
 intro l
 induction l with
 |nil=>intro i hi;simp
 |cons x l ih=>
  intro i hi
  cases i with
  |zero=>simp
  |succ i=>
   have hi':i<=l.length:=by simpa using hi
   rw[List.flatMap_cons,List.take_succ_cons,List.flatMap_cons,<-ih i hi',Nat.succ_mul,List.take_append,hk,List.take_of_length_le (by rw[hk];omega),show i*k+k-k=i*k by omega]
theorem wp_gatV{α:Type}{P:Program}{o:Oper}{a:Act}{w:World}{K:Act->World->Prop}{Q:Exit->Act->World->Prop}(enc:α->List Value)(s x:Operand)(t e:TypeId)(z:Value)(k bytes:Nat)(ho:o.op=.call { callee:=.builtin .append,args:=#[s,x],argTypes:=#[t,t] })
 (ht:P.underlying t=some (.slice e))(hi:(P.info? e).map (fun i=>(i.zero,i.size,i.bytes))=some (some z,k,bytes))(hzs:z.cells.size=k)(hk0:0<k)(h1:∀x,∀c∈enc x,c.oneCell'=true)
 (base:Nat)(v:Value)(l:List α)(hs:a.eval s=v)(hown:Gat enc e k base w v l)(u:Value)(m:List α)(hx:a.eval x=u)(hsrc:Src w k u m.length (m.flatMap enc))(h63:l.length+m.length<=maxLen)(hlen:(l.length+m.length)*bytes<=140737488355328)(hbase:base<=w.heap.size)
 (h:∀v' w',Gat enc e k base w' v' (l++m)->Mod (fun q=>v.ownBlock=some q) w w'->(v'.ownBlock=v.ownBlock\/v'.ownBlock=some w.heap.size)->K (a.put o.dst v') w'):o.wp P a w K Q:=by
 refine xJ s x t e z k bytes ho ht hi hzs hk0 base v l.length _ hs hown u m.length _ hx hsrc (fun c hc=>?_) h63 hlen hbase (fun v' w' ho' hg hv=>?_)
 ·obtain⟨y,_,hy⟩:=List.mem_flatMap.1 hc
  exact h1 y c hy
 ·refine h v' w' ?_ ((Mod.refl _ _).grown hg (fun k e _=>e)) hv
  unfold Gat;rw[List.length_append,List.flatMap_append];exact ho'
theorem id_noIface:(∀ms,prog.underlying 24≠some (.interface ms))/\(prog.underlying 24).isSome=true:=⟨fun ms h=>(by rw[underlying24]at h;cases h),by rw[underlying24];rfl⟩
theorem pdg_noIface:(∀ms,prog.underlying 178≠some (.interface ms))/\(prog.underlying 178).isSome=true:=⟨fun ms h=>(by rw[underlying178]at h;cases h),by rw[underlying178];rfl⟩
section
variable{w:World}{hb base:Nat}{v:Value}{l:List (List UInt8)}
theorem dgPush_any(h:DgI w hb base v l)(hbw:base<=w.heap.size)(x:List UInt8)(hx:x.length=32)(hfew:l.length<65536):Calls prog 347 #[.pointer (some ⟨hb,0,none⟩),.iface 24 (.agg (qA x))] w (fun e w'=>e=.returned (.tuple #[])/\DgTo w hb base v (l++[x]) w'):=by
 have H:=hid h;have hbn:=h.ne;have hbs:hb<w.heap.size:=(Array.getElem?_eq_some_iff.1 h.box).1;have hic:(qA x).size=32:=by rw[qB,hx]
 have HE:=hid (idE_eq hx);obtain⟨ad,cap,rfl⟩:=h.row.slice;clear h;go_enter func347,ntmps347;go_upto_region 0 with(fail)
 have hS:Mod (fun k=>(Value.slice ad l.length cap).ownBlock=some k) w w.drew:=(Mod.refl _ _).drew;have HD:=hid (H.out.keep0 (Mod.refl NoB w).drew)
 refine wpRZ [3,3,3,0,3,1,1,1,3,2] [9] (fun w'=>Mod (fun k=>(Value.slice ad l.length cap).ownBlock=some k) w w') hS ?_;simp only[stz]
 refine wpLd 179 hb 0 (fun w' hS=>hS.cell (fun e=>hbn hb e rfl) H.out.cell) underlying179 ?_;simp only[stz]
 refine wpX rfl (exec_assert _ _ 24 (.agg (qA x)) (by rfl) (by rfl) id_noIface) hS ?_;try simp only[nmz]
 refine qL rfl (fun K hK=>?_)
 refine qQ 179 24 _ (.agg (qA x)) (.agg (qA (List.replicate 32 0))) 32 (by rfl) (by rfl) underlying179 (by kernel_rfl) (by omega) (by omega) hic (fun w3 hB3 hm3 hs3=>?_)
 have hsrc:=src_lit (enc:=idE) (e:=24) (x:=x) jM (by rw[HE.out];exact hB3);replace HD:=hid (HD.out.keep0 hm3)
 have hS3:Mod (fun k=>(Value.slice ad l.length cap).ownBlock=some k) w w3:=hS.trans hm3 (fun _ _ h=>h.elim);refine hK _ _ hS3 ?_;clear hK K;try simp only[nmz]
 refine qL rfl (fun K hK=>?_)
 refine wp_gatV idE _ _ 179 24 (.agg (qA (List.replicate 32 0))) 32 32 (by rfl) underlying179 id_i (by kernel_rfl) (by omega) idE_one base _ l (by rfl) HD.out.row _ [x] (by rfl) hsrc (by unfold maxLen;simp;omega) (by simp;omega) (by have:=hS3.size;omega) (fun v4 w4 hg4 hm4 hvv4=>?_)
 have hS4:Mod (fun k=>(Value.slice ad l.length cap).ownBlock=some k) w w4:=hS3.trans hm4 (fun k _ e=>e);have hbx4:=hm4.obj (b:=hb) (fun e=>hbn hb e rfl) HD.out.box
 have hv1:v4.oneCell'=true:=xW hg4
 have hn4:∀q,v4.ownBlock=some q->q≠hb:=fun q hq=>by
  rcases hvv4 with e|e
  ·rw[e]at hq;exact hbn q hq
  ·rw[e]at hq
   have:=Option.some.inj hq;have:=hS3.size;omega
 refine hK _ _ hS4 ?_;clear hK K;simp only[stz];refine zD rfl (fun K hK=>?_)
 refine qR 179 _ _ hb 0 v4 (by rfl) (by rfl) (by rfl) hv1 (by kernel_rfl) _ _ hbx4 (by simp) (fun w5 hB5 hm5=>?_)
 replace hB5:w5.heap[hb]?=some (.cells #[v4] 179 (0,0)):=hB5
 have HR:Hid (DgTo w hb base (.slice ad l.length cap) (l++[x]) w5):=hid ⟨v4,⟨hB5,hg4.keep hm5 (fun q hq e=>hn4 q hq e),fun q hq=>by
  rcases List.mem_append.1 hq with hq|hq
  ·exact H.out.ids q hq
  ·simp at hq;rw[hq];exact hx,hn4,by simp;omega⟩,(hS4.mono (fun _ _ h=>.inr h)).trans hm5 (fun _ _ h=>.inl h),fun q hq=>by
  rcases hvv4 with e|e
  ·rw[e]at hq;exact .inl hq
  ·rw[e]at hq
   have:=Option.some.inj hq;have:=hS3.size
   exact .inr (by omega)⟩
 clear hS hS3 hS4 hm4 hm5 hB3 hm3 hB5 hg4 hbx4 hsrc HD;refine hK _ _ ?_;clear hK K;simp only[stz];go_wp2
 go_end0
 exact⟨rfl,HR.out⟩
def PopR(w:World)(hb base:Nat)(v:Value)(l:List (List UInt8)):Ending->World->Prop:=fun e w'=>e=.returned (.iface 24 (.agg (qA (atD l (l.length-1)))))/\DgTo w hb base v l.dropLast w'
theorem dgPop_any(h:DgI w hb base v l)(hbw:base<=w.heap.size)(hne:0<l.length):Calls prog 346 #[.pointer (some ⟨hb,0,none⟩)] w (PopR w hb base v l):=by
 have H:=hid h;have hbl:=h.ne;have hbhw:hb<w.heap.size:=(Array.getElem?_eq_some_iff.1 h.box).1;have hfew:=h.few
 obtain⟨g,cap,cur,rfl,hg,hci,hszi,hbg,hli,-⟩:=h.at (l.length-1) (by omega);have hrow:=h.row;have hto:=owns_to hrow (i:=l.length-1) (by omega)
 have hcap:l.length<=cap:=by
  rcases hrow.2 with⟨h1,h2⟩|⟨g',cap',cur',h1,h2,h3,h4,h5⟩
  ·omega
  ·cases h1;exact h4
 have hd:l.dropLast=l.take (l.length-1):=List.dropLast_eq_take;have hft:=flat_take jM l (l.length-1) (by omega)
 have hlt:(l.take (l.length-1)).length=l.length-1:=by rw[List.length_take];omega
 unfold PopR;obtain⟨x,hx⟩:∃x,atD l (l.length-1)=x:=⟨_,rfl⟩;have hic:=qB (atD l (l.length-1));rw[hli]at hic;rw[hx]at hic hci hli |-
 obtain⟨n1,hn1⟩:∃n,l.length-1=n:=⟨_,rfl⟩;rw[hn1]at hto hft hlt hci hszi hd;obtain⟨sv,hsv⟩:∃q,sliced (some ⟨g,0,none⟩) 0 n1 cap 32=q:=⟨_,rfl⟩
 have HSV:=hid hsv;rw[hsv]at hto;have HTO:=hid hto;have hs1:sv.oneCell'=true:=by rw[<-hsv];rfl
 have HD:=hid hd;have HFT:=hid hft;have HLT:=hid hlt;clear h hrow hto hsv hd hft hlt hx;go_enter func346,ntmps346;go_upto_region 1 with(fail)
 have hS:Mod NoB w w.drew:=(Mod.refl _ _).drew;refine wpRZ [3,3,0,3,3,0,3,3,3,0,1,2] [11] (fun w'=>Mod NoB w w') hS ?_;simp only[stz]
 refine wpLd 179 hb 0 (fun w' hS=>hS.cell id H.out.cell) underlying179 ?_;simp only[stz];refine wpLd 179 hb 0 (fun w' hS=>hS.cell id H.out.cell) underlying179 ?_
 simp only[nmz];refine wpPL ?_;simp only[nmz];refine zJ _ _ _ _ ((l.length:Nat):Int) 1 (n1:Int) rfl rfl rfl rfl (by omega) (by omega) (by omega) ?_;simp only[nmz]
 refine wpPi_index _ _ _ _ _ _ _ _ _ rfl rfl rfl rfl underlying179 (n:=32) (by kernel_rfl) (by omega) ?_;simp only[nmz]
 refine wpLA 24 g (n1*32) (qA x) (fun w' hS=>hci.keep hS id) underlying24 32 hic ?_;simp only[nmz];refine qL rfl (fun K hK=>?_)
 refine qN 24 _ (by rfl) idZ (fun w3 hB3 hm3 hs3=>?_);replace hB3:w3.heap[w.drew.heap.size]?=some (.cells (qA (List.replicate 32 0)) 24 (0,0)):=hB3
 have hS3:=hS.trans0 hm3;refine hK _ _ hS3 ?_;clear hK K;try simp only[nmz]
 refine zD rfl (fun K hK=>?_)
 refine qF 24 _ _ w.drew.heap.size 0 (qA x) (by rfl) (by rfl) (by rfl) (qP _) 32 (by kernel_rfl) hic _ _ hB3 (by rw[hic,qB];simp) (fun w4 hB4 hm4=>?_)
 rw[qD (by rw[hic,qB];simp)]at hB4;have hS4:Mod NoB w w4:=hS3.transB hm4 hS.size;refine hK _ _ ?_;clear hK K;simp only[stz]
 have hwd:w.heap.size<=w.drew.heap.size:=hS.size;generalize hb3:w.drew.heap.size=b3 at*;have H4:=hid (H.out.keep0 hS4);have HM4:=hid hS4
 clear hS hS3 hS4 hm3 hm4 hB3 hci hg;go_upto_region 2 with(fail);have hS:Mod NoB w4 w4.drew:=(Mod.refl _ _).drew
 refine wpRZ [3,3,3,0,3,3,0,3,3,3,3,2] [11] (fun w'=>Mod NoB w4 w') hS ?_;simp only[stz];refine wpLd 179 hb 0 (fun w' hS=>hS.cell id H4.out.cell) underlying179 ?_
 simp only[stz];refine wpLd 179 hb 0 (fun w' hS=>hS.cell id H4.out.cell) underlying179 ?_;simp only[nmz];refine wpPL ?_;simp only[nmz]
 refine zJ _ _ _ _ ((l.length:Nat):Int) 1 (n1:Int) rfl rfl rfl rfl (by omega) (by omega) (by omega) ?_;simp only[nmz]
 refine jC 179 24 _ _ _ _ _ n1 32 rfl rfl rfl rfl underlying179 (by kernel_rfl) (by omega) ?_;simp only[stz];refine zD rfl (fun K hK=>?_);rw[HSV.out]
 refine qR 179 _ _ hb 0 sv (by rfl) (by rfl) (by rfl) hs1 (by kernel_rfl) _ _ (hS.obj id H4.out.box) (by simp) (fun w5 hB5 hm5=>?_)
 replace hB5:w5.heap[hb]?=some (.cells #[sv] 179 (0,0)):=hB5
 have hM5:Mod (fun k=>k=hb) w w5:=((HM4.out.trans0 hS).mono (fun _ _ h=>h.elim)).trans hm5 (fun _ _ h=>h)
 have hrow5:GatI base w5 sv (l.take n1):=by
  have h1:=HTO.out.1
  have h2:GatI base w sv (l.take n1):=by
   unfold GatI Gat;rw[HLT.out,<-HFT.out];exact h1
  exact h2.keep hM5 (fun q hq e=>hbl q (by rw[<-HTO.out.2];exact hq) e)
 have HR:Hid (DgTo w hb base (.slice (some ⟨g,0,none⟩) l.length cap) l.dropLast w5):=hid ⟨sv,⟨hB5,by rw[HD.out];exact hrow5,fun q hq=>by
  rw[HD.out]at hq
  exact H.out.ids q (List.mem_of_mem_take hq),fun q hq=>hbl q (by rw[<-HTO.out.2];exact hq),by rw[HD.out,HLT.out];omega⟩,hM5.mono (fun _ _ h=>.inl h),fun q hq=>.inl (by rw[<-HTO.out.2];exact hq)⟩
 have hB45:=hm5.objB (b:=b3) (by omega) (hS.obj id hB4);refine hK _ _ ?_;clear hK K;simp only[stz];clear hS hm5 hB5 hM5 hrow5 hB4;go_upto_region 3 with(fail)
 refine wpR [1,1,3] ?_;simp only[stz];refine wpXA 24 b3 0 (qA x) (CellsAt.whole hB45) underlying24 32 hic trivial ?_;try simp only[nmz]
 refine wpX rfl (exec_mkIface _ 24 (.agg (qA x)) (by rfl) (by rfl) id_noIface) trivial ?_;simp only[stz];clear hB45;go_wp2;go_ret;exact⟨rfl,HR.out⟩
end
end
end Go.Proofs.YtjeonjoifjbohaaGreat
