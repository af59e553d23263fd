/- What the statement SweepMarks needs, part 2. -/
import Derived.Lib.Bytealg
import Derived.Lib.UnsafeStr
import Derived.Sort.Grow
import Derived.RangeFuncGives
import Derived.RangeFuncLeaves
import Derived.RangeFuncCalls
import Derived.RangeFuncIn
import Derived.Maps.RangeRun
import Derived.RangeFuncNested
import Derived.Laws.BitsAllLaws
import Derived.Laws.Slices
import Derived.Lib.SliceRun
import Derived.RangeFuncBox
import Derived.RangeFuncBound
import Derived.Great.BuildSlice
import Derived.Shelf.SlSortCmp.InsertionK
import Derived.Shelf.SlIter.Sorted
import Derived.Shelf.SortM.Plain
import Derived.Shelf.SortM.SortNone
import Derived.Ground.GgzProg
import Derived.Ground.SlgmProg
import Derived.Shelf.SlSortCmp.WholeK
import Derived.Ground.SlsfProg
import Derived.Test.YtjeonjoifjbohaaGreatRows
import Derived.Shelf.SlSortCmp.NoneTotal
import Derived.Test.YtjeonjoifjbohaaGreatSweepMarksP1
set_option linter.unusedVariables false
set_option linter.unusedSimpArgs false
set_option linter.unnecessarySimpa false
set_option linter.unusedSectionVars false
set_option maxRecDepth 10000
set_option maxHeartbeats 8000000
namespace Go.Proofs.YtjeonjoifjbohaaGreat
variable{a:Act}{K:Act->iN->Prop}{L:Array Bool}{ops:Array Oper}{oa ob:Bool}{Q:Exit->Act->iN->Prop}{f:FuncId}{ps:List (Nat×Value)}{r:List (Oper×Nat)}{tl:List Nat}{a' b' d e i id j k m most n off t:Nat}{o oi:Oper}{P:Program}{T:TypeId}{u v:Value}{R:iJ}{b c l x xs y:iK}{args cur:iL}{G Ga Gb:iM}{w w' w0 w1 w2:iN}{S:iN->Prop}
section
open Go.RowKit Go.Proofs.Tryz Go.Lib
def Grown(w w':iN):Prop:=∃q os,w'=Sort.grow (w.drewN q) os
theorem Grown.refl(w:iN):Grown w w:=⟨0,#[],by simp[Sort.grow,World.drewN]⟩
theorem Grown.trans{a b c:iN}(h:Grown a b)(k:Grown b c):Grown a c:=by
 obtain⟨q,os,rfl⟩:=h;obtain⟨q',os',rfl⟩:=k;exact⟨q+q',os++os',by simp[Sort.grow,World.drewN,Array.append_assoc,Nat.add_assoc]⟩
theorem Grown.alloc{a b:iN}(h:Grown a b)(o:Obj):Grown a (b.alloc o):=h.trans ⟨0,#[o],by rw[Sort.alloc_eq_grow];rfl⟩
theorem Grown.drew{a b:iN}(h:Grown a b):Grown a b.drew:=h.trans ⟨1,#[],by simp only[Sort.grow,World.drewN,Array.append_empty];rfl⟩
theorem Grown.mod(h:Grown w w'):Mod qJ w w':=by
 obtain⟨q,os,rfl⟩:=h;refine⟨rfl,rfl,rfl,by simp[Sort.grow,World.drewN],fun k hk _=>?_⟩;simp only[Sort.grow,World.drewN];rw[Array.getElem?_append_left hk]
theorem mod_drew(w:iN):Mod qJ w w.drew:=(Mod.refl _ _).drew
def RetG(v:Value)(w:iN):iJ:=fun e w'=>e=.returned v/\Grown w w'
theorem wp_boxG(elem:TypeId)(x:Operand)(v:Value)(ho:o.op=.box elem x)(hx:a.eval x=v)
 (h:∀w',w'.heap[w.heap.size]?=some (.cells v.cells elem (0,0))->Grown w w'->w.heap.size<w'.heap.size->K (a.put o.dst (iO w.heap.size)) w'):o.wp P a w K Q:=by
 unfold Oper.wp execOp;simp only[ho,hx]
 have hr:(Instr.box elem v).run P w=.ok (iO w.heap.size) (w.alloc (.cells v.cells elem)):=by
  simp[Instr.box,newVar,newRow]
 simp only[Sem.run_bind,hr,Result.andThen_ok,Sem.run_pure];exact h _ (heap_alloc_new _ _) ((Grown.refl _).alloc _) (by simp)
theorem jC{α:Type}[DecidableEq α]:∀{l m:List α},l.Nodup->(∀x∈l,x∈m)->l.length<=m.length
 | [],_,_,_=>by simp
 |x::l,m,hn,hs=>by
  rw[List.nodup_cons]at hn;have hx:=hs x (by simp)
  have:=jC (m:=m.erase x) hn.2 fun y hy=>by
   have hne:y≠x:=by rintro rfl;exact hn.1 hy
   exact(List.mem_erase_of_ne hne).2 (hs y (by simp[hy]))
  have hl:=List.length_erase_of_mem hx;have hp:0<m.length:=List.length_pos_iff.2 (by rintro rfl;cases hx);simp only[List.length_cons];omega
def uW(a b:iK):Int:=Lib.compareBytes a b
theorem cmpI_lt(a b:iK):uW a b=-1\/uW a b=0\/uW a b=1:=by
 induction a generalizing b with
 |nil=>cases b<;>simp[uW,Lib.compareBytes]
 |cons x a ih=>
  cases b with
  |nil=>simp[uW,Lib.compareBytes]
  |cons y b=>
   simp only[uW,Lib.compareBytes]
   split
   ·simp
   ·split
    ·simp
    ·exact ih b
theorem iB(a b:iK):uW a b=if Op.bytesLess a b then-1 else if a=b then 0 else 1:=by
 induction a generalizing b with
 |nil=>cases b<;>simp[uW,Lib.compareBytes,Op.bytesLess]
 |cons x a ih=>
  cases b with
  |nil=>simp[uW,Lib.compareBytes,Op.bytesLess]
  |cons y b=>
   have:=ih b;simp only[uW]at this;simp only[uW,Lib.compareBytes,Op.bytesLess,Bool.or_eq_true,decide_eq_true_eq,Bool.and_eq_true,beq_iff_eq,List.cons.injEq]
   rcases Nat.lt_trichotomy x.toNat y.toNat with h|h|h
   ·have h1:x<y:=h
    simp[h1]
   ·have h1:x=y:=UInt8.toNat_inj.1 h
    subst h1
    simp[this]
   ·have h1:y<x:=h
    have h2:¬x<y:=fun h3=>by have h3:x.toNat<y.toNat:=h3;omega
    have h3:¬x=y:=fun e=>by subst e;omega
    simp[h1,h2,h3]
theorem rZ(a b:iK):uW a b<0↔a<b:=by
 induction a generalizing b with
 |nil=>cases b<;>simp[uW,Lib.compareBytes]
 |cons x a ih=>
  cases b with
  |nil=>simp[uW,Lib.compareBytes]
  |cons y b=>
   have:=ih b;simp only[uW]at this;simp only[uW,Lib.compareBytes,List.cons_lt_cons_iff]
   rcases Nat.lt_trichotomy x.toNat y.toNat with h|h|h
   ·have h1:x<y:=h
    simp[h1]
   ·have h1:x=y:=UInt8.toNat_inj.1 h
    subst h1;have h2:¬x<x:=fun h3=>by have h3:x.toNat<x.toNat:=h3;omega
    simp[this,h2]
   ·have h1:y<x:=h
    have h2:¬x<y:=fun h3=>by have h3:x.toNat<y.toNat:=h3;omega
    have h3:¬x=y:=fun e=>by subst e;omega
    simp[h1,h2,h3]
theorem tT(a b:iK):uW a b=0↔a=b:=by
 rw[iB]
 constructor
 ·intro h
  split at h
  ·cases h
  ·split at h
   ·assumption
   ·cases h
 ·rintro rfl
  have h:¬uW a a<0:=by rw[rZ];exact List.lt_irrefl a
  split
  ·rename_i hb
   rw[iB,if_pos hb]at h;omega
  ·simp
theorem toL(s:ByteArray):s.toList=s.data.toList:=ByteArray.toList_eq s
def orI(x y:Int):Int:=if x≠0 then x else y
theorem eP{P:Program}{w:iN}:∀(l:iK)(a:Addr)(acc:ByteArray),(∀j x,l[j]?=some x->w.cell? (a.add j)=some (qW x))->
 (Extern.Bytes.loadBytes a l.length acc).run P w=.ok ⟨acc.data++l.toArray⟩ w
 | [],a,acc,_=>by simp[Extern.Bytes.loadBytes]
 |x::l,a,acc,h=>by
  have h0:w.cell? a=some (qW x):=by
   have:=h 0 x rfl
   simpa[Addr.add]using this
  have ih:=eP (P:=P) (w:=w) l (a.add 1) (acc.push x) (fun j y hy=>by
   have:=h (j+1) y (by simpa using hy)
   have e:(a.add 1).add j=a.add (j+1):=by
    unfold Addr.add
    by_cases hj:j=0
    ·subst hj;simp
    ·simp[hj];omega
   rw[e];exact this)
  have hx:((x.toNat:Int).toNat).toUInt8=x:=by simp
  simp only[qW]at h0;simp only[List.length_cons,Extern.Bytes.loadBytes,Sem.run_bind,run_load,h0,Result.andThen,hx];rw[ih]
  congr 1
  apply ByteArray.ext
  simp[ByteArray.push]
theorem eR{own:Bool}(h:Sl own w G 1 yA v l):(Extern.Bytes.bytesOf v).run P w=.ok ⟨l.toArray⟩ w:=by
 obtain⟨a,cap,rfl,hl,hc,h⟩:=h
 by_cases hne:l=[]
 ·subst hne
  cases a with
  |none=>rfl
  |some a=>simp[Extern.Bytes.bytesOf,loadBytes];rfl
 ·obtain⟨b,off,rfl,-,-,h⟩:=h hne
  have:=eP (P:=P) (w:=w) l ⟨b,off,none⟩ .empty (fun j x hj=>by
   obtain⟨hj',hx⟩:=List.getElem?_eq_some_iff.1 hj;obtain⟨cs,-,hR,hc⟩:=h j hj';rw[hR,hx]at hc;have:=CellsAt.one.1 hc;rw[Nat.mul_one]at this;unfold Addr.add
   split
   ·rename_i h0;subst h0;simpa using this
   ·exact this)
  simpa[Extern.Bytes.bytesOf]using this
theorem exec_extern(f:FuncId)(fn:Func)(e:iL->Sem Value)(args:List Operand)(ts:Array TypeId)(ho:o.op=.call { callee:=.value (.func f),args:=args.toArray,argTypes:=ts })(hf:P.funcs[f]?=some fn)(hname:(fn.name== "runtime.NumGoroutine")=false)
 (hb:fn.body.isNone=true)(hn:Extern.findNext fn=none)(he:Extern.find fn=some e)(vs:List Value)(hvs:args.map a.eval=vs)(v:Value)(hv:(e vs.toArray).run P w=.ok v w):(execOp a.eval o).run P w=.ok (.value v) w:=by
 subst hvs;unfold execOp;have hr:=run_callFunc_extern hf hname hb hn he (args.map a.eval).toArray w;rw[hv]at hr
 simp[ho,resolve,invoke,Act.eval,Deferred.ofValue,hr]
theorem bytealg_run(hx:Sl oa w Ga 1 yA u x)(hy:Sl ob w Gb 1 yA v y):
 (Extern.BytealgCompare.compare #[u,v]).run prog w=.ok (.int .i64 (uW x y)) w:=by
 show(do pure (goInt (Extern.BytealgCompare.cmp (<-Extern.Bytes.bytesOf u) (<-Extern.Bytes.bytesOf v))):Sem Value).run prog w=_
 simp only[Sem.run_bind,eR hx,eR hy,Result.andThen_ok,Sem.run_pure,Lib.cmp_eq]
 rfl
theorem bytesCompare_any(hx:Sl oa w Ga 1 yA u x)(hy:Sl ob w Gb 1 yA v y):
 Calls prog 94 #[u,v] w (pT (.int .i64 (uW x y)) w):=by
 have hr:=bytealg_run hx hy;go_enter func94,ntmps94;go_upto_region 1 with(fail);refine qL [3,3,1,3] ?_;simp only[qB]
 refine cF rfl (exec_extern 181 _ Extern.BytealgCompare.compare [_,_] _ (by rfl) func181 (by kernel_rfl) (by kernel_rfl) (by kernel_rfl) (by kernel_rfl) [u,v] (by rfl) _ hr) trivial ?_
 simp only[qB];go_wp2;go_ret;exact⟨rfl,rfl⟩
theorem exec_sliceA(t e:TypeId)(x:Operand)(b off n:Nat)(ho:o.op=.slice t x none none none)(hx:a.eval x=.pointer (some ⟨b,off,none⟩))(ht:P.underlying t=some (.array n e))(he:(P.info? e).map (·.size)=some 1):
 (execOp a.eval o).run P w=.ok (.value (.slice (some ⟨b,off,none⟩) n n)) w:=by
 have h1:P.arrayLen t=n:=by simp[Program.arrayLen,ht]
 have h2:P.elem t=e:=by simp[Program.elem,ht]
 have h3:(sizeOf e).run P w=.ok 1 w:=by
  cases hq:P.info? e with
  |none=>simp[hq]at he
  |some j=>simp[hq]at he;simp[sizeOf,typeInfo,hq,he]
 have h:=run_sliceAt_array_all (P:=P) w t ⟨b,off,none⟩ (by rw[h1,h2];exact ht);rw[h2,h3,h1]at h;unfold execOp
 have hm:(match(none:Option Operand)with|some z=>some (a.eval z)|none=>none)=none:=rfl
 simp only[ho,hx,Option.map_none,Sem.run_bind,h,Result.andThen_ok,Sem.run_pure]
 simp[slicedAt,Addr.add]
theorem sl_idCells{b:Nat}(h:CellsAt w b off (qA x))(hx:x.length=32):Sl false w (fun k=>k=b) 1 yA (.slice (some ⟨b,off,none⟩) 32 32) x:=by
 refine⟨some ⟨b,off,none⟩,32,by rw[hx],by omega,by unfold maxLen;omega,fun _=>⟨b,off,rfl,rfl,fun h=>(by cases h),fun i hi=>⟨#[qW x[i]],rfl,rfl,?_⟩⟩⟩
 rw[Nat.mul_one,CellsAt.one];exact h.cell (by simp[qA,hi])
theorem eO(x y:iK)(hx:x.length=32)(hy:y.length=32)(w:iN):Calls prog 35 #[.agg (qA x),.agg (qA y)] w (RetG (.int .i64 (uW x y)) w):=by
 go_enter func35,ntmps35;go_upto_region 0 with(fail);refine qL [1,1,3] ?_;simp only[qB];refine qK (wp_boxG 24 _ _ (by rfl) (by rfl) (fun w1 hB1 hm1 hs1=>?_))
 replace hB1:w1.heap[w.heap.size]?=some (.cells (qA x) 24 (0,0)):=hB1;try simp only[qC]
 refine qK (wp_boxG 24 _ _ (by rfl) (by rfl) (fun w2 hB2 hm2 hs2=>?_));replace hB2:w2.heap[w1.heap.size]?=some (.cells (qA y) 24 (0,0)):=hB2;simp only[qB]
 have hG:=(hm1.trans hm2).drew;have hX:=sl_idCells (CellsAt.whole ((mod_drew w2).obj id (hm2.mod.obj id hB1))) hx
 have hY:=sl_idCells (CellsAt.whole ((mod_drew w2).obj id hB2)) hy;go_upto_region 1 with(fail);refine zZ [3,3,1,3] [] (fun _=>True) trivial ?_;simp only[qB]
 refine qM (v:=.slice (some ⟨w.heap.size,0,none⟩) 32 32) rfl (fun w'=>exec_sliceA 24 5 _ _ _ 32 rfl rfl underlying24 (by kernel_rfl)) ?_;simp only[qC]
 refine qM (v:=.slice (some ⟨w1.heap.size,0,none⟩) 32 32) rfl (fun w'=>exec_sliceA 24 5 _ _ _ 32 rfl rfl underlying24 (by kernel_rfl)) ?_;simp only[qC]
 refine kS rfl ?_;go_wp2_with (go_at_call 94;refine(bytesCompare_any hX hY).mono ?_;rintro _ w3 ⟨rfl,hw⟩;obtain rfl:=hw.symm);simp only[qB];go_wp2;go_ret;exact⟨rfl,hG⟩
def dE(a b:uN):Int:=orI (uW a.1.data.toList b.1.data.toList) (uW a.2 b.2)
end
section
open Go.RowKit Go.Shelf Go.Proofs.Tryz Go.Lib
section
variable{P:Program}{o:Oper}{a:Act}{w:iN}{K:Act->iN->Prop}{Q:Exit->Act->iN->Prop}{n:Nat}
theorem yE(hd:∀c,o.op≠.defer c)(h:o.wp P a w K Q):o.wpIn Fence.wide n P a w K Q:=by
 unfold Oper.wpIn;refine⟨fun _ _=>trivial,?_⟩;rw[Oper.semAt_eq _ _ _ hd];unfold Oper.wp at h;generalize (execOp a.eval o).run P w=r at h |-
 cases r with
 |halt x w'=>cases x<;>simp only[Oper.upon,Oper.uponIn]at h ⊢<;>exact h
 |ok x w'=>
  cases x<;>simp only[Oper.upon,Oper.uponIn]at h |-
  case value=>exact h
  case skip=>exact h
  case defer=>exact h
  case enter f args=>
   refine⟨fun h=>by simp[Fence.wide]at h,callsIn_wide.2 (Calls.mono h fun e w'' he=>?_)⟩
   cases e<;>exact he
  case row row args=>exact⟨fun h=>by simp[Fence.wide]at h,fun c cs _=>by obtain⟨v,w',r,s⟩:=h c cs;exact⟨v,w',r,stepsIn_wide.2 s⟩⟩
theorem wpIn_round_of_wp{l:Nat}(hd:∀c,o.op≠.defer c)(hr:∀row args w',(execOp a.eval o).run P w≠.ok (.row row args) w')(h:o.wp P a w K Q):o.wpIn (Fence.wide.inRound l) n P a w K Q:=by
 unfold Oper.wpIn;refine⟨fun _ _=>trivial,?_⟩;rw[Oper.semAt_eq _ _ _ hd];unfold Oper.wp at h;generalize (execOp a.eval o).run P w=r at h hr |-
 cases r with
 |halt x w'=>cases x<;>simp only[Oper.upon,Oper.uponIn]at h ⊢<;>exact h
 |ok x w'=>
  cases x<;>simp only[Oper.upon,Oper.uponIn]at h |-
  case value=>exact h
  case skip=>exact h
  case defer=>exact h
  case enter f args=>
   refine⟨fun h=>by simp[Fence.wide]at h,CallsIn.inRound l (callsIn_wide.2 (Calls.mono h fun e w'' he=>?_))⟩
   cases e<;>exact he
  case row row args=>exact absurd rfl (hr _ _ _)
theorem aC{l:Nat}(x y:Operand)(ts:Array TypeId)(ho:o.op=.call { callee:=.value x,args:=#[y],argTypes:=ts })(hx:a.eval x=.func (.yield l) #[] #[])(v:Value)(hv:a.eval y=v)
 (hy:YieldAt Fence.wide (n-1) P l #[v] w R)(hR:∀e w',R e w'->∃v,e=.returned v/\K (a.put o.dst v) w'):o.wpIn Fence.wide n P a w K Q:=by
 subst hv;obtain⟨fn,tmps,assign,body,hrun,hround⟩:=hy;unfold Oper.wpIn;refine⟨fun _ _=>trivial,?_⟩;rw[Oper.semAt_eq _ _ _ (fun c h=>by rw[ho]at h;cases h)]
 have e:(execOp a.eval o).run P w=.ok (.round l fn tmps assign body) w:=by
  unfold execOp
  simp[ho,resolve,hx,Deferred.ofValue,invoke,hrun]
 rw[e];refine⟨fun h=>by simp[Fence.wide]at h,hround.mono fun e w' he=>?_⟩;obtain⟨v,rfl,hk⟩:=hR e w' he;exact hk
def rowlessOp:Op->Bool
 | .move _| .assign _| .alloc _| .box _ _| .build _ _| .buildSlice _ _ _| .load _ _| .store _ _ _| .binOp _ _ _ _ _| .unOp _ _ _| .fieldAddr _ _ _| .field _ _ _| .indexAddr _ _ _| .index _ _ _| .lookup _ _ _ _| .mapUpdate _ _ _ _| .range _ _| .next _ _| .entry _| .slice _ _ _ _ _| .convert _ _ _| .makeFunc _ _ _| .extract _ _=>true
 | .call c=>match c.callee with| .builtin .append| .builtin .len| .builtin .delete=>true|_=>false
 |_=>false
theorem rowless(h:rowlessOp o.op=true):∀row args w',(execOp a.eval o).run P w≠.ok (.row row args) w':=by
 intro row args w'
 have hv:∀(s:Sem Value),(do pure (.value (<-s)):Sem Next).run P w≠.ok (.row row args) w':=fun s=>by
  rw[Sem.run_bind];generalize s.run P w=r
  cases r<;>simp[Result.andThen]
 have hu:∀(s:Sem Unit),(do s;pure .skip:Sem Next).run P w≠.ok (.row row args) w':=fun s=>by
  rw[Sem.run_bind];generalize s.run P w=r
  cases r<;>simp[Result.andThen]
 unfold execOp
 cases ho:o.op<;>simp only[ho,rowlessOp]at h ⊢<;>first|exact hv _|exact hu _|(cases h;done)|skip
 case move=>simp
 case assign=>simp
 case call c=>
  split at h
  all_goals first|(cases h;done)|skip
  all_goals
   rename_i hc
   simp only[resolve,hc,invoke,builtin,Sem.run_bind,Sem.run_pure,Result.andThen_ok];generalize Sem.run P _ w=r
   cases r<;>simp[Result.andThen]
theorem zW{l:Nat}{rest:List Oper}(hg:o.guard=none)(hr:rowlessOp o.op=true)
 (h:∀K:Act->iN->Prop,(∀a w,wpListIn (Fence.wide.inRound l) n P ops Q rest a w->K a w)->o.wp P a w K Q):wpListIn (Fence.wide.inRound l) n P ops Q (o::rest) a w:=
 wpListIn_plain hg fun K hK=>wpIn_round_of_wp (fun c e=>by rw[e]at hr;cases hr) (rowless hr) (h K hK)
theorem Mod.keepsOthers{S:iM}(h:Mod S w w')(hS:∀k o,S k->w.heap[k]?=some o->o.isCells=true):KeepsOthers w w':=
 ⟨h.size,fun k o hk ho=>(h.obj (fun hs=>by rw[hS k o hs hk]at ho;cases ho) hk)⟩
theorem Mod.keepsOthers0(h:Mod qJ w w'):KeepsOthers w w':=h.keepsOthers fun _ _ h=>h.elim
theorem Mod.below0(h:Mod qJ w w'):Below w.heap.size w w':=h.below fun _ _=>id
theorem Mod.grownNone(h:Mod qJ w w'):w.grownBy w' none:=⟨h.os,h.tape,h.output,h.size,fun k hk _=>h.block k hk id⟩
theorem Mod.grownAt{r:Nat}(h:Mod (fun k=>k=r) w w'):w.grownBy w' (some r):=⟨h.os,h.tape,h.output,h.size,fun k hk hn=>h.block k hk (fun e=>hn (by rw[e]))⟩
theorem Mod.of_grown{S:iM}{row:Option Nat}(h:w.grownBy w' row)(hr:∀r,row=some r->S r):Mod S w w':=⟨h.os,h.tape,h.output,h.size,fun k hk hn=>h.block k hk (fun e=>hn (hr k e.symm))⟩
theorem wp_rangeM(t kt et:TypeId)(x:Operand)(mb:Nat)(es:Array MapEntry)(clk:Nat)(ho:o.op=.range t x)(hx:a.eval x=.map (some mb))(ht:P.underlying t=some (.map kt et))(hb:w.heap[mb]?=some (.map es clk))
 (h:∀w',w'.heap[w.heap.size]?=some (.mapIter (some mb) clk #[] clk)->Mod qJ w w'->w.heap.size<w'.heap.size->K (a.put o.dst (iO w.heap.size)) w'):o.wp P a w K Q:=by
 unfold Oper.wp execOp
 have hr:(Instr.range t (.map (some mb))).run P w=.ok (iO w.heap.size) (w.alloc (.mapIter (some mb) clk #[] clk)):=by
  simp[Instr.range,run_underlying ht,newObj,getObj,Sem.run,hb]
 simp only[ho,hx,Sem.run_bind,hr,Result.andThen_ok,Sem.run_pure];exact h _ (heap_alloc_new _ _) (zI _ _) (by simp)
def sA(w:iN)(mb it:Nat)(es:Array MapEntry)(clk:Nat)(xs:List MapEntry):Prop:=
 w.heap[mb]?=some (.map es clk)/\∃c0,clk<=c0/\w.heap[it]?=some (.mapIter (some mb) clk ⟨xs.map (·.born)⟩ c0)/\(∀x∈xs,x∈es.toList)/\(xs.map (·.born)).Nodup
theorem born_inj:∀{l:List MapEntry},(l.map (·.born)).Nodup->∀{x y:MapEntry},x∈l->y∈l->x.born=y.born->x=y:=fun h x y hx hy e=>tP (f:=fun(e:MapEntry)=>e.born) h hx hy e
theorem wp_nextM(x:Operand)(mb it:Nat)(es:Array MapEntry)(clk:Nat)(xs:List MapEntry)(ho:o.op=.next x false)(hx:a.eval x=iO it)(hI:sA w mb it es clk xs)(hbo:∀x∈es.toList,x.born<clk)(hbn:(es.toList.map (·.born)).Nodup)
 (hDone:xs.Perm es.toList->K (a.put o.dst (.tuple #[.bool false])) w)
 (hMore:∀e w',e∈es.toList->sA w' mb it es clk (xs++[e])->xs.length<es.size->Mod (fun j=>j=it) w w'->w.heap.size=w'.heap.size->w'.heap[it]?=some (.mapIter (some mb) clk ((⟨xs.map (·.born)⟩:Array Nat).push e.born) clk)->K (a.put o.dst (.tuple #[.bool true,e.key,e.val])) w'):o.wp P a w K Q:=by
 obtain⟨hb,c0,hc0,hit,hsub,hnd⟩:=hI;have hne:it≠mb:=by rintro rfl;rw[hb]at hit;cases hit
 have hseen:∀e:MapEntry,(⟨xs.map (·.born)⟩:Array Nat).contains e.born=true↔e.born∈xs.map (·.born):=fun e=>by simp[Array.contains_iff_mem]
 unfold Oper.wp execOp
 rcases run_next_at (P:=P) w o.type it mb clk c0 ⟨xs.map (·.born)⟩ es clk hit hb hbo hc0 with⟨h0,hrun⟩|⟨e,he,w1,hw1,hrun⟩
 ·simp only[ho,hx,Sem.run_bind,hrun,Result.andThen_ok,Sem.run_pure]
  refine hDone ?_
  have hall:∀e∈es.toList,e∈xs:=by
   intro e he
   have hnot:e∉(_root_.Go.leftOf es ⟨xs.map (·.born)⟩).toList:=by
    have:_root_.Go.leftOf es ⟨xs.map (·.born)⟩=#[]:=Array.eq_empty_of_size_eq_zero h0;rw[this];simp
   have hin:e.born∈xs.map (·.born):=by
    rw[<-hseen];unfold _root_.Go.leftOf at hnot;simp only[Array.toList_filter,List.mem_filter,he,true_and]at hnot
    simpa using hnot
   obtain⟨y,hy,e1⟩:=List.mem_map.1 hin;exact born_inj hbn he (hsub y hy) e1.symm▸hy
  have hxs:xs.Nodup:=(List.pairwise_map.1 hnd).imp fun hne e=>hne (by rw[e]);have hes:es.toList.Nodup:=(List.pairwise_map.1 hbn).imp fun hne e=>hne (by rw[e])
  exact(List.perm_ext_iff_of_nodup hxs hes).2 fun e=>⟨hsub e,hall e⟩
 ·simp only[ho,hx,Sem.run_bind,hrun,Result.andThen_ok,Sem.run_pure]
  have heM:e∈es.toList/\e.born∉xs.map (·.born):=by
   unfold _root_.Go.leftOf at he;simp only[Array.toList_filter,List.mem_filter]at he;refine⟨he.1,fun hin=>?_⟩
   have h2:(!((⟨xs.map (·.born)⟩:Array Nat).contains e.born))=true:=he.2;rw[(hseen e).2 hin]at h2
   cases h2
  have h1:w1.heap=w.heap:=by rcases hw1 with rfl|rfl<;>rfl
  have hlt:it<w.heap.size:=(Array.getElem?_eq_some_iff.1 hit).1
  have hnd':((xs++[e]).map (·.born)).Nodup:=by
   rw[List.map_append,List.nodup_append];exact⟨hnd,by simp,by intro x hx y hy;simp at hy;subst hy;rintro rfl;exact heM.2 hx⟩
  have hit':(ChangeMaps.setBlock w1 it (.mapIter (some mb) clk ((⟨xs.map (·.born)⟩:Array Nat).push e.born) clk)).heap[it]?=some (.mapIter (some mb) clk ((⟨xs.map (·.born)⟩:Array Nat).push e.born) clk):=by
   simp[ChangeMaps.setBlock,h1,hlt]
  have hoth:∀j,j≠it->(ChangeMaps.setBlock w1 it (.mapIter (some mb) clk ((⟨xs.map (·.born)⟩:Array Nat).push e.born) clk)).heap[j]?=w.heap[j]?:=fun j hj=>by
   simp[ChangeMaps.setBlock,h1,Array.getElem?_setIfInBounds,Ne.symm hj]
  have hmem:∀x∈xs++[e],x∈es.toList:=fun x hx=>by
   rcases List.mem_append.1 hx with hx|hx
   ·exact hsub x hx
   ·simp at hx;subst hx;exact heM.1
  refine hMore e _ heM.1 ⟨(hoth mb (Ne.symm hne)).trans hb,clk,Nat.le_refl _,by rw[hit'];simp,hmem,hnd'⟩ ?_ ⟨?_,?_,?_,?_,fun j _ hj=>hoth j hj⟩ ?_ hit'
  ·have:=jC (l:=(xs++[e]).map (·.born)) (m:=es.toList.map (·.born)) hnd' (fun b hb=>by
    obtain⟨x,hx,rfl⟩:=List.mem_map.1 hb
    exact List.mem_map.2 ⟨x,hmem x hx,rfl⟩)
   simp at this;omega
  ·rcases hw1 with rfl|rfl<;>rfl
  ·rcases hw1 with rfl|rfl<;>rfl
  ·rcases hw1 with rfl|rfl<;>rfl
  ·simp[ChangeMaps.setBlock,h1]
  ·simp[ChangeMaps.setBlock,h1]
theorem fB(x:Operand)(mb it:Nat)(es:Array MapEntry)(clk:Nat)(e:MapEntry)(seen:Array Nat)(ho:o.op=.entry x)(hx:a.eval x=iO it)(hb:w.heap[mb]?=some (.map es clk))(hit:w.heap[it]?=some (.mapIter (some mb) clk (seen.push e.born) clk))(he:e∈es.toList)(hbn:(es.toList.map (·.born)).Nodup):
 (execOp a.eval o).run P w=.ok (.value (.tuple #[e.key,e.val])) w:=by
 unfold execOp;simp only[ho,hx,Sem.run_bind,run_entry_at (P:=P) w it mb clk seen es clk e hit hb he hbn,Result.andThen_ok,Sem.run_pure]
end
theorem dA(x:Operand)(ho:o.op=.move x):(execOp a.eval o).run P w=.ok (.value (a.eval x)) w:=by
 unfold execOp;simp only[ho];rfl
theorem sW(x:Operand)(t:TypeId)(b:Bool)(ho:o.op=.unOp .not t x)(hx:a.eval x=.bool b):(execOp a.eval o).run P w=.ok (.value (.bool (!b))) w:=by
 unfold execOp;simp[ho,hx,Op.unary]
theorem byteV_inj{a b:UInt8}(h:qW a=qW b):a=b:=by
 simp only[qW,Value.int.injEq,true_and]at h;exact UInt8.toNat_inj.1 (by omega)
theorem dec_of{α:Type}[Nonempty α]{enc:α->Value}(hi:∀a b,enc a=enc b->a=b):∃dec:Value->α,∀x,dec (enc x)=x:=
 ⟨fun v=>Classical.epsilon fun x=>enc x=v,fun x=>hi _ _ (Classical.epsilon_spec (p:=fun y=>enc y=enc x) ⟨x,rfl⟩)⟩
theorem eV{α:Type}[Nonempty α]{enc:α->Value}(hi:∀a b,enc a=enc b->a=b){l m:List α}(h:(l.map enc).Perm (m.map enc)):l.Perm m:=by
 obtain⟨dec,hd⟩:=dec_of hi;have:=h.map dec
 simpa[List.map_map,Function.comp_def,hd]using this
theorem Mod.of_below0(h:Below w.heap.size w w'):Mod qJ w w':=(Mod.of_below h).mono fun k hk hn=>by omega
abbrev KeyS:={k:uN//kH k}
instance:Inhabited KeyS:=⟨⟨(⟨#[]⟩,List.replicate 32 0),by simp[kH]⟩⟩
def aF(it n:Nat)(w:iN):Nat:=match w.heap[it]? with|some (.mapIter _ _ seen _)=>n-seen.size|_=>0
theorem rB{it mb clk c0:Nat}{seen:Array Nat}(h:w.heap[it]?=some (.mapIter (some mb) clk seen c0)):aF it n w=n-seen.size:=by simp[aF,h]
end
section
open Go.RowKit Go.Proofs.Tryz Go.Lib
def shlU(x:UInt32)(n:Nat):UInt32:=UInt32.ofNat (x.toNat*2^n)
def shrU(x:UInt32)(n:Nat):UInt32:=UInt32.ofNat (x.toNat/2^n)
def gX(x:UInt32)(n:Nat):UInt32:=shlU x (32-n) ||| shrU x n
def byteW(b:UInt8):UInt32:=UInt32.ofNat b.toNat
structure W8 where
 a:UInt32
 b:UInt32
 c:UInt32
 d:UInt32
 e:UInt32
 f:UInt32
 g:UInt32
 h:UInt32
deriving DecidableEq
def W8.list(s:W8):List UInt32:=[s.a,s.b,s.c,s.d,s.e,s.f,s.g,s.h]
def shaBegin:W8:=⟨0x6a09e667,0xbb67ae85,0x3c6ef372,0xa54ff53a,0x510e527f,0x9b05688c,0x1f83d9ab,0x5be0cd19⟩
def shaKeys:List UInt32:=[
 0x428a2f98,0x71374491,0xb5c0fbcf,0xe9b5dba5,0x3956c25b,0x59f111f1,0x923f82a4,0xab1c5ed5,
 0xd807aa98,0x12835b01,0x243185be,0x550c7dc3,0x72be5d74,0x80deb1fe,0x9bdc06a7,0xc19bf174,
 0xe49b69c1,0xefbe4786,0x0fc19dc6,0x240ca1cc,0x2de92c6f,0x4a7484aa,0x5cb0a9dc,0x76f988da,
 0x983e5152,0xa831c66d,0xb00327c8,0xbf597fc7,0xc6e00bf3,0xd5a79147,0x06ca6351,0x14292967,
 0x27b70a85,0x2e1b2138,0x4d2c6dfc,0x53380d13,0x650a7354,0x766a0abb,0x81c2c92e,0x92722c85,
 0xa2bfe8a1,0xa81a664b,0xc24b8b70,0xc76c51a3,0xd192e819,0xd6990624,0xf40e3585,0x106aa070,
 0x19a4c116,0x1e376c08,0x2748774c,0x34b0bcb5,0x391c0cb3,0x4ed8aa4a,0x5b9cca4f,0x682e6ff3,
 0x748f82ee,0x78a5636f,0x84c87814,0x8cc70208,0x90befffa,0xa4506ceb,0xbef9a3f7,0xc67178f2]
def wordAt(b:iK)(i:Nat):UInt32:=
 ((shlU (byteW (b.getD (4*i) 0)) 24 ||| shlU (byteW (b.getD (4*i+1) 0)) 16) ||| shlU (byteW (b.getD (4*i+2) 0)) 8) ||| byteW (b.getD (4*i+3) 0)
def sig0(x:UInt32):UInt32:=(gX x 7 ^^^ gX x 18) ^^^ shrU x 3
def sig1(x:UInt32):UInt32:=(gX x 17 ^^^ gX x 19) ^^^ shrU x 10
def wordNext(w:List UInt32)(i:Nat):UInt32:=((w.getD (i-16) 0+sig0 (w.getD (i-15) 0))+w.getD (i-7) 0)+sig1 (w.getD (i-2) 0)
def xW(b:iK):Nat->List UInt32
 |0=>[]
 |i+1=>xW b i++[if i<16 then wordAt b i else wordNext (xW b i) i]
theorem pA(b:iK):∀n,(xW b n).length=n
 |0=>rfl
 |n+1=>by simp[xW,pA b n]
def roundX(c:W8)(k w:UInt32):UInt32:=(((c.h+((gX c.e 6 ^^^ gX c.e 11) ^^^ gX c.e 25))+((c.e &&& c.f) ^^^ ((4294967295 ^^^ c.e) &&& c.g)))+k)+w
def roundY(c:W8):UInt32:=((gX c.a 2 ^^^ gX c.a 13) ^^^ gX c.a 22)+(((c.a &&& c.b) ^^^ (c.a &&& c.c)) ^^^ (c.b &&& c.c))
def round(c:W8)(k w:UInt32):W8:=⟨roundX c k w+roundY c,c.a,c.b,c.c,c.d+roundX c k w,c.e,c.f,c.g⟩
def bR(ks ws:List UInt32):Nat->W8->W8
 |0,c=>c
 |i+1,c=>round (bR ks ws i c) (ks.getD i 0) (ws.getD i 0)
def gA(s t:W8):W8:=⟨s.a+t.a,s.b+t.b,s.c+t.c,s.d+t.d,s.e+t.e,s.f+t.f,s.g+t.g,s.h+t.h⟩
def sM(s:W8)(b:iK):W8:=gA s (bR shaKeys (xW b 64) 64 s)
def yB:Nat->W8->iK->W8
 |0,s,_=>s
 |n+1,s,m=>yB n (sM s (m.take 64)) (m.drop 64)
theorem sY:∀(n k:Nat)(s:W8)(m:iK),yB (n+k) s m=yB k (yB n s m) (m.drop (64*n))
 |0,k,s,m=>by simp[yB]
 |n+1,k,s,m=>by
  rw[show n+1+k=(n+k)+1 by omega];simp only[yB];rw[sY n k,List.drop_drop]
  congr 2;omega
theorem blocksL_app:∀(n:Nat)(s:W8)(m t:iK),64*n<=m.length->yB n s (m++t)=yB n s m
 |0,_,_,_,_=>rfl
 |n+1,s,m,t,h=>by
  simp only[yB];rw[List.take_append_of_le_length (by omega),List.drop_append_of_le_length (by omega),blocksL_app n _ _ _ (by simp;omega)]
def rJ(n:Nat):Nat:=(119-n%64)%64
def jY(n:Nat):iK:=(List.range 8).map fun i=>UInt8.ofNat (n*8/2^(56-8*i))
def padL(m:iK):iK:=m++[128]++List.replicate (rJ m.length) 0++jY m.length
theorem rV(n:Nat):(jY n).length=8:=by simp[jY]
theorem padL_len(m:iK):(padL m).length=m.length+9+rJ m.length/\(padL m).length%64=0:=by
 have h:(padL m).length=m.length+9+rJ m.length:=by simp[padL,rV];omega
 refine⟨h,?_⟩;rw[h];unfold rJ;omega
def tE(s:W8)(i:Nat):UInt8:=UInt8.ofNat (shrU (s.list.getD (i/4) 0) (24-8*(i%4))).toNat
def iA(s:W8):iK:=(List.range 32).map (tE s)
def bC(m:iK):iK:=iA (yB ((padL m).length/64) shaBegin (padL m))
theorem rP(m:iK):(bC m).length=32:=by simp[bC,iA]
def qX(x:UInt32):Value:=.int .u32 (x.toNat:Int)
def qI(l:List UInt32):iL:=(l.map qX).toArray
theorem qF(l:List UInt32):(qI l).size=l.length:=by simp[qI]
theorem uJ{l:List UInt32}(h:i<l.length):(qI l)[i]?=some (qX l[i]):=by simp[qI,h]
theorem xV(l:List UInt32):∀c∈qI l,c.oneCell'=true:=by
 intro c hc
 simp[qI]at hc
 obtain⟨x,_,rfl⟩:=hc
 rfl
section
variable{P:Program}{w:iN}{o:Oper}{a:Act}
theorem w_lt(m:UInt32):m.toNat<4294967296:=m.toNat_lt
theorem exec_xor32(t:TypeId)(x y:Operand)(yt:TypeId)(m n:UInt32)(ho:o.op=.binOp .xor t x y yt)(hx:a.eval x=qX m)(hy:a.eval y=qX n):(execOp a.eval o).run P w=.ok (.value (qX (m ^^^ n))) w:=by
 have hb:=u32_xor_nat m.toNat n.toNat (w_lt m) (w_lt n);unfold execOp;unfold qX at hx hy |-;simp only[ho,hx,hy]
 go_simp
theorem exec_and32(t:TypeId)(x y:Operand)(yt:TypeId)(m n:UInt32)(ho:o.op=.binOp .and t x y yt)(hx:a.eval x=qX m)(hy:a.eval y=qX n):(execOp a.eval o).run P w=.ok (.value (qX (m &&& n))) w:=by
 have hb:=u32_and_nat m.toNat n.toNat (w_lt m) (w_lt n);unfold execOp;unfold qX at hx hy |-;simp only[ho,hx,hy]
 go_simp
theorem exec_or32(t:TypeId)(x y:Operand)(yt:TypeId)(m n:UInt32)(ho:o.op=.binOp .or t x y yt)(hx:a.eval x=qX m)(hy:a.eval y=qX n):(execOp a.eval o).run P w=.ok (.value (qX (m ||| n))) w:=by
 have hb:=u32_or_nat m.toNat n.toNat (w_lt m) (w_lt n);unfold execOp;unfold qX at hx hy |-;simp only[ho,hx,hy]
 go_simp
theorem exec_add32(t:TypeId)(x y:Operand)(yt:TypeId)(m n:UInt32)(ho:o.op=.binOp .add t x y yt)(hx:a.eval x=qX m)(hy:a.eval y=qX n):(execOp a.eval o).run P w=.ok (.value (qX (m+n))) w:=by
 unfold execOp;unfold qX at hx hy |-;simp only[ho,hx,hy]
 go_simp
 rw[IntKind.wrap_u32']
theorem exec_not32(t:TypeId)(x:Operand)(m:UInt32)(ho:o.op=.unOp .xor t x)(hx:a.eval x=qX m):(execOp a.eval o).run P w=.ok (.value (qX (4294967295 ^^^ m))) w:=by
 have hb:=u32_xor_nat 4294967295 m.toNat (by omega) (w_lt m);unfold execOp;unfold qX at hx |-;simp only[ho,hx]
 go_simp
 exact hb
theorem exec_shl32(t:TypeId)(x y:Operand)(yt:TypeId)(m:UInt32)(k:IntKind)(n:Nat)(ho:o.op=.binOp .shl t x y yt)(hx:a.eval x=qX m)(hy:a.eval y=.int k (n:Int))(hn:n<=32):(execOp a.eval o).run P w=.ok (.value (qX (shlU m n))) w:=by
 unfold execOp;unfold qX shlU at*;simp only[ho,hx,hy]
 go_simp
 rw[IntKind.wrap_u32']
theorem exec_shr32(t:TypeId)(x y:Operand)(yt:TypeId)(m:UInt32)(k:IntKind)(n:Nat)(ho:o.op=.binOp .shr t x y yt)(hx:a.eval x=qX m)(hy:a.eval y=.int k (n:Int))(hn:n<=32):(execOp a.eval o).run P w=.ok (.value (qX (shrU m n))) w:=by
 unfold execOp;unfold qX shrU at*;simp only[ho,hx,hy]
 go_simp
 have h1:(0:Int)<=(m.toNat:Int)/2^n:=Int.ediv_nonneg (by omega) (Int.le_of_lt (Int.pow_pos (by omega)))
 have h2:(m.toNat:Int)/2^n<=(m.toNat:Int):=Int.ediv_le_self _ (by omega);have h3:=w_lt m;rw[Int.emod_eq_of_lt h1 (by omega)]
theorem yS(t u:TypeId)(x:Operand)(m:UInt8)(ho:o.op=.convert t u x)(hx:a.eval x=qW m)(ht:(P.underlying t).isSome=true)(hu:P.underlying u=some (.int .u32)):
 (execOp a.eval o).run P w=.ok (.value (qX (byteW m))) w:=by
 unfold execOp;unfold qW at hx;simp only[ho,hx];have hk:P.intKind u=.u32:=by simp[Program.intKind,hu]
 have h1:=run_convert_int (P:=P) w t u .u8 (m.toNat:Int) ht (by rw[hk];exact hu);rw[hk]at h1
 have h2:IntKind.u32.wrap (m.toNat:Int)=((byteW m).toNat:Int):=by
  rw[IntKind.wrap_u32'];unfold byteW;have h9:=m.toNat_lt
  simp
  omega
 rw[h2]at h1;rw[Sem.run_bind,h1]
 rfl
theorem bM(t u:TypeId)(x:Operand)(m:UInt32)(ho:o.op=.convert t u x)(hx:a.eval x=qX m)(ht:(P.underlying t).isSome=true)(hu:P.underlying u=some (.int .u8)):
 (execOp a.eval o).run P w=.ok (.value (qW (UInt8.ofNat m.toNat))) w:=by
 unfold execOp;unfold qX at hx;simp only[ho,hx];have hk:P.intKind u=.u8:=by simp[Program.intKind,hu]
 have h1:=run_convert_int (P:=P) w t u .u32 (m.toNat:Int) ht (by rw[hk];exact hu);rw[hk]at h1
 have h2:IntKind.u8.wrap (m.toNat:Int)=((UInt8.ofNat m.toNat).toNat:Int):=by
  rw[IntKind.wrap_u8']
  simp
 rw[h2]at h1;rw[Sem.run_bind,h1]
 rfl
end
section
variable{P:Program}{ops:Array Oper}{Q:Exit->Act->iN->Prop}{S:iN->Prop}{o:Oper}{r:List (Oper×Nat)}{a:Act}{w:iN}
theorem xQ(t:TypeId)(x y:Operand)(yt:TypeId)(m n:UInt32)(hw:Region.wanted o (yielded ops a.tmps)=true)(ho:o.op=.binOp .xor t x y yt)(hx:a.eval x=qX m)(hy:a.eval y=qX n)
 (h:zF P ops Q S r (a.put o.dst (qX (m ^^^ n))) w):zF P ops Q S ((o,3)::r) a w:=qM hw (fun _=>exec_xor32 t x y yt m n ho hx hy) h
theorem vP(t:TypeId)(x y:Operand)(yt:TypeId)(m n:UInt32)(hw:Region.wanted o (yielded ops a.tmps)=true)(ho:o.op=.binOp .and t x y yt)(hx:a.eval x=qX m)(hy:a.eval y=qX n)
 (h:zF P ops Q S r (a.put o.dst (qX (m &&& n))) w):zF P ops Q S ((o,3)::r) a w:=qM hw (fun _=>exec_and32 t x y yt m n ho hx hy) h
theorem pY(t:TypeId)(x y:Operand)(yt:TypeId)(m n:UInt32)(hw:Region.wanted o (yielded ops a.tmps)=true)(ho:o.op=.binOp .or t x y yt)(hx:a.eval x=qX m)(hy:a.eval y=qX n)
 (h:zF P ops Q S r (a.put o.dst (qX (m ||| n))) w):zF P ops Q S ((o,3)::r) a w:=qM hw (fun _=>exec_or32 t x y yt m n ho hx hy) h
theorem xR(t:TypeId)(x y:Operand)(yt:TypeId)(m n:UInt32)(hw:Region.wanted o (yielded ops a.tmps)=true)(ho:o.op=.binOp .add t x y yt)(hx:a.eval x=qX m)(hy:a.eval y=qX n)
 (h:zF P ops Q S r (a.put o.dst (qX (m+n))) w):zF P ops Q S ((o,3)::r) a w:=qM hw (fun _=>exec_add32 t x y yt m n ho hx hy) h
theorem wpPi_not32(t:TypeId)(x:Operand)(m:UInt32)(hw:Region.wanted o (yielded ops a.tmps)=true)(ho:o.op=.unOp .xor t x)(hx:a.eval x=qX m)
 (h:zF P ops Q S r (a.put o.dst (qX (4294967295 ^^^ m))) w):zF P ops Q S ((o,3)::r) a w:=qM hw (fun _=>exec_not32 t x m ho hx) h
theorem uZ(t:TypeId)(x y:Operand)(yt:TypeId)(m:UInt32)(k:IntKind)(n:Nat)(hw:Region.wanted o (yielded ops a.tmps)=true)(ho:o.op=.binOp .shl t x y yt)(hx:a.eval x=qX m)(hy:a.eval y=.int k (n:Int))(hn:n<=32)
 (h:zF P ops Q S r (a.put o.dst (qX (shlU m n))) w):zF P ops Q S ((o,3)::r) a w:=qM hw (fun _=>exec_shl32 t x y yt m k n ho hx hy hn) h
theorem uY(t:TypeId)(x y:Operand)(yt:TypeId)(m:UInt32)(k:IntKind)(n:Nat)(hw:Region.wanted o (yielded ops a.tmps)=true)(ho:o.op=.binOp .shr t x y yt)(hx:a.eval x=qX m)(hy:a.eval y=.int k (n:Int))(hn:n<=32)
 (h:zF P ops Q S r (a.put o.dst (qX (shrU m n))) w):zF P ops Q S ((o,3)::r) a w:=qM hw (fun _=>exec_shr32 t x y yt m k n ho hx hy hn) h
end
theorem wpPi_subR(t:TypeId)(x y:Operand)(yt:TypeId)(m n d:Int)(hw:Region.wanted o (yielded ops a.tmps)=true)(ho:o.op=.binOp .sub t x y yt)(hx:a.eval x=.int .i64 m)(hy:a.eval y=.int .i64 n)
 (hd:m-n=d)(h1:-9223372036854775808<=d)(h2:d<=9223372036854775807)(h:zF P ops Q S r (a.put o.dst (.int .i64 d)) w):zF P ops Q S ((o,3)::r) a w:=by
 subst hd;exact yC t x y yt m n hw ho hx hy h1 h2 h
theorem cI(t:TypeId)(x y:Operand)(yt:TypeId)(m n d:Int)(hw:Region.wanted o (yielded ops a.tmps)=true)(ho:o.op=.binOp .add t x y yt)(hx:a.eval x=.int .i64 m)(hy:a.eval y=.int .i64 n)
 (hd:m+n=d)(h1:-9223372036854775808<=d)(h2:d<=9223372036854775807)(h:zF P ops Q S r (a.put o.dst (.int .i64 d)) w):zF P ops Q S ((o,3)::r) a w:=by
 subst hd;exact aB t x y yt m n hw ho hx hy h1 h2 h
theorem run_indexAt_arr{t e:TypeId}{b len:Nat}(hu:P.underlying t=some (.array len e))(hi:(P.info? e).map (·.size)=some n)(h:i<len)(w:iN):
 (Instr.indexAt t (.pointer (some ⟨b,off,none⟩)) (.int .i64 i)).run P w=.ok (.pointer (some ⟨b,off+i*n,none⟩)) w:=by
 have hadd:(⟨b,off,none⟩:Addr).add (i*n)=⟨b,off+i*n,none⟩:=by unfold Addr.add;split<;>simp_all
 cases hq:P.info? e with
 |none=>simp[hq]at hi
 |some j=>
  have hs:j.size=n:=by simpa[hq]using hi
  simp[Instr.indexAt,Instr.sureAddr,asIntOf,run_underlying hu,h,sizeOf,typeInfo,hq,hs,hadd]
theorem wpPi_indexA(t:TypeId)(x y:Operand)(e:TypeId)(b off len n i:Nat)(hw:Region.wanted o (yielded ops a.tmps)=true)(ho:o.op=.indexAddr t x y)
 (hx:a.eval x=.pointer (some ⟨b,off,none⟩))(hy:a.eval y=.int .i64 i)(hu:P.underlying t=some (.array len e))(hi:(P.info? e).map (·.size)=some n)(hlt:i<len)
 (h:zF P ops Q S r (a.put o.dst (.pointer (some ⟨b,off+i*n,none⟩))) w):zF P ops Q S ((o,3)::r) a w:=
 qM hw (fun w=>by unfold execOp;simp only[ho,hx,hy,Sem.run_bind,run_indexAt_arr hu hi hlt,Result.andThen_ok,Sem.run_pure]) h
theorem tM(t:TypeId)(x y:Operand)(yt:TypeId)(ho:o.op=.binOp .lss t x y yt)(m n:ByteArray)
 (hx:a.eval x=.string m)(hy:a.eval y=.string n)(b:Bool)(hb:Op.bytesLess m.toList n.toList=b):(execOp a.eval o).run P w=.ok (.value (.bool b)) w:=by
 subst hb;unfold execOp
 simp[ho,hx,hy,eqGuard,binOp,Op.stringOp]
theorem tJ(t:TypeId)(x y:Operand)(yt:TypeId)(ho:o.op=.binOp .neq t x y yt)(m n:ByteArray)
 (hx:a.eval x=.string m)(hy:a.eval y=.string n)(b:Bool)(hb:decide (m≠n)=b):(execOp a.eval o).run P w=.ok (.value (.bool b)) w:=by
 subst hb;unfold execOp
 have h:(!(m.toList==n.toList))=decide (m≠n):=by
  rw[<-beq_toListBytes,Bool.eq_iff_iff,decide_eq_true_iff];obtain⟨⟨x⟩⟩:=m;obtain⟨⟨y⟩⟩:=n
  show(!((⟨x⟩:Array UInt8)==⟨y⟩))=true↔_
  simp
 simp[ho,hx,hy,eqGuard,binOp,Op.stringOp,h]
theorem yT(t:TypeId)(x y:Operand)(yt:TypeId)(m n d:Int)(hw:Region.wanted o (yielded ops a.tmps)=true)(ho:o.op=.binOp .mul t x y yt)(hx:a.eval x=.int .i64 m)(hy:a.eval y=.int .i64 n)
 (hd:m*n=d)(h1:-9223372036854775808<=d)(h2:d<=9223372036854775807)(h:zF P ops Q S r (a.put o.dst (.int .i64 d)) w):zF P ops Q S ((o,3)::r) a w:=by
 subst hd;exact wpPi_mul t x y yt m n hw ho hx hy h1 h2 h
section
variable{P:Program}{ops:Array Oper}{Q:Exit->Act->iN->Prop}{S:iN->Prop}{o:Oper}{r:List (Oper×Nat)}{a:Act}{w:iN}{t yt e:TypeId}{x y:Operand}{m n:Int}{b off len i:Nat}
theorem jH(d:Int)(h:zF P ops Q S r (a.put o.dst (.int .i64 d)) w)(hw:Region.wanted o (yielded ops a.tmps)=true:=by rfl)(ho:o.op=.binOp .add t x y yt:=by rfl)(hx:a.eval x=.int .i64 m:=by rfl)(hy:a.eval y=.int .i64 n:=by rfl)
 (hd:m+n=d:=by omega)(h1:-9223372036854775808<=d:=by omega)(h2:d<=9223372036854775807:=by omega):zF P ops Q S ((o,3)::r) a w:=cI t x y yt m n d hw ho hx hy hd h1 h2 h
theorem vZ(d:Int)(h:zF P ops Q S r (a.put o.dst (.int .i64 d)) w)(hw:Region.wanted o (yielded ops a.tmps)=true:=by rfl)(ho:o.op=.binOp .sub t x y yt:=by rfl)(hx:a.eval x=.int .i64 m:=by rfl)(hy:a.eval y=.int .i64 n:=by rfl)
 (hd:m-n=d:=by omega)(h1:-9223372036854775808<=d:=by omega)(h2:d<=9223372036854775807:=by omega):zF P ops Q S ((o,3)::r) a w:=wpPi_subR t x y yt m n d hw ho hx hy hd h1 h2 h
theorem zO(ty:TypeId)[u:UR9 ty len e](n:Nat)(hlt:i<len)(h:zF prog ops Q S r (a.put o.dst (.pointer (some ⟨b,off+i*n,none⟩))) w)(hw:Region.wanted o (yielded ops a.tmps)=true:=by rfl)(ho:o.op=.indexAddr ty x y:=by rfl)
 (hx:a.eval x=.pointer (some ⟨b,off,none⟩):=by rfl)(hy:a.eval y=.int .i64 i:=by rfl)(hi:(prog.info? e).map (·.size)=some n:=by kernel_rfl):zF prog ops Q S ((o,3)::r) a w:=wpPi_indexA ty x y e b off len n i hw ho hx hy u.h hi hlt h
end
end
section
open Go.Proofs.Tryz Go.Lib
end
section
open Go.RowKit Go.Proofs.Tryz Go.Lib
section
variable{P:Program}{w:iN}{o:Oper}{a:Act}
theorem aS(t u:TypeId)(x:Operand)(m:Int)(ho:o.op=.convert t u x)(hx:a.eval x=.int .i64 m)(ht:(P.underlying t).isSome=true)(hu:P.underlying u=some (.int .u64))(v:Int)(hv:IntKind.u64.wrap m=v):
 (execOp a.eval o).run P w=.ok (.value (.int .u64 v)) w:=by
 subst hv;unfold execOp;simp only[ho,hx];have hk:P.intKind u=.u64:=by simp[Program.intKind,hu]
 have h1:=run_convert_int (P:=P) w t u .i64 m ht (by rw[hk];exact hu);rw[hk]at h1;rw[Sem.run_bind,h1]
 rfl
theorem exec_and64(t:TypeId)(x y:Operand)(yt:TypeId)(m n:Int)(ho:o.op=.binOp .and t x y yt)(hx:a.eval x=.int .u64 m)(hy:a.eval y=.int .u64 n)(v:Int)(hv:bits .and .u64 m n=v):(execOp a.eval o).run P w=.ok (.value (.int .u64 v)) w:=by
 subst hv;unfold execOp;simp only[ho,hx,hy]
 go_simp
theorem exec_sub64(t:TypeId)(x y:Operand)(yt:TypeId)(m n:Int)(ho:o.op=.binOp .sub t x y yt)(hx:a.eval x=.int .u64 m)(hy:a.eval y=.int .u64 n)(v:Int)(hv:IntKind.u64.wrap (m-n)=v):(execOp a.eval o).run P w=.ok (.value (.int .u64 v)) w:=by
 subst hv;unfold execOp;simp only[ho,hx,hy]
 go_simp
theorem exec_neg(t:TypeId)(x:Operand)(m:Int)(ho:o.op=.unOp .neg t x)(hx:a.eval x=.int .i64 m)(v:Int)(hv:IntKind.i64.wrap (0-m)=v):(execOp a.eval o).run P w=.ok (.value (.int .i64 v)) w:=by
 subst hv;unfold execOp;simp only[ho,hx]
 go_simp
end
theorem and31(n:Nat)(h:0<n/\n<32):bits .and .u64 ((18446744073709551616-n:Nat):Int) ((31:Nat):Int)=((32-n:Nat):Int):=by
 rw[u64_and_nat _ _ (by omega) (by omega)]
 congr 1
 rw[show(31:Nat)=2^5-1 by rfl,Nat.and_two_pow_sub_one_eq_mod];omega
theorem rotL_any(x:UInt32)(n:Nat)(h:0<n/\n<32)(w:iN):Calls prog 299 #[qX x,.int .i64 (-(n:Int))] w (pT (qX (gX x n)) w):=by
 go_enter func299,ntmps299;go_upto_region 1 with(fail)
 have h1:IntKind.u64.wrap (-(n:Int))=((18446744073709551616-n:Nat):Int):=by simp[IntKind.wrap,IntKind.bits,IntKind.signed];omega
 have h2:=and31 n h;have h3:IntKind.u64.wrap ((32:Int)-((32-n:Nat):Int))=((n:Nat):Int):=by simp[IntKind.wrap,IntKind.bits,IntKind.signed];omega
 have H1:=O h1;have H2:=O h2;have H3:=O h3;clear h1 h2 h3;refine qL [3,3,3,3] ?_;simp only[qB]
 refine qM (v:=.int .u64 ((18446744073709551616-n:Nat):Int)) rfl (fun w'=>aS 3 337 _ _ rfl rfl (by kernel_rfl) underlying337 _ H1.out) ?_;simp only[qC]
 refine qM (v:=.int .u64 ((32-n:Nat):Int)) rfl (fun w'=>exec_and64 _ _ _ _ ((18446744073709551616-n:Nat):Int) ((31:Nat):Int) rfl rfl rfl _ H2.out) ?_
 simp only[qB];go_upto_region 2 with(fail);refine qL [3,3,3,3,3,3,3,3,3] ?_;simp only[qB];refine uZ _ _ _ _ _ .u64 (32-n) rfl rfl rfl rfl (by omega) ?_
 simp only[qB];refine qM (v:=.int .u64 ((n:Nat):Int)) rfl (fun w'=>exec_sub64 _ _ _ _ (32:Int) ((32-n:Nat):Int) rfl rfl rfl _ H3.out) ?_;simp only[qC]
 refine uY _ _ _ _ _ .u64 n rfl rfl rfl rfl (by omega) ?_;simp only[qC];refine pY _ _ _ _ _ _ rfl rfl rfl rfl ?_;simp only[qB];go_wp2;go_ret;exact⟨rfl,rfl⟩
theorem vQ(x:UInt32)(n:Nat)(h:0<n/\n<32)(w:iN):Calls prog 257 #[qX x,.int .i64 (n:Int)] w (pT (qX (gX x n)) w):=by
 go_enter func257,ntmps257;have hneg:IntKind.i64.wrap (0-(n:Int))=-(n:Int):=by simp[IntKind.wrap,IntKind.bits,IntKind.signed];omega
 have HN:=O hneg;clear hneg;go_upto_region 1 with(fail);refine qL [3,3,3,1,3] ?_;simp only[qB]
 refine qM (v:=.int .i64 (-(n:Int))) rfl (fun w'=>exec_neg _ _ (n:Int) rfl rfl _ HN.out) ?_;simp only[qC];refine kS rfl ?_
 go_wp2_with (go_at_call 299;refine(rotL_any x n h _).mono ?_;rintro _ wq ⟨rfl,hw⟩;obtain rfl:=hw.symm);simp only[qB];go_wp2;go_ret;exact⟨rfl,rfl⟩
def cL(b:iK)(n:Nat):List UInt32:=xW b n++List.replicate (64-n) 0
theorem rowW_len(b:iK)(h:n<=64):(cL b n).length=64:=by simp[cL,pA];omega
theorem rowW_at(b:iK)(h:n<=64)(hi:i<n):(qI (cL b n))[i]?=some (qX ((xW b n).getD i 0)):=by
 have hl:=pA b n;rw[uJ (by rw[rowW_len b h];omega)]
 congr 2
 unfold cL;rw[List.getElem_append_left (by omega),List.getD_eq_getElem?_getD,List.getElem?_eq_getElem (by omega)]
 rfl
theorem rowW_set(b:iK)(h:n<64):(qI (cL b n)).setIfInBounds n (qX (if n<16 then wordAt b n else wordNext (xW b n) n))=qI (cL b (n+1)):=by
 have hl:=pA b n
 apply Array.toList_inj.1
 unfold qI cL;rw[Array.toList_setIfInBounds];simp only[List.map_append,List.map_replicate,xW];rw[List.set_append_right _ _ (by simp[hl])]
 simp only[List.length_map,hl,Nat.sub_self];rw[show 64-n=(64-(n+1))+1 by omega,List.replicate_succ,List.set_cons_zero]
 simp
def SpreadRel(b:iK)(bw:Nat)(w0:iN)(i:Value)(w:iN):Prop:=∃n:Nat,n<=64/\i=.int .i64 n/\w.heap[bw]?=some (.cells (qI (cL b n)) 340 (0,0))/\Mod qJ w0 w
theorem w64Z:(prog.info? 340).bind (·.zero)=some (.agg (qI (List.replicate 64 0))):=by kernel_rfl
theorem spread_any{own:Bool}(hb:Sl own w G 1 yA v b)(hl:b.length=64):Calls prog 256 #[v] w (vO (.agg (qI (xW b 64))) w):=by
 obtain⟨av,cap,rfl,hlen,hat⟩:=hb.at;obtain⟨bb,off,rfl,-,-,hcs⟩:=hat 0 (by omega)
 have hbyte:∀j,j<64->w.cell? ⟨bb,off+j*1,none⟩=some (qW (b.getD j 0)):=fun j hj=>by
  obtain⟨cs,_,rfl,hc⟩:=hcs j (by omega);rw[List.getD_eq_getElem?_getD,List.getElem?_eq_getElem (by omega)];exact CellsAt.one.1 hc
 have hbb:bb<w.heap.size:=block_lt_of_cell (hbyte 0 (by omega));have HB:=O hbyte;clear hat hcs hb hbyte;go_enter func256,ntmps256;go_upto_region 0 with(fail)
 refine qL [1] ?_;simp only[qB];refine qK (zB w64Z (fun w1 hB1 hm1 hs1=>?_));simp only[qB];go_wp2
 go_loopw [6] (SpreadRel b w.heap.size w) (fun i _=>64-(intOf i).toNat)
 case atStart=>exact⟨0,by omega,rfl,by simpa[cL,xW]using hB1,hm1⟩
 case round=>
  rename iN=>wr
  clear hB1 hm1 hs1;obtain⟨n,hn,rfl,hrow,hM⟩:=hrel;have hbne:¬bb=w.heap.size:=by omega
  by_cases hlt:n<64
  ·have hz:(n:Int)<64:=by omega
   have hsz:=qF (cL b n);rw[rowW_len b hn]at hsz;have hset:=rowW_set b hlt
   by_cases h16:n<16
   ·have hz2:(n:Int)<16:=by omega
    rw[if_pos h16]at hset;have hbw:∀j,j<64->wr.cell? ⟨bb,off+j*1,none⟩=some (qW (b.getD j 0)):=fun j hj=>hM.cell id (HB.out j hj);have HBW:=O hbw
    have HSET:=O hset;have h0:4*n<b.length:=by omega
    have h1:4*n+1<b.length:=by omega
    have h2:4*n+2<b.length:=by omega
    have h3:4*n+3<b.length:=by omega
    clear hbw hset HB;go_upto_region 5 with(fail);have hS:Mod (fun k=>k=w.heap.size) wr wr.drew:=(Mod.refl _ _).drew
    refine zZ [3,3,3,3,3,0,3,3,3,3,3,3,3,0,3,3,3,3,3,3,3,3,0,3,3,3,3,3,3,3,3,0,3,3,3,1] [] (fun w'=>Mod (fun k=>k=w.heap.size) wr w') hS ?_
    simp only[qB];refine yT _ _ _ _ 4 (n:Int) ((4*n:Nat):Int) rfl rfl rfl rfl (by omega) (by omega) (by omega) ?_;simp only[qC];refine zC 53 1 h0 ?_
    simp only[qC];refine qE 5 (fun w' hS=>hS.cell hbne (HBW.out (4*n) (by omega))) ?_;simp only[qC]
    refine qM rfl (fun w'=>yS _ _ _ _ rfl rfl (by kernel_rfl) underlying301) ?_;simp only[qC]
    refine uZ _ _ _ _ _ .u64 24 rfl rfl rfl rfl (by omega) ?_;simp only[qB]
    refine yT _ _ _ _ 4 (n:Int) ((4*n:Nat):Int) rfl rfl rfl rfl (by omega) (by omega) (by omega) ?_;simp only[qC];refine jH ((4*n+1:Nat):Int) ?_
    simp only[qC];refine zC 53 1 h1 ?_;simp only[qC];refine qE 5 (fun w' hS=>hS.cell hbne (HBW.out (4*n+1) (by omega))) ?_;simp only[qC]
    refine qM rfl (fun w'=>yS _ _ _ _ rfl rfl (by kernel_rfl) underlying301) ?_;simp only[qC]
    refine uZ _ _ _ _ _ .u64 16 rfl rfl rfl rfl (by omega) ?_;simp only[qC];refine pY _ _ _ _ _ _ rfl rfl rfl rfl ?_;simp only[qB]
    refine yT _ _ _ _ 4 (n:Int) ((4*n:Nat):Int) rfl rfl rfl rfl (by omega) (by omega) (by omega) ?_;simp only[qC];refine jH ((4*n+2:Nat):Int) ?_
    simp only[qC];refine zC 53 1 h2 ?_;simp only[qC];refine qE 5 (fun w' hS=>hS.cell hbne (HBW.out (4*n+2) (by omega))) ?_;simp only[qC]
    refine qM rfl (fun w'=>yS _ _ _ _ rfl rfl (by kernel_rfl) underlying301) ?_;simp only[qC]
    refine uZ _ _ _ _ _ .u64 8 rfl rfl rfl rfl (by omega) ?_;simp only[qC];refine pY _ _ _ _ _ _ rfl rfl rfl rfl ?_;simp only[qB]
    refine yT _ _ _ _ 4 (n:Int) ((4*n:Nat):Int) rfl rfl rfl rfl (by omega) (by omega) (by omega) ?_;simp only[qC];refine jH ((4*n+3:Nat):Int) ?_
    simp only[qC];refine zC 53 1 h3 ?_;simp only[qC];refine qE 5 (fun w' hS=>hS.cell hbne (HBW.out (4*n+3) (by omega))) ?_;simp only[qC]
    refine qM rfl (fun w'=>yS _ _ _ _ rfl rfl (by kernel_rfl) underlying301) ?_;simp only[qC];refine pY _ _ _ _ _ _ rfl rfl rfl rfl ?_
    simp only[qC];refine zO 340 1 hlt ?_;simp only[qC];refine qH rfl (fun K hK=>?_)
    refine zR 301 (n*1) (qX (wordAt b n)) (show wr.drew.heap[w.heap.size]?=_ from hrow) (fun w2 hB2 hm2=>?_) (hoff:=by rw[hsz];omega)
    rw[Nat.mul_one,HSET.out]at hB2;replace hS:=hS.trans hm2 (fun _ _ h=>h);refine hK _ _ hS ?_;clear hK K;simp only[qB]
    have hM2:Mod qJ w w2:=hM.transB hS (Nat.le_refl _);clear hM hS hm2 hrow;go_wp2
    go_roundw
    case rel=>exact⟨n+1,by omega,by go_num,hB2,hM2⟩
    case measure=>simp[intOf];omega
   ·have hz2:¬(n:Int)<16:=by omega
    rw[if_neg h16]at hset;have hwd:∀i,i<n->(qI (cL b n))[i]?=some (qX ((xW b n).getD i 0)):=fun i hi=>rowW_at b hn hi;have HW:=O hwd
    have HSET:=O hset;have hk15:n-15<64:=by omega
    have hk2:n-2<64:=by omega
    have hk16:n-16<64:=by omega
    have hk7:n-7<64:=by omega
    clear hwd hset HB;go_upto_region 6 with(fail);have hS:Mod qJ wr wr.drew:=(Mod.refl _ _).drew
    refine zZ [3,3,3,0,0,3,3,3,0,0,3,3,3,3,0,3,3,3] [] (fun w'=>Mod qJ wr w') hS ?_;simp only[qB];refine vZ ((n-15:Nat):Int) ?_;simp only[qC]
    refine zO 340 1 hk15 ?_;simp only[qC]
    refine qE (b:=w.heap.size) (off:=(n-15)*1) 301 (fun w' hS=>by rw[cell_of_row _ _ _ _ _ _ (hS.obj id hrow),Nat.mul_one];exact HW.out (n-15) (by omega)) ?_
    simp only[qC];refine uA (f:=257) rfl ?_ (fun w' hS=>vQ ((xW b n).getD (n-15) 0) 7 (by omega) w') ?_
    ·exact xM 257 _ _ rfl _ func257 rfl (by kernel_rfl) _ rfl
    simp only[qB];refine vZ ((n-15:Nat):Int) ?_;simp only[qC];refine zO 340 1 hk15 ?_;simp only[qC]
    refine qE (b:=w.heap.size) (off:=(n-15)*1) 301 (fun w' hS=>by rw[cell_of_row _ _ _ _ _ _ (hS.obj id hrow),Nat.mul_one];exact HW.out (n-15) (by omega)) ?_
    simp only[qC];refine uA (f:=257) rfl ?_ (fun w' hS=>vQ ((xW b n).getD (n-15) 0) 18 (by omega) w') ?_
    ·exact xM 257 _ _ rfl _ func257 rfl (by kernel_rfl) _ rfl
    simp only[qC];refine xQ _ _ _ _ _ _ rfl rfl rfl rfl ?_;simp only[qB];refine vZ ((n-15:Nat):Int) ?_;simp only[qC];refine zO 340 1 hk15 ?_
    simp only[qC]
    refine qE (b:=w.heap.size) (off:=(n-15)*1) 301 (fun w' hS=>by rw[cell_of_row _ _ _ _ _ _ (hS.obj id hrow),Nat.mul_one];exact HW.out (n-15) (by omega)) ?_
    simp only[qC];refine uY _ _ _ _ _ .u64 3 rfl rfl rfl rfl (by omega) ?_;simp only[qC];refine xQ _ _ _ _ _ _ rfl rfl rfl rfl ?_;simp only[qB]
    replace hM:=hM.trans0 hS;replace hrow:=hS.obj id hrow;clear hS;generalize wr.drew=wy at*;go_upto_region 7 with(fail)
    have hS:Mod qJ wy wy.drew:=(Mod.refl _ _).drew;refine zZ [3,3,3,0,0,3,3,3,0,0,3,3,3,3,0,3,3,3] [] (fun w'=>Mod qJ wy w') hS ?_;simp only[qB]
    refine vZ ((n-2:Nat):Int) ?_;simp only[qC];refine zO 340 1 hk2 ?_;simp only[qC]
    refine qE (b:=w.heap.size) (off:=(n-2)*1) 301 (fun w' hS=>by rw[cell_of_row _ _ _ _ _ _ (hS.obj id hrow),Nat.mul_one];exact HW.out (n-2) (by omega)) ?_
    simp only[qC];refine uA (f:=257) rfl ?_ (fun w' hS=>vQ ((xW b n).getD (n-2) 0) 17 (by omega) w') ?_
    ·exact xM 257 _ _ rfl _ func257 rfl (by kernel_rfl) _ rfl
    simp only[qB];refine vZ ((n-2:Nat):Int) ?_;simp only[qC];refine zO 340 1 hk2 ?_;simp only[qC]
    refine qE (b:=w.heap.size) (off:=(n-2)*1) 301 (fun w' hS=>by rw[cell_of_row _ _ _ _ _ _ (hS.obj id hrow),Nat.mul_one];exact HW.out (n-2) (by omega)) ?_
    simp only[qC];refine uA (f:=257) rfl ?_ (fun w' hS=>vQ ((xW b n).getD (n-2) 0) 19 (by omega) w') ?_
    ·exact xM 257 _ _ rfl _ func257 rfl (by kernel_rfl) _ rfl
    simp only[qC];refine xQ _ _ _ _ _ _ rfl rfl rfl rfl ?_;simp only[qB];refine vZ ((n-2:Nat):Int) ?_;simp only[qC];refine zO 340 1 hk2 ?_
    simp only[qC]
    refine qE (b:=w.heap.size) (off:=(n-2)*1) 301 (fun w' hS=>by rw[cell_of_row _ _ _ _ _ _ (hS.obj id hrow),Nat.mul_one];exact HW.out (n-2) (by omega)) ?_
    simp only[qC];refine uY _ _ _ _ _ .u64 10 rfl rfl rfl rfl (by omega) ?_;simp only[qC];refine xQ _ _ _ _ _ _ rfl rfl rfl rfl ?_;simp only[qB]
    replace hM:=hM.trans0 hS;replace hrow:=hS.obj id hrow;clear hS;generalize wy.drew=wz at*;go_upto_region 8 with(fail)
    have hS:Mod qJ wz wz.drew:=(Mod.refl _ _).drew;refine zZ [3,3,3,3,0,3,3,3,3,3,0,3,3,3,3,2] [15] (fun w'=>Mod qJ wz w') hS ?_;simp only[qB]
    refine vZ ((n-16:Nat):Int) ?_;simp only[qC];refine zO 340 1 hk16 ?_;simp only[qC]
    refine qE (b:=w.heap.size) (off:=(n-16)*1) 301 (fun w' hS=>by rw[cell_of_row _ _ _ _ _ _ (hS.obj id hrow),Nat.mul_one];exact HW.out (n-16) (by omega)) ?_
    simp only[qB];refine xR _ _ _ _ _ _ rfl rfl rfl rfl ?_;simp only[qB];refine vZ ((n-7:Nat):Int) ?_;simp only[qC];refine zO 340 1 hk7 ?_
    simp only[qC]
    refine qE (b:=w.heap.size) (off:=(n-7)*1) 301 (fun w' hS=>by rw[cell_of_row _ _ _ _ _ _ (hS.obj id hrow),Nat.mul_one];exact HW.out (n-7) (by omega)) ?_
    simp only[qC];refine xR _ _ _ _ _ _ rfl rfl rfl rfl ?_;simp only[qB];refine xR _ _ _ _ _ _ rfl rfl rfl rfl ?_;simp only[qC];refine zO 340 1 hlt ?_
    simp only[qC];refine zP rfl (fun K hK=>?_)
    refine zR 301 (n*1) (qX (wordNext (xW b n) n)) (show wz.drew.heap[w.heap.size]?=_ from hrow) (fun w2 hB2 hm2=>?_) (hoff:=by rw[hsz];omega)
    rw[Nat.mul_one,HSET.out]at hB2;refine hK _ _ ?_;clear hK K;simp only[qB];have hM2:Mod qJ w w2:=(hM.trans0 hS).transB hm2 (Nat.le_refl _);clear hM hS hm2 hrow;go_wp2
    go_roundw
    case rel=>exact⟨n+1,by omega,by go_num,hB2,hM2⟩
    case measure=>simp[intOf];omega
  ·have hz:¬(n:Int)<64:=by omega
   obtain rfl:n=64:=by omega
   have e:cL b 64=xW b 64:=by simp[cL]
   rw[e]at hrow;have hsz:(qI (xW b 64)).size=64:=by rw[qF,pA]
   obtain⟨sp,hsp⟩:∃sp,xW b 64=sp:=⟨_,rfl⟩;rw[hsp]at hrow hsz;have HSP:=O hsp;clear hsp e;go_upto_region 10 with(fail);refine qL [1,1] ?_;simp only[qB]
   refine qY 340 (CellsAt.whole hrow) 64 hsz ?_;try simp only[qC]
   refine qK (qT 340 (qI (sp)) (xV _) 64 hsz hrow (fun w2 hB2 hm2=>?_) (hoff:=by rfl));simp only[qB];go_wp2
   refine bodyPost_ret (results_cell_row rfl _ _ w.heap.size _ _ _ _ (by rfl) hB2 underlying340 rfl (by rw[hsz];kernel_rfl)) rfl ?_
   exact⟨by rw[HSP.out],hM.transB hm2 (Nat.le_refl _)⟩
section
variable{P:Program}{ops:Array Oper}{Q:Exit->Act->iN->Prop}{S:iN->Prop}{md:Region.Mode}
def gJ(md:Region.Mode)(ops:Array Oper)(tl:List Nat):List (Nat×Nat)->Array Bool->Option (Array Bool)
 | [],listed=>some listed
 |(i,0)::r,listed=>if i<ops.size&&Region.free md ops listed i&&(Region.ready md ops listed).contains i&&waitsAll md ops tl i&&vT tl listed then gJ md ops tl r (listed.setIfInBounds i true)else none
 |(_,1)::_,_=>none
 |(_,2)::_,_=>none
 |(i,_+3)::r,listed=>if i<ops.size&&Region.free md ops listed i&&(Region.ready md ops listed).contains i&& !tl.contains i then gJ md ops tl r (listed.setIfInBounds i true)else none
theorem sO{tl:List Nat}(hs:Region.noSelect ops=true)(hQ:kU Q){Q1:Exit->Act->iN->Prop}{L:Array Bool}{fuel:Nat}(k:∀a w,(vT tl L=true->S w)->Q1 .normal a w->pW P md ops Q S tl fuel L a w):
 ∀(l:List (Nat×Nat))(listed:Array Bool)(a:Act)(w:iN),gJ md ops tl l listed=some L->(vT tl listed=true->S w)->zF P ops Q1 S (l.map fun x=>(ops.getD x.1 default,x.2)) a w->
  pW P md ops Q S tl (l.length+fuel) listed a w
 | [],listed,a,w,hp,hS,h=>by
  simp only[gJ,Option.some.injEq]at hp;subst hp
  simpa using k a w hS h
 |(i,0)::r,listed,a,w,hp,hS,h=>by
  simp only[gJ]at hp
  split at hp
  ·rename_i hc
   simp only[Bool.and_eq_true,decide_eq_true_eq]at hc;obtain⟨⟨⟨⟨hi,hf⟩,hr⟩,hwa⟩,hn⟩:=hc;obtain⟨v,hy,h⟩:=h
   have hi':ops[i]?=some (ops.getD i default):=by simp[Array.getD,hi]
   rw[List.length_cons,Nat.succ_add]
   exact wpAnyG_first hi' (Region.noSelect_spec hs) hQ hwa (r.length+fuel) listed a w (Region.free_spec hi' hf) (by simpa using hr) hy (hS hn) hn
    (sO hs hQ k r _ _ w hp (fun _=>hS hn) h)
  ·cases hp
 |(_,1)::_,_,_,_,hp,_,_=>by simp[gJ]at hp
 |(_,2)::_,_,_,_,hp,_,_=>by simp[gJ]at hp
 |(i,n+3)::r,listed,a,w,hp,hS,h=>by
  simp only[gJ]at hp
  split at hp
  ·rename_i hc
   simp only[Bool.and_eq_true,decide_eq_true_eq,Bool.not_eq_true']at hc;obtain⟨⟨⟨hi,hf⟩,hr⟩,hit⟩:=hc;obtain⟨v,hy,h⟩:=h;have hit':i∉tl:=by simpa using hit
   have hi':ops[i]?=some (ops.getD i default):=by simp[Array.getD,hi]
   rw[List.length_cons,Nat.succ_add]
   refine wpAnyG_free hi' (Region.noSelect_spec hs) hQ hit' (r.length+fuel) listed a w (Region.free_spec hi' hf) (by simpa using hr) hy hS
    (sO hs hQ k r _ _ w hp (fun hn=>hS ?_) h)
   simp only[vT,List.all_eq_true,Bool.not_eq_true']at hn |-;intro t ht;have:=hn t ht
   rwa[getD_set_ne false (by rintro rfl;exact hit' ht)]at this
  ·cases hp
def treeOk(md:Region.Mode)(ops:Array Oper)(tl:List Nat)(p2:List (Nat×Nat)):Nat->Array Bool->Bool
 |0,listed=>piOk md ops tl p2 listed
 |n+1,listed=> !(Region.ready md ops listed).isEmpty&&(Region.ready md ops listed).all fun i=>decide (i<ops.size)&& !tl.contains i&&(ops.getD i default).guard.isNone&&treeOk md ops tl p2 n (listed.setIfInBounds i true)
def rK(P:Program)(md:Region.Mode)(ops:Array Oper)(Q:Exit->Act->iN->Prop)(S:iN->Prop)(K:Act->iN->Prop):Nat->Array Bool->Act->iN->Prop
 |0,_,a,w=>K a w
 |n+1,listed,a,w=>∀i∈Region.ready md ops listed,(ops.getD i default).wp P a w (fun a' w'=>S w'/\rK P md ops Q S K n (listed.setIfInBounds i true) a' w') Q
theorem eJ{tl:List Nat}(hs:Region.noSelect ops=true)(hQ:kU Q){p2:List (Nat×Nat)}:
 ∀(n:Nat)(listed:Array Bool)(a:Act)(w:iN),treeOk md ops tl p2 n listed=true->(vT tl listed=true->S w)->rK P md ops Q S (zF P ops Q S (p2.map fun x=>(ops.getD x.1 default,x.2))) n listed a w->
  pW P md ops Q S tl (n+p2.length) listed a w
 |0,listed,a,w,hp,hS,h=>by
  rw[Nat.zero_add];exact pM hs hQ S p2 listed a w hp hS h
 |n+1,listed,a,w,hp,hS,h=>by
  simp only[treeOk,Bool.and_eq_true,Bool.not_eq_true',List.all_eq_true]at hp;rw[Nat.succ_add];refine⟨fun h0=>(by rw[h0]at hp;simp at hp),fun i hi=>?_⟩
  have h1:=hp.2 i hi;simp only[decide_eq_true_eq]at h1;obtain⟨⟨⟨hsz,hit⟩,hg⟩,hp'⟩:=h1;have hi':ops[i]?=some (ops.getD i default):=by simp[Array.getD,hsz]
  have hw:=h i hi;unfold wpOp;generalize ops.getD i default=oi at hi' hw hg;simp only[hi']
  have hwant:Region.wanted oi (yielded ops a.tmps)=true:=by
   unfold Region.wanted
   cases hq:oi.guard with
   |none=>rfl
   |some x=>rw[hq]at hg;cases hg
  rw[if_pos hwant];exact .inl (Oper.wp_mono (fun a' w' h'=>⟨fun _=>h'.1,eJ hs hQ n _ a' w' hp' (fun _=>h'.1) h'.2⟩) hw)
def treeQ(P:Program)(md:Region.Mode)(ops:Array Oper)(Q:Exit->Act->iN->Prop)(S:iN->Prop)(p2:List (Oper×Nat))(n:Nat)(L:Array Bool):Exit->Act->iN->Prop
 | .normal,a,w=>rK P md ops Q S (zF P ops Q S p2) n L a w
 |_,_,_=>True
theorem yU{l:List Oper}(p1:List (Nat×Nat))(n:Nat)(p2:List (Nat×Nat))(tl:List Nat)(S:iN->Prop)(L:Array Bool)(hm:P.follows .mixedOrders=true)(hs:Region.noSelect l.toArray=true)
 (hl:p1.length+(n+p2.length)=l.toArray.size)(h1:gJ .any l.toArray tl p1 (Array.replicate l.toArray.size false)=some L)(h2:treeOk .any l.toArray tl p2 n L=true)(hQ:kU Q)(hS:S w.drew)
 (h:zF P l.toArray (treeQ P .any l.toArray Q S (p2.map fun x=>(l.getD x.1 default,x.2)) n L) S (p1.map fun x=>(l.getD x.1 default,x.2)) a w.drew):(Code.region id l.toArray true).wp P Q a w:=
 wp_region_any hm (by
  have e:∀p:List (Nat×Nat),(p.map fun x=>((l.toArray).getD x.1 default,x.2))=(p.map fun x=>(l.getD x.1 default,x.2)):=fun p=>by
   apply List.map_congr_left;intro x _;simp[Array.getD_eq_getD_getElem?,List.getD]
  have H:=dK _ _ _ _ (sO (md:=.any) hs hQ (L:=L) (fuel:=n+p2.length) (Q1:=treeQ P .any l.toArray Q S (p2.map fun x=>(l.getD x.1 default,x.2)) n L)
   (fun a w hS h=>eJ hs hQ n L a w h2 hS (by rw[e];exact h)) p1 _ a w.drew h1 (fun _=>hS) (by rw[e];exact h))
  rw[hl]at H
  exact H)
theorem xB(h:K a w):rK P md ops Q S K 0 L a w:=h
theorem qO(rs:List Nat)(hr:Region.ready md ops L=rs)
 (h:∀i∈rs,∀K',(∀a' w',S w'->rK P md ops Q S K n (L.setIfInBounds i true) a' w'->K' a' w')->(ops.getD i default).wp P a w K' Q):rK P md ops Q S K (n+1) L a w:=by
 intro i hi;rw[hr]at hi;exact h i hi _ fun a' w' h1 h2=>⟨h1,h2⟩
theorem wp_putC{i j:Nat}{oj:Oper}{S0:iN->Prop}(hap:oi.apart ops oj=true)(hsi:∀cs b,oi.op≠.select cs b)(hsj:∀cs b,oj.op≠.select cs b)
 (hQ:∀c a w,Q (.panic c) (a.put oi.dst v) w->Q (.panic c) a w)(hy:YieldsC P ops S0 oi v a)(h:oj.wp P (a.put oi.dst v) w K Q):
 oj.wp P a w (fun a' w'=>YieldsC P ops S0 oi v a'/\K (a'.put oi.dst v) w') Q:=by
 obtain⟨h1,h2,h3⟩:=Oper.apart_spec hap
 have keep:∀(a:Act),YieldsC P ops S0 oi v a->∀u,YieldsC P ops S0 oi v (a.put oj.dst u):=fun a hy u=>
  hy.of_same (execOp_put oi hsi a oj.dst u h3) (wanted_put oi a oj.dst u h3)
 have keepD:∀d,YieldsC P ops S0 oi v { a with defers:=d::a.defers }:=fun d=>hy.of_same rfl rfl;unfold Oper.wp at*;rw[execOp_put oj hsj a oi.dst v h1]at h
 generalize (execOp a.eval oj).run P w=r at*
 cases r with
 |ok n w'=>
  cases n<;>simp only[Oper.upon]at h |-
  case value u=>exact⟨keep a hy u,by rw[<-Act.put_comm a v u h2];exact h⟩
  case skip=>exact⟨keep a hy _,by rw[<-Act.put_comm a v undef h2];exact h⟩
  case defer d=>
   refine⟨keep _ (keepD d) _,?_⟩;rw[<-Act.put_comm _ v undef h2,<-Act.put_defers];exact h
  case enter f args=>
   refine Calls.mono h fun e w'' he=>?_
   cases e with
   |returned u=>exact⟨keep a hy u,by rw[<-Act.put_comm a v u h2];exact he⟩
   |panicked c=>exact hQ _ _ _ he
   |outgrown=>exact he
  case row row args=>exact Rows.mono h fun u w'' he=>⟨keep a hy u,by rw[<-Act.put_comm a v u h2];exact he⟩
 |halt x w'=>
  cases x<;>simp only[Oper.upon]at h |-
  case panic u=>exact hQ _ _ _ h
def lastOk(md:Region.Mode)(ops:Array Oper)(i:Nat):Nat->Array Bool->Bool
 |0,L=>decide (Region.ready md ops L=[i])
 |n+1,L=>(Region.ready md ops L).all fun j=>j==i||lastOk md ops i n (L.setIfInBounds j true)
theorem wpTree_free(hi:ops[i]?=some oi)(hsel:∀(j:Nat)(o:Oper) cs b,ops[j]?=some o->o.op≠.select cs b)(hQ:kU Q):
 ∀(n:Nat)(L:Array Bool)(a:Act)(w:iN),
  (∀j oj,ops[j]?=some oj->j≠i->L.getD j true=false->(∀e∈oj.after,Region.binds md e=true->e.on≠i)->oi.apart ops oj=true)->
  i∈Region.ready md ops L->lastOk md ops i n L=true->oi.guard=none->YieldsC P ops (fun _=>True) oi v a->S w->
  rK P md ops Q S K n (L.setIfInBounds i true) (a.put oi.dst v) w->rK P md ops Q S K (n+1) L a w:=by
 have hself:∀(n:Nat)(L:Array Bool)(a:Act)(w:iN),oi.guard=none->YieldsC P ops (fun _=>True) oi v a->S w->rK P md ops Q S K n (L.setIfInBounds i true) (a.put oi.dst v) w->
  (ops.getD i default).wp P a w (fun a' w'=>S w'/\rK P md ops Q S K n (L.setIfInBounds i true) a' w') Q:=by
  intro n L a w hg hy hS H;have e:ops.getD i default=oi:=by rw[Array.getD_eq_getD_getElem?,hi];rfl
  rw[e]
  rcases hy with⟨_,hv⟩|⟨hw,_⟩
  ·exact(hv w trivial).wp ⟨hS,H⟩
  ·unfold Region.wanted at hw
   rw[hg]at hw
   cases hw
 intro n
 induction n with
 |zero=>
  intro L a w _ hr hlast hg hy hS H j hj;have h1:Region.ready md ops L=[i]:=of_decide_eq_true hlast;rw[h1]at hj;obtain rfl:j=i:=by simpa using hj
  exact hself 0 L a w hg hy hS H
 |succ n ih=>
  intro L a w hfree hr hlast hg hy hS H j hj
  by_cases hji:j=i
  ·subst hji;exact hself _ L a w hg hy hS H
  ·have h1:=H j (ready_mono hj hji)
   obtain⟨hjun,oj,hoj,hall⟩:=mem_ready.1 hj
   have hnot:∀e∈oj.after,Region.binds md e=true->e.on≠i:=fun e he hb heq=>by
    have h1:=hall e he hb;have h0:=(mem_ready.1 hr).1;rw[heq]at h1
    rcases Nat.lt_or_ge i L.size with h'|h'
    ·simp[h']at h0 h1;rw[h0]at h1;cases h1
    ·simp[Array.getElem?_eq_none h']at h1
   have ej:ops.getD j default=oj:=by rw[Array.getD_eq_getD_getElem?,hoj];rfl
   rw[ej]at h1 |-
   have h2:=wp_putC (i:=i) (j:=j) (hfree j oj hoj hji hjun hnot) (fun cs b=>hsel i oi cs b hi) (fun cs b=>hsel j oj cs b hoj) (fun c a w hq=>hQ _ _ _ _ (by simp[put_defers]) hq) hy h1
   have hfree':∀k ok,ops[k]?=some ok->k≠i->(L.setIfInBounds j true).getD k true=false->
    (∀e∈ok.after,Region.binds md e=true->e.on≠i)->oi.apart ops ok=true:=fun k ok hk hki hun hno=>by
    refine hfree k ok hk hki ?_ hno
    by_cases hjk:j=k
    ·subst hjk;exact hjun
    ·rw[getD_set_ne true hjk]at hun;exact hun
   have hl2:lastOk md ops i n (L.setIfInBounds j true)=true:=by
    simp only[lastOk,List.all_eq_true,Bool.or_eq_true,beq_iff_eq]at hlast;exact(hlast j hj).resolve_left hji
   refine Oper.wp_mono (fun a' w' h3=>⟨h3.2.1,ih (L.setIfInBounds j true) a' w' hfree' (ready_mono hr (Ne.symm hji)) hl2 hg h3.1 h3.2.1 ?_⟩) h2
   rw[Array.setIfInBounds_comm _ _ hji];exact h3.2.2
def takeOk(md:Region.Mode)(ops:Array Oper)(i n:Nat)(L:Array Bool):Bool:=Region.noSelect ops&&decide (i<ops.size)&&Region.free md ops L i&&(Region.ready md ops L).contains i&&lastOk md ops i n L&&(ops.getD i default).guard.isNone
theorem zL(i:Nat)(v:Value)(hc:takeOk md ops i n L=true)(hQ:kU Q)
 (hv:∀w,(execOp a.eval (ops.getD i default)).run P w=.ok (.value v) w)(hS:S w)(h:rK P md ops Q S K n (L.setIfInBounds i true) (a.put (ops.getD i default).dst v) w):rK P md ops Q S K (n+1) L a w:=by
 simp only[takeOk,Bool.and_eq_true,decide_eq_true_eq,Option.isNone_iff_eq_none]at hc;obtain⟨⟨⟨⟨⟨hs,hi⟩,hf⟩,hr⟩,hl⟩,hg⟩:=hc
 have hi':ops[i]?=some (ops.getD i default):=by simp[Array.getD,hi]
 refine wpTree_free hi' (Region.noSelect_spec hs) hQ n L a w (Region.free_spec hi' hf) (by simpa using hr) hl hg (.inl ⟨?_,fun w _=>.inl (hv w)⟩) hS h;unfold Region.wanted
 rw[hg]
end
theorem wordsZ:(prog.info? 328).bind (·.zero)=some (.agg (qI (List.replicate 8 0))):=by kernel_rfl
theorem keys_any(w:iN):Calls prog 255 #[] w (vO (.agg (qI shaKeys)) w):=by
 go_enter func255,ntmps255;go_upto_region 0 with(fail);refine qL [1] ?_;simp only[qB];refine qK (zB w64Z (fun w1 hB1 hm1 hs1=>?_));simp only[qB]
 go_upto_region 1 with(fail);refine qL [1,1] ?_;simp only[qB];refine cF rfl (zH 340 _ _ (qI shaKeys) (by rfl) (by rfl) (by kernel_rfl)) trivial ?_
 try simp only[qC]
 refine qK (xU 340 0 (qI shaKeys) (xV _) 64 (by kernel_rfl) hB1 (fun w2 hB2 hm2=>?_) (hoff:=by rw[qF,qF];simp[shaKeys]))
 simp only[qB];rw[yQ (by kernel_rfl)]at hB2;go_wp2
 refine bodyPost_ret (results_cell_row rfl _ _ w.heap.size _ _ _ _ (by rfl) hB2 underlying340 rfl (by kernel_rfl)) rfl ?_;exact⟨rfl,hm1.transB hm2 (Nat.le_refl _)⟩
theorem begin_any(w:iN):Calls prog 225 #[] w (vO (.agg (qI shaBegin.list)) w):=by
 go_enter func225,ntmps225;go_upto_region 0 with(fail);refine qL [1] ?_;simp only[qB];refine qK (zB wordsZ (fun w1 hB1 hm1 hs1=>?_));simp only[qB]
 go_upto_region 1 with(fail);refine qL [1,1] ?_;simp only[qB];refine cF rfl (zH 328 _ _ (qI shaBegin.list) (by rfl) (by rfl) (by kernel_rfl)) trivial ?_
 try simp only[qC]
 refine qK (xU 328 0 (qI shaBegin.list) (xV _) 8 (by kernel_rfl) hB1 (fun w2 hB2 hm2=>?_) (hoff:=by rw[qF,qF];simp[W8.list]))
 simp only[qB];rw[yQ (by kernel_rfl)]at hB2;go_wp2
 refine bodyPost_ret (results_cell_row rfl _ _ w.heap.size _ _ _ _ (by rfl) hB2 underlying328 rfl (by kernel_rfl)) rfl ?_;exact⟨rfl,hm1.transB hm2 (Nat.le_refl _)⟩
theorem yF{b:Nat}{c:W8}(h:w.heap[b]?=some (.cells (qI c.list) T (0,0)))(i:Nat)(hi:i<8):w.cell? ⟨b,i,none⟩=some (qX (c.list.getD i 0)):=by
 rw[cell_of_row _ _ _ _ _ _ h,uJ (by simpa[W8.list]using hi),List.getD_eq_getElem?_getD,List.getElem?_eq_getElem (by simpa[W8.list]using hi)]
 rfl
theorem word64{b:Nat}{l:List UInt32}(h:w.heap[b]?=some (.cells (qI l) T (0,0)))(hl:l.length=64)(hi:i<64):w.cell? ⟨b,i,none⟩=some (qX (l.getD i 0)):=by
 rw[cell_of_row _ _ _ _ _ _ h,uJ (by omega),List.getD_eq_getElem?_getD,List.getElem?_eq_getElem (by omega)]
 rfl
section
variable{P:Program}{ops:Array Oper}{Q:Exit->Act->iN->Prop}{S:iN->Prop}{md:Region.Mode}{K:Act->iN->Prop}
theorem kW(hr:(execOp a.eval o).run P w=.ok (.enter f args) w)(hc:Calls P f args w (vO v w))(k:∀w',Mod qJ w w'->K (a.put o.dst v) w'):o.wp P a w K Q:=by
 unfold Oper.wp;rw[hr,Oper.upon_enter];refine hc.mono fun e w' he=>?_;obtain⟨rfl,hm⟩:=he;exact k w' hm
def uF:List (Nat×Value)->Act->Act
 | [],a=>a
 |p::ps,a=>(uF ps a).put (some p.1) p.2
theorem puts_eval(h:∀p∈ps,p.1≠t)(a:Act):(uF ps a).eval (.tmp t)=a.eval (.tmp t):=by
 induction ps with
 |nil=>rfl
 |cons p ps ih=>
  rw[<-ih fun q hq=>h q (List.mem_cons_of_mem _ hq)];have:=h p List.mem_cons_self
  simp only[uF,Act.put,Act.eval,Array.getD_eq_getD_getElem?,Array.getElem?_setIfInBounds_ne this]
theorem puts_swap(p q:Nat×Value)(h:p.1≠q.1)(ps:List (Nat×Value))(a:Act):uF (p::q::ps) a=uF (q::p::ps) a:=by
 simp only[uF,Act.put];rw[Array.setIfInBounds_comm _ _ (Ne.symm h)]
theorem puts_perm{qs:List (Nat×Value)}(h:ps.Perm qs)(a:Act)(hn:(ps.map (·.1)).Nodup):uF ps a=uF qs a:=by
 induction h with
 |nil=>rfl
 |cons x _ ih=>
  simp only[uF];rw[ih (List.nodup_cons.1 hn).2]
 |swap x y l=>
  simp only[List.map_cons,List.nodup_cons,List.mem_cons,not_or]at hn;exact puts_swap _ _ hn.1.1 _ _
 |trans h1 _ ih1 ih2=>rw[ih1 hn,ih2 ((h1.map _).nodup_iff.1 hn)]
theorem perm_vals:∀{g:List Nat},(ps.map (·.1)).Perm g->∃vals:List Value,vals.length=g.length/\ps.Perm (g.zip vals):=by
 intro g
 induction g generalizing ps with
 |nil=>
  intro h;have:=h.length_eq;simp only[List.length_map,List.length_nil,List.length_eq_zero_iff]at this;subst this;exact⟨[],rfl,List.Perm.refl _⟩
 |cons d g ih=>
  intro h;have hd:d∈ps.map (·.1):=h.symm.subset List.mem_cons_self;obtain⟨p,hp,rfl⟩:=List.mem_map.1 hd;obtain⟨l,r,rfl⟩:=List.append_of_mem hp
  have hpp:(l++p::r).Perm (p::(l++r)):=List.perm_middle;have h2:=(hpp.map (·.1)).symm.trans h;simp only[List.map_cons]at h2
  obtain⟨vs,hl,hv⟩:=ih ((List.perm_cons _).1 h2);exact⟨p.2::vs,by simp[hl],hpp.trans (by simpa using hv.cons p)⟩
def grpOk(md:Region.Mode)(ops:Array Oper):Nat->List (Nat×Nat)->Array Bool->Bool
 |0,g,_=>g.isEmpty
 |n+1,g,L=>(Region.ready md ops L).all fun i=>g.any fun q=>q.1==i&&grpOk md ops n (g.erase q) (L.setIfInBounds i true)
theorem wpTree_grp{a:Act}{g0:List Nat}{J:List (Nat×Value)->iN->Prop}(hJS:∀ps w,J ps w->S w)
 (hn0:g0.Nodup)(hend:∀ps w,J ps w->(ps.map (·.1)).Perm g0->K (uF ps a) w):
 ∀(n:Nat)(g:List (Nat×Nat))(L:Array Bool)(ps:List (Nat×Value))(w:iN),grpOk md ops n g L=true->(ps.map (·.1)++g.map (·.2)).Perm g0->J ps w->
  (∀q∈g,∀ps w,J ps w->(∀p∈ps,p.1≠q.2/\p.1∈g0)->∀K',(∀v w',J ((q.2,v)::ps) w'->K' ((uF ps a).put (some q.2) v) w')->(ops.getD q.1 default).wp P (uF ps a) w K' Q)->
  rK P md ops Q S K n L (uF ps a) w
 |0,g,L,ps,w,hg,hp,hJ,_=>by
  simp only[grpOk,List.isEmpty_iff]at hg;subst hg;exact hend ps w hJ (by simpa using hp)
 |n+1,g,L,ps,w,hg,hp,hJ,hop=>by
  intro i hi;simp only[grpOk,List.all_eq_true]at hg;have h1:=hg i hi;simp only[List.any_eq_true,Bool.and_eq_true,beq_iff_eq]at h1;obtain⟨q,hq,rfl,hg'⟩:=h1
  have hnd:(ps.map (·.1)++g.map (·.2)).Nodup:=hp.symm.nodup_iff.1 hn0;refine hop q hq ps w hJ (fun p hpp=>⟨?_,?_⟩) _ fun v w' hJ'=>⟨hJS _ _ hJ',?_⟩
  ·rw[List.nodup_append]at hnd
   exact hnd.2.2 _ (List.mem_map_of_mem hpp) _ (List.mem_map_of_mem hq)
  ·exact hp.subset (List.mem_append_left _ (List.mem_map_of_mem hpp))
  ·refine wpTree_grp hJS hn0 hend n (g.erase q) _ ((q.2,v)::ps) w' hg' ?_ hJ' fun q' hq'=>hop q' (List.mem_of_mem_erase hq')
   refine List.Perm.trans ?_ hp;simp only[List.map_cons,List.cons_append];refine(List.perm_middle (l₁:=ps.map (·.1)) (a:=q.2) (l₂:=(g.erase q).map (·.2))).symm.trans ?_
   exact List.Perm.append_left _ (by simpa using((List.perm_cons_erase hq).map (·.2)).symm)
def GrpF(G:Nat->Value⊕Obj)(w0:iN)(d:Nat)(v:Value)(w:iN):Prop:=
 match G d with
 | .inl x=>v=x
 | .inr o=>∃b,v=iO b/\w.heap[b]?=some o/\w0.heap.size<=b/\b<w.heap.size
def GrpJ(G:Nat->Value⊕Obj)(w0:iN)(ps:List (Nat×Value))(w:iN):Prop:=
 Mod qJ w0 w/\(∀p∈ps,GrpF G w0 p.1 p.2 w)/\ps.Pairwise fun p q=>∀o o' b b',G p.1=.inr o->G q.1=.inr o'->p.2=iO b->q.2=iO b'->b≠b'
theorem GrpF.keep{G:Nat->Value⊕Obj}(h:GrpF G w0 d v w)(hm:Mod qJ w w'):GrpF G w0 d v w':=by
 unfold GrpF at*
 split
 ·rename_i x hx;rw[hx]at h;exact h
 ·rename_i o hx
  rw[hx]at h;obtain⟨b,rfl,hb,h1,h2⟩:=h;exact⟨b,rfl,hm.obj id hb,h1,Nat.lt_of_lt_of_le h2 hm.size⟩
theorem wpTree_rows(G:Nat->Value⊕Obj)(g:List (Nat×Nat))(hS:∀w,Mod qJ w0 w->S w)(hg:grpOk md ops n g L=true)(hn:(g.map (·.2)).Nodup)
 (hend:∀(vals:List Value)(w:iN),vals.length=g.length->GrpJ G w0 ((g.map (·.2)).zip vals) w->K (uF ((g.map (·.2)).zip vals) a) w)
 (hop:∀q∈g,∀ps w,Mod qJ w0 w->(∀p∈ps,p.1≠q.2/\p.1∈g.map (·.2))->∀K',(match G q.2 with
  | .inl x=>∀w',Mod qJ w w'->K' ((uF ps a).put (some q.2) x) w'
  | .inr o=>∀w',w'.heap[w.heap.size]?=some o->Mod qJ w w'->w.heap.size<w'.heap.size->K' ((uF ps a).put (some q.2) (iO w.heap.size)) w')->(ops.getD q.1 default).wp P (uF ps a) w K' Q):
 rK P md ops Q S K n L a w0:=by
 have hsym:∀{p q:Nat×Value},(∀o o' b b',G p.1=.inr o->G q.1=.inr o'->p.2=iO b->q.2=iO b'->b≠b')->
  (∀o o' b b',G q.1=.inr o->G p.1=.inr o'->q.2=iO b->p.2=iO b'->b≠b'):=fun h o o' b b' h1 h2 h3 h4=>(h o' o b' b h2 h1 h4 h3).symm
 refine wpTree_grp (J:=GrpJ G w0) (g0:=g.map (·.2)) (fun ps w h=>hS w h.1) hn (fun ps w hJ hp=>?_) n g L [] w0 hg (by simp) ⟨Mod.refl _ _,fun p hp=>(nomatch hp),List.Pairwise.nil⟩ (fun q hq ps w hJ hps K' hK'=>?_)
 ·obtain⟨vals,hl,hv⟩:=perm_vals hp
  rw[puts_perm hv a (hp.symm.nodup_iff.1 hn)];refine hend vals w (by simpa using hl) ⟨hJ.1,fun p hp=>hJ.2.1 p (hv.symm.subset hp),?_⟩;exact(hv.pairwise_iff hsym).1 hJ.2.2
 ·refine hop q hq ps w hJ.1 hps K' ?_
  cases e:G q.2 with
  |inl x=>
   intro w' hm;refine hK' _ _ ⟨hJ.1.trans0 hm,fun p hp=>?_,?_⟩
   ·rcases List.mem_cons.1 hp with rfl|hp
    ·unfold GrpF;rw[e]
    ·exact(hJ.2.1 p hp).keep hm
   ·refine List.Pairwise.cons (fun p hp o o' b b' h1=>?_) hJ.2.2
    rw[e]at h1;cases h1
  |inr o=>
   intro w' hb hm hs;refine hK' _ _ ⟨hJ.1.trans0 hm,fun p hp=>?_,?_⟩
   ·rcases List.mem_cons.1 hp with rfl|hp
    ·unfold GrpF;rw[e];exact⟨_,rfl,hb,hJ.1.size,hs⟩
    ·exact(hJ.2.1 p hp).keep hm
   ·refine List.Pairwise.cons (fun p hp o' o2 b b' h1 h2 h3 h4=>?_) hJ.2.2
    have:=hJ.2.1 p hp;unfold GrpF at this;rw[h2]at this;obtain⟨c,hc,-,-,hlt⟩:=this;rw[hc]at h4
    simp only[Value.pointer.injEq,Option.some.injEq,Addr.mk.injEq]at h3 h4;omega
def tB:List (Nat×(Value⊕Obj))->Nat->Value⊕Obj
 | [],_=>.inl undef
 |(d,x)::r,e=>if d=e then x else tB r e
theorem kL{α:Type}{l:List α}(h:l.length=n+1):∃x r,l=x::r/\r.length=n:=by
 cases l with
 |nil=>cases h
 |cons x r=>exact⟨x,r,rfl,by simpa using h⟩
theorem GrpJ.ne{G:Nat->Value⊕Obj}(h:GrpJ G w0 ps w){b:Nat}{o o':Obj}(hp:(d,Value.pointer (some ⟨b,0,none⟩))∈ps)(hq:(e,Value.pointer (some ⟨b',0,none⟩))∈ps)(hde:d≠e)(h1:G d=.inr o)(h2:G e=.inr o'):b≠b':=by
 obtain⟨i,hi,hpi⟩:=List.getElem_of_mem hp;obtain⟨j,hj,hqj⟩:=List.getElem_of_mem hq;have H:=List.pairwise_iff_getElem.1 h.2.2
 rcases Nat.lt_trichotomy i j with hlt|rfl|hlt
 ·have:=H i j hi hj hlt
  rw[hpi,hqj]at this;exact this o o' b b' h1 h2 rfl rfl
 ·rw[hpi]at hqj;injection hqj with h1 _;exact absurd h1 hde
 ·have:=H j i hj hi hlt
  rw[hpi,hqj]at this;exact(this o' o b' b h2 h1 rfl rfl).symm
end
theorem words_at{ba oa:Nat}{s:W8}(hcur:w.heap[ba]?=some (.cells cur T (0,0)))(hs:∀k,k<8->cur[oa+k]?=some (qX (s.list.getD k 0))):CellsAt w ba oa (qI s.list):=by
 intro j hj;rw[qF]at hj;have hj8:j<8:=by simpa[W8.list]using hj
 rw[cell_of_row _ _ _ _ _ _ hcur,hs j hj8,uJ hj,List.getD_eq_getElem?_getD,List.getElem?_eq_getElem hj]
 rfl
theorem built8(x0 x1 x2 x3 x4 x5 x6 x7:UInt32):prog.built 328 [(0,qX x0),(1,qX x1),(2,qX x2),(3,qX x3),(4,qX x4),(5,qX x5),(6,qX x6),(7,qX x7)]=some (qI [x0,x1,x2,x3,x4,x5,x6,x7]):=by kernel_rfl
theorem aK{cs:iL}(h:off+cs.size<=cur.size)(k:Nat):(zE cur off cs)[k]?=if off<=k/\k<off+cs.size then cs[k-off]? else cur[k]?:=by
 have hl:(cur.toList.take off).length=off:=by rw[List.length_take,Array.length_toList];omega
 simp only[zE,List.getElem?_toArray,List.append_assoc]
 rcases Nat.lt_or_ge k off with h1|h1
 ·rw[List.getElem?_append_left (by omega),if_neg (by omega),List.getElem?_take_of_lt h1,Array.getElem?_toList]
 ·rw[List.getElem?_append_right (by omega),hl]
  rcases Nat.lt_or_ge k (off+cs.size)with h2|h2
  ·rw[List.getElem?_append_left (by rw[Array.length_toList];omega),if_pos ⟨h1,h2⟩,Array.getElem?_toList]
  ·rw[List.getElem?_append_right (by rw[Array.length_toList];omega),if_neg (by omega),Array.length_toList,List.getElem?_drop,Array.getElem?_toList]
   congr 1;try omega
theorem putRow_none(h:off<=cur.size):zE cur off (qI [])=cur:=by
 apply Array.ext_getElem?;intro k
 rw[aK (by rw[show(qI []).size=0 from rfl];omega),if_neg (by rw[show(qI []).size=0 from rfl];omega)]
theorem putRow_step{oa:Nat}{l:List UInt32}(hn:n<l.length)(h:oa+l.length<=cur.size):(zE cur oa (qI (l.take n))).setIfInBounds (oa+n) (qX (l.getD n 0))=zE cur oa (qI (l.take (n+1))):=by
 have s1:(qI (l.take n)).size=n:=by rw[qF,List.length_take];omega
 have s2:(qI (l.take (n+1))).size=n+1:=by rw[qF,List.length_take];omega
 have hp:(zE cur oa (qI (l.take n))).size=cur.size:=kQ (by omega)
 apply Array.ext_getElem?;intro k
 rw[aK (by omega),Array.getElem?_setIfInBounds,hp,s2]
 by_cases e:oa+n=k
 ·subst e
  rw[if_pos rfl,if_pos (by omega),if_pos (by omega),uJ (by rw[List.length_take];omega),List.getD_eq_getElem?_getD,List.getElem?_eq_getElem hn]
  simp
 ·rw[if_neg e,aK (by omega),s1]
  by_cases h2:oa<=k/\k<oa+n
  ·rw[if_pos h2,if_pos (by omega),uJ (by rw[List.length_take];omega),uJ (by rw[List.length_take];omega)]
   simp
  ·rw[if_neg h2,if_neg (by omega)]
theorem addW_at(s t:W8)(n:Nat)(h:n<8):(gA s t).list.getD n 0=s.list.getD n 0+t.list.getD n 0:=by
 match n,h with
 |0,_|1,_|2,_|3,_|4,_|5,_|6,_|7,_=>rfl
def AddRel(w0:iN)(ba oa:Nat)(cur:iL)(T:TypeId)(b4:Nat)(s c:W8)(i:Value)(w:iN):Prop:=∃n:Nat,n<=8/\i=.int .i64 n/\w.heap[ba]?=some (.cells (zE cur oa (qI ((gA s c).list.take n))) T (0,0))/\
 w.heap[b4]?=some (.cells (qI c.list) 328 (0,0))/\Mod (fun k=>k=ba) w0 w
def BlockR(w:iN)(ba oa:Nat)(cur:iL)(T:TypeId)(r:W8):iJ:=fun e w'=>e=.returned (.tuple #[])/\w'.heap[ba]?=some (.cells (zE cur oa (qI r.list)) T (0,0))/\Mod (fun k=>k=ba) w w'
def RoundRel(w0:iN)(b4 b5 b6:Nat)(sp:List UInt32)(s:W8)(i:Value)(w:iN):Prop:=∃n:Nat,n<=64/\i=.int .i64 n/\w.heap[b4]?=some (.cells (qI (bR shaKeys sp n s).list) 328 (0,0))/\
 w.heap[b5]?=some (.cells (qI shaKeys) 340 (0,0))/\w.heap[b6]?=some (.cells (qI sp) 340 (0,0))/\Mod qJ w0 w
theorem block_any{own:Bool}(hb:Sl own w G 1 yA v b)(hl:b.length=64)(ba oa:Nat)(cur:iL)(T:TypeId)(s:W8)
 (hcur:w.heap[ba]?=some (.cells cur T (0,0)))(hsz:oa+8<=cur.size)(hs:∀k,k<8->cur[oa+k]?=some (qX (s.list.getD k 0))):
 Calls prog 227 #[.pointer (some ⟨ba,oa,none⟩),v] w (BlockR w ba oa cur T (sM s b)):=by
 obtain⟨sp,hsp⟩:∃sp,xW b 64=sp:=⟨_,rfl⟩;have hspl:sp.length=64:=by rw[<-hsp];exact pA b 64
 have hspr:∀w1,Mod qJ w w1->Calls prog 256 #[v] w1 (vO (.agg (qI sp)) w1):=fun w1 hm=>by
  have:=spread_any (hb.keep0 hm) hl
  rwa[hsp]at this
 have HSP:=O hsp;have HSR:=O hspr;have HSS:=O hs;clear hsp hb hspr hs;go_enter func227,ntmps227;go_upto_region 0 with(fail)
 have hD:Mod qJ w w.drew:=(Mod.refl _ _).drew
 refine yU [(0,3),(1,3),(2,0),(4,3)] 5 [(9,1),(10,1),(11,1)] [] (fun w'=>Mod qJ w.drew w') #[true,true,true,false,true,false,false,false,false,false,false,false] (by kernel_rfl) (by kernel_rfl) (by kernel_rfl) (by kernel_rfl) (by kernel_rfl) (fun _ _ _ _ hd h=>⟨hd.trans h.1,h.2⟩) (Mod.refl _ _) ?_
 simp only[qB];refine zJ 328 (fun w' hS=>words_at ((hD.trans0 hS).obj id hcur) HSS.out) 8 (by rw[qF];rfl) ?_;simp only[qB]
 refine wpTree_rows (tB [(14,.inl (.agg (qI shaKeys))),(16,.inl (.agg (qI sp))),(4,.inr (.cells (qI (List.replicate 8 0)) 328 (0,0))),(5,.inr (.cells (qI (List.replicate 64 0)) 340 (0,0))),(6,.inr (.cells (qI (List.replicate 64 0)) 340 (0,0)))]) [(3,14),(5,16),(6,4),(7,5),(8,6)] (fun _ h=>h) (by kernel_rfl) (by decide) ?hend ?hop
 case hop=>
  intro q hq ps w1 hm hps K hK;simp only[List.mem_cons,List.not_mem_nil,or_false]at hq
  rcases hq with rfl|rfl|rfl|rfl|rfl
  ·simp only[tB,Nat.reduceEqDiff,if_true,if_false,reduceIte]at hK
   simp only[zz5];exact kW (xM 255 [] _ rfl _ func255 rfl (by kernel_rfl) [] rfl _) (keys_any w1) hK
  ·simp only[tB,Nat.reduceEqDiff,if_true,if_false,reduceIte]at hK
   simp only[zz5]
   exact kW (xM 256 [.tmp 15] _ rfl _ func256 rfl (by kernel_rfl) [v] (by rw[List.map_cons,puts_eval (fun p hp e=>by have:=(hps p hp).2;rw[e]at this;simp at this)];rfl) _) (HSR.out _ (hD.trans0 hm)) hK
  ·simp only[tB,Nat.reduceEqDiff,if_true,if_false,reduceIte]at hK
   simp only[zz5];exact jX 328 _ (by rfl) wordsZ (fun w' hB hm' hs'=>hK w' hB hm' hs')
  ·simp only[tB,Nat.reduceEqDiff,if_true,if_false,reduceIte]at hK
   simp only[zz5];exact jX 340 _ (by rfl) w64Z (fun w' hB hm' hs'=>hK w' hB hm' hs')
  ·simp only[tB,Nat.reduceEqDiff,if_true,if_false,reduceIte]at hK
   simp only[zz5];exact jX 340 _ (by rfl) w64Z (fun w' hB hm' hs'=>hK w' hB hm' hs')
 intro vals wz hvl hJ;obtain⟨v14,vals1,rfl,hvl1⟩:=kL hvl;obtain⟨v16,vals2,rfl,hvl2⟩:=kL hvl1;obtain⟨v4,vals3,rfl,hvl3⟩:=kL hvl2
 obtain⟨v5,vals4,rfl,hvl4⟩:=kL hvl3;obtain⟨v6,vals5,rfl,hvl5⟩:=kL hvl4;obtain rfl:=List.eq_nil_of_length_eq_zero hvl5
 simp only[List.map_cons,List.map_nil,List.zip_cons_cons,List.zip_nil_left]at hJ |-;have h14:=hJ.2.1 (14,v14) (by simp)
 simp only[GrpF,tB,Nat.reduceEqDiff,if_true,if_false,reduceIte]at h14;subst h14;have h16:=hJ.2.1 (16,v16) (by simp)
 simp only[GrpF,tB,Nat.reduceEqDiff,if_true,if_false,reduceIte]at h16;subst h16;have h4:=hJ.2.1 (4,v4) (by simp)
 simp only[GrpF,tB,Nat.reduceEqDiff,if_true,if_false,reduceIte]at h4;obtain⟨b4,rfl,hB4,hL4,hH4⟩:=h4;have h5:=hJ.2.1 (5,v5) (by simp)
 simp only[GrpF,tB,Nat.reduceEqDiff,if_true,if_false,reduceIte]at h5;obtain⟨b5,rfl,hB5,hL5,hH5⟩:=h5;have h6:=hJ.2.1 (6,v6) (by simp)
 simp only[GrpF,tB,Nat.reduceEqDiff,if_true,if_false,reduceIte]at h6;obtain⟨b6,rfl,hB6,hL6,hH6⟩:=h6
 have hN4_5:b4≠b5:=hJ.ne (d:=4) (e:=5) (by simp) (by simp) (by decide) (by simp only[tB,Nat.reduceEqDiff,if_true,if_false,reduceIte];rfl) (by simp only[tB,Nat.reduceEqDiff,if_true,if_false,reduceIte];rfl)
 have hN4_6:b4≠b6:=hJ.ne (d:=4) (e:=6) (by simp) (by simp) (by decide) (by simp only[tB,Nat.reduceEqDiff,if_true,if_false,reduceIte];rfl) (by simp only[tB,Nat.reduceEqDiff,if_true,if_false,reduceIte];rfl)
 have hN5_6:b5≠b6:=hJ.ne (d:=5) (e:=6) (by simp) (by simp) (by decide) (by simp only[tB,Nat.reduceEqDiff,if_true,if_false,reduceIte];rfl) (by simp only[tB,Nat.reduceEqDiff,if_true,if_false,reduceIte];rfl)
 have hGM:=hJ.1;clear hJ hvl hvl1 hvl2 hvl3 hvl4 hvl5;simp only[uF];try simp only[qC]
 refine qH rfl (fun K hK=>?_)
 refine qT 328 (qI s.list) (xV _) 8 (by rw[qF];rfl) hB4 (fun w2 hC4 hm2=>?_) (hoff:=by rw[qF,qF];simp[W8.list])
 have hG2:=hGM.transB hm2 hL4;replace hB5:=hm2.objB (by omega) hB5;replace hB6:=hm2.objB (by omega) hB6;clear hB4 hm2;refine hK _ _ hG2 ?_;clear hK K;try simp only[qC]
 refine qH rfl (fun K hK=>?_)
 refine qT 340 (qI shaKeys) (xV _) 64 (by rw[qF];rfl) hB5 (fun w3 hC5 hm3=>?_) (hoff:=by rw[qF,qF];simp[shaKeys])
 have hG3:=hG2.transB hm3 hL5;replace hC4:=hm3.objB (by omega) hC4;replace hB6:=hm3.objB (by omega) hB6;clear hB5 hm3;refine hK _ _ hG3 ?_;clear hK K;try simp only[qC]
 refine qH rfl (fun K hK=>?_)
 refine qT 340 (qI sp) (xV _) 64 (by rw[qF];exact hspl) hB6 (fun w4 hC6 hm4=>?_) (hoff:=by rw[qF,qF,hspl];simp)
 have hG4:=hG3.transB hm4 hL6;replace hC4:=hm4.objB (by omega) hC4;replace hC5:=hm4.objB (by omega) hC5;clear hB6 hm4;refine hK _ _ hG4 ?_;clear hK K;simp only[qB]
 have hM:=hD.trans0 hG4
 have hba:ba<w.heap.size:=by
  rcases Nat.lt_or_ge ba w.heap.size with h|h
  ·exact h
  ·rw[Array.getElem?_eq_none h]at hcur;cases hcur
 replace hL4:w.heap.size<=b4:=hL4;replace hL5:w.heap.size<=b5:=hL5;replace hL6:w.heap.size<=b6:=hL6;clear hG2 hG3 hG4 hGM hH4 hH5 hH6 hD;go_wp2
 go_loopw [17] (RoundRel w b4 b5 b6 sp s) (fun i _=>64-(intOf i).toNat)
 case atStart=>exact⟨0,by omega,rfl,hC4,hC5,hC6,hM⟩
 case round=>
  rename iN=>wr
  clear hC4 hC5 hC6 hM;obtain⟨n,hn,rfl,hC4,hC5,hC6,hM⟩:=hrel
  by_cases hlt:n<64
  ·have hz:(n:Int)<64:=by omega
   obtain⟨c,hc⟩:∃c,bR shaKeys sp n s=c:=⟨_,rfl⟩;have hnext:bR shaKeys sp (n+1) s=round c (shaKeys.getD n 0) (sp.getD n 0):=by rw[<-hc];rfl
   rw[hc]at hC4;have HC:=O hc;have HN:=O hnext;clear hc hnext;go_upto_region 4 with(fail);have hS:Mod qJ wr wr.drew:=(Mod.refl _ _).drew
   refine zZ [3,0,3,0,0,3,0,0,3,3,0,0,3,3,3,0,3,0,3,3,0,3,3,0,3,3,3,3,3,0,3,3,3,0,3,3] [] (fun w'=>Mod qJ wr w') hS ?_;simp only[qB]
   refine zO 328 1 (i:=7) (by omega) ?_;simp only[qC];refine qE 301 (fun w' hS=>yF (hS.obj id hC4) 7 (by omega)) ?_;simp only[qC]
   refine zO 328 1 (i:=4) (by omega) ?_;simp only[qC];refine qE 301 (fun w' hS=>yF (hS.obj id hC4) 4 (by omega)) ?_;simp only[qC]
   refine uA (f:=257) rfl ?_ (fun w' hS=>vQ c.e 6 (by omega) w') ?_
   ·exact xM 257 _ _ rfl _ func257 rfl (by kernel_rfl) _ rfl
   simp only[qC];refine zO 328 1 (i:=4) (by omega) ?_;simp only[qC];refine qE 301 (fun w' hS=>yF (hS.obj id hC4) 4 (by omega)) ?_;simp only[qC]
   refine uA (f:=257) rfl ?_ (fun w' hS=>vQ c.e 11 (by omega) w') ?_
   ·exact xM 257 _ _ rfl _ func257 rfl (by kernel_rfl) _ rfl
   simp only[qC];refine xQ _ _ _ _ _ _ rfl rfl rfl rfl ?_;simp only[qC];refine zO 328 1 (i:=4) (by omega) ?_;simp only[qC]
   refine qE 301 (fun w' hS=>yF (hS.obj id hC4) 4 (by omega)) ?_;simp only[qC];refine uA (f:=257) rfl ?_ (fun w' hS=>vQ c.e 25 (by omega) w') ?_
   ·exact xM 257 _ _ rfl _ func257 rfl (by kernel_rfl) _ rfl
   simp only[qC];refine xQ _ _ _ _ _ _ rfl rfl rfl rfl ?_;simp only[qC];refine xR _ _ _ _ _ _ rfl rfl rfl rfl ?_;simp only[qC]
   refine zO 328 1 (i:=4) (by omega) ?_;simp only[qC];refine qE 301 (fun w' hS=>yF (hS.obj id hC4) 4 (by omega)) ?_;simp only[qC]
   refine zO 328 1 (i:=5) (by omega) ?_;simp only[qC];refine qE 301 (fun w' hS=>yF (hS.obj id hC4) 5 (by omega)) ?_;simp only[qC]
   refine vP _ _ _ _ _ _ rfl rfl rfl rfl ?_;simp only[qC];refine zO 328 1 (i:=4) (by omega) ?_;simp only[qC]
   refine qE 301 (fun w' hS=>yF (hS.obj id hC4) 4 (by omega)) ?_;simp only[qC];refine wpPi_not32 _ _ _ rfl rfl rfl ?_;simp only[qC]
   refine zO 328 1 (i:=6) (by omega) ?_;simp only[qC];refine qE 301 (fun w' hS=>yF (hS.obj id hC4) 6 (by omega)) ?_;simp only[qC]
   refine vP _ _ _ _ _ _ rfl rfl rfl rfl ?_;simp only[qC];refine xQ _ _ _ _ _ _ rfl rfl rfl rfl ?_;simp only[qC]
   refine xR _ _ _ _ _ _ rfl rfl rfl rfl ?_;simp only[qB];refine zO 340 1 hlt ?_;simp only[qC]
   refine qE (v:=qX (shaKeys.getD n 0)) (b:=b5) (off:=n*1) 301 (fun w' hS=>by rw[Nat.mul_one];exact word64 (hS.obj id hC5) (by rfl) hlt) ?_;simp only[qC]
   refine xR _ _ _ _ _ _ rfl rfl rfl rfl ?_;simp only[qB];refine zO 340 1 hlt ?_;simp only[qC]
   refine qE (v:=qX (sp.getD n 0)) (b:=b6) (off:=n*1) 301 (fun w' hS=>by rw[Nat.mul_one];exact word64 (hS.obj id hC6) hspl hlt) ?_;simp only[qC]
   refine xR _ _ _ _ _ _ rfl rfl rfl rfl ?_;simp only[qB];replace hM:=hM.trans0 hS;replace hC4:=hS.obj id hC4;replace hC5:=hS.obj id hC5
   replace hC6:=hS.obj id hC6;clear hS;generalize wr.drew=wy at*;go_upto_region 5 with(fail);have hS:Mod qJ wy wy.drew:=(Mod.refl _ _).drew
   refine zZ [3,0,0,3,0,0,3,3,0,0,3,3,0,3,0,3,3,0,3,0,3,3,3,0,3,0,3,3,3,3] [] (fun w'=>Mod qJ wy w') hS ?_;simp only[qB]
   refine zO 328 1 (i:=0) (by omega) ?_;simp only[qC];refine qE 301 (fun w' hS=>yF (hS.obj id hC4) 0 (by omega)) ?_;simp only[qC]
   refine uA (f:=257) rfl ?_ (fun w' hS=>vQ c.a 2 (by omega) w') ?_
   ·exact xM 257 _ _ rfl _ func257 rfl (by kernel_rfl) _ rfl
   simp only[qC];refine zO 328 1 (i:=0) (by omega) ?_;simp only[qC];refine qE 301 (fun w' hS=>yF (hS.obj id hC4) 0 (by omega)) ?_;simp only[qC]
   refine uA (f:=257) rfl ?_ (fun w' hS=>vQ c.a 13 (by omega) w') ?_
   ·exact xM 257 _ _ rfl _ func257 rfl (by kernel_rfl) _ rfl
   simp only[qC];refine xQ _ _ _ _ _ _ rfl rfl rfl rfl ?_;simp only[qC];refine zO 328 1 (i:=0) (by omega) ?_;simp only[qC]
   refine qE 301 (fun w' hS=>yF (hS.obj id hC4) 0 (by omega)) ?_;simp only[qC];refine uA (f:=257) rfl ?_ (fun w' hS=>vQ c.a 22 (by omega) w') ?_
   ·exact xM 257 _ _ rfl _ func257 rfl (by kernel_rfl) _ rfl
   simp only[qC];refine xQ _ _ _ _ _ _ rfl rfl rfl rfl ?_;simp only[qC];refine zO 328 1 (i:=0) (by omega) ?_;simp only[qC]
   refine qE 301 (fun w' hS=>yF (hS.obj id hC4) 0 (by omega)) ?_;simp only[qC];refine zO 328 1 (i:=1) (by omega) ?_;simp only[qC]
   refine qE 301 (fun w' hS=>yF (hS.obj id hC4) 1 (by omega)) ?_;simp only[qC];refine vP _ _ _ _ _ _ rfl rfl rfl rfl ?_;simp only[qC]
   refine zO 328 1 (i:=0) (by omega) ?_;simp only[qC];refine qE 301 (fun w' hS=>yF (hS.obj id hC4) 0 (by omega)) ?_;simp only[qC]
   refine zO 328 1 (i:=2) (by omega) ?_;simp only[qC];refine qE 301 (fun w' hS=>yF (hS.obj id hC4) 2 (by omega)) ?_;simp only[qC]
   refine vP _ _ _ _ _ _ rfl rfl rfl rfl ?_;simp only[qC];refine xQ _ _ _ _ _ _ rfl rfl rfl rfl ?_;simp only[qC];refine zO 328 1 (i:=1) (by omega) ?_
   simp only[qC];refine qE 301 (fun w' hS=>yF (hS.obj id hC4) 1 (by omega)) ?_;simp only[qC];refine zO 328 1 (i:=2) (by omega) ?_;simp only[qC]
   refine qE 301 (fun w' hS=>yF (hS.obj id hC4) 2 (by omega)) ?_;simp only[qC];refine vP _ _ _ _ _ _ rfl rfl rfl rfl ?_;simp only[qC]
   refine xQ _ _ _ _ _ _ rfl rfl rfl rfl ?_;simp only[qC];refine xR _ _ _ _ _ _ rfl rfl rfl rfl ?_;simp only[qB];replace hM:=hM.trans0 hS
   replace hC4:=hS.obj id hC4;replace hC5:=hS.obj id hC5;replace hC6:=hS.obj id hC6;clear hS;generalize wy.drew=wz at*;go_upto_region 6 with(fail)
   refine qL [3,3,3,3,1,3,1,3,1,3,1,3,3,3,1,3,1,3,1,3,1] ?_;simp only[qB];refine xR _ _ _ _ _ _ rfl rfl rfl rfl ?_;simp only[qC]
   refine zO 328 1 (i:=0) (by omega) ?_;simp only[qC];refine qG 301 (yF hC4 0 (by omega)) ?_;try simp only[qC]
   refine zO 328 1 (i:=1) (by omega) ?_;simp only[qC];refine qG 301 (yF hC4 1 (by omega)) ?_;try simp only[qC]
   refine zO 328 1 (i:=2) (by omega) ?_;simp only[qC];refine qG 301 (yF hC4 2 (by omega)) ?_;try simp only[qC]
   refine zO 328 1 (i:=3) (by omega) ?_;simp only[qC];refine qG 301 (yF hC4 3 (by omega)) ?_;simp only[qB];refine xR _ _ _ _ _ _ rfl rfl rfl rfl ?_
   simp only[qC];refine zO 328 1 (i:=4) (by omega) ?_;simp only[qC];refine qG 301 (yF hC4 4 (by omega)) ?_;try simp only[qC]
   refine zO 328 1 (i:=5) (by omega) ?_;simp only[qC];refine qG 301 (yF hC4 5 (by omega)) ?_;try simp only[qC]
   refine zO 328 1 (i:=6) (by omega) ?_;simp only[qC];refine qG 301 (yF hC4 6 (by omega)) ?_;try simp only[qC]
   refine qM (v:=.agg (qI (round c (shaKeys.getD n 0) (sp.getD n 0)).list)) rfl (fun w'=>zH 328 _ [(0,qX (roundX c (shaKeys.getD n 0) (sp.getD n 0)+roundY c)),(1,qX c.a),(2,qX c.b),(3,qX c.c),(4,qX (c.d+roundX c (shaKeys.getD n 0) (sp.getD n 0))),(5,qX c.e),(6,qX c.f),(7,qX c.g)] _ (by rfl) (by rfl) (built8 _ _ _ _ _ _ _ _)) ?_
   simp only[qC]
   refine qK (xU 328 0 (qI (round c (shaKeys.getD n 0) (sp.getD n 0)).list) (xV _) 8 (by rw[qF];rfl) hC4 (fun w5 hD4 hm5=>?_) (hoff:=by rw[qF,qF];simp[W8.list]))
   rw[yQ (by rw[qF,qF];simp[W8.list]),<-HN.out]at hD4;have hM5:=hM.transB hm5 hL4;replace hC5:=hm5.objB (by omega) hC5
   replace hC6:=hm5.objB (by omega) hC6;clear hC4 hm5;simp only[qB];go_wp2
   go_roundw
   case rel=>exact⟨n+1,by omega,by go_num,hD4,hC5,hC6,hM5⟩
   case measure=>simp[intOf];omega
  ·have hz:¬(n:Int)<64:=by omega
   obtain rfl:n=64:=by omega
   obtain⟨c,hc⟩:∃c,bR shaKeys sp 64 s=c:=⟨_,rfl⟩;rw[hc]at hC4;have hr:sM s b=gA s c:=by unfold sM;rw[HSP.out,hc]
   have HR:=O hr;clear hr hc;have hrowA:=hM.obj id hcur;have hMA:Mod (fun k=>k=ba) w wr:=hM.mono (fun _ _ h=>h.elim);clear hcur hM hC5 hC6 hz hn
   have hlen:(gA s c).list.length=8:=rfl;go_wp2
   go_loopw [105] (AddRel w ba oa cur T b4 s c) (fun i _=>8-(intOf i).toNat)
   case atStart=>exact⟨0,by omega,rfl,by rw[List.take_zero,putRow_none (by omega)];exact hrowA,hC4,hMA⟩
   case round=>
    rename iN=>wv
    clear hC4 hrowA hMA;obtain⟨n,hn,rfl,hrow,hC4,hM⟩:=hrel
    by_cases hlt:n<8
    ·have hz:(n:Int)<8:=by omega
     have hw1:wv.cell? ⟨ba,oa+n*1,none⟩=some (qX (s.list.getD n 0)):=by
      rw[cell_of_row _ _ _ _ _ _ hrow,Nat.mul_one,aK (by rw[qF,List.length_take];omega),if_neg (by rw[qF,List.length_take];omega),HSS.out n hlt]
     have hstep:=putRow_step (cur:=cur) (oa:=oa) (n:=n) (l:=(gA s c).list) (by omega) (by omega)
     have hpsz:(zE cur oa (qI ((gA s c).list.take n))).size=cur.size:=kQ (by rw[qF,List.length_take];omega)
     rw[addW_at s c n hlt]at hstep;have HST:=O hstep;clear hstep;go_upto_region 11 with(fail);have hS:Mod qJ wv wv.drew:=(Mod.refl _ _).drew
     refine zZ [3,3,3,3,0,3,3,0,3,3,3,2] [11] (fun w'=>Mod qJ wv w') hS ?_;simp only[qB];refine zO 328 1 hlt ?_;simp only[qC]
     refine qE 301 (fun w' hS=>hS.cell id hw1) ?_;simp only[qB];refine zO 328 1 hlt ?_;simp only[qC]
     refine qE (v:=qX (c.list.getD n 0)) (b:=b4) (off:=n*1) 301 (fun w' hS=>by rw[Nat.mul_one];exact yF (hS.obj id hC4) n hlt) ?_;simp only[qC]
     refine xR _ _ _ _ _ _ rfl rfl rfl rfl ?_;simp only[qB];refine zO 328 1 hlt ?_;simp only[qC];refine zP rfl (fun K hK=>?_)
     refine zR 301 (oa+n*1) (qX (s.list.getD n 0+c.list.getD n 0)) (show wv.drew.heap[ba]?=_ from hrow) (fun w2 hB2 hm2=>?_) (hoff:=by rw[hpsz];omega)
     rw[Nat.mul_one,HST.out]at hB2;replace hC4:=hm2.objB (by omega) (show wv.drew.heap[b4]?=_ from hC4);refine hK _ _ ?_;clear hK K;simp only[qB]
     have hM2:Mod (fun k=>k=ba) w w2:=(hM.trans hS (fun _ _ h=>h.elim)).trans hm2 (fun _ _ h=>h);clear hM hS hm2 hrow hw1;go_wp2
     go_roundw
     case rel=>exact⟨n+1,by omega,by go_num,hB2,hC4,hM2⟩
     case measure=>simp[intOf];omega
    ·have hz:¬(n:Int)<8:=by omega
     obtain rfl:n=8:=by omega
     go_wp2
     go_end0
     refine⟨rfl,?_,hM⟩;rw[HR.out];exact hrow
section
variable{P:Program}{ops:Array Oper}{Q:Exit->Act->iN->Prop}{S:iN->Prop}{o:Oper}{r:List (Oper×Nat)}{a:Act}{w:iN}
theorem vH(t e:TypeId)(x h:Operand)(ad:Option Addr)(len cap i n:Nat)(hw:Region.wanted o (yielded ops a.tmps)=true)(ho:o.op=.slice t x none (some h) none)(hx:a.eval x=.slice ad len cap)(hh:a.eval h=.int .i64 (i:Int))
 (hu:P.underlying t=some (.slice e))(hs:(P.info? e).map (·.size)=some n)(hi:i<=cap)(hk:zF P ops Q S r (a.put o.dst (sliced ad 0 i cap n)) w):zF P ops Q S ((o,3)::r) a w:=
 qM hw (fun w=>by
  have he:P.elem t=e:=by simp[Program.elem,hu]
  have hsz:(sizeOf e).run P w=.ok n w:=by
   cases hq:P.info? e with
   |none=>simp[hq]at hs
   |some i=>simp[hq]at hs;simp[sizeOf,typeInfo,hq,hs]
  unfold execOp;simp only[ho,hx,hh,Option.map_none,Option.map_some]
  have h1:=run_sliceAt_slice (P:=P) (w:=w) t (.slice ad len cap) none (some (.int .i64 (i:Int))) none (by rw[he];exact hu)
  have h2:=run_slice_h (P:=P) (w:=w) t ad len cap (by rw[he];exact hu) .i64 (i:Int) (by omega) (by omega)
  simp only[Sem.run_bind,h1,h2,he,hsz,Result.andThen_ok,Sem.run_pure,Int.toNat_natCast]) hk
theorem kY(t e:TypeId)(x l:Operand)(ad:Option Addr)(len cap i n:Nat)(hw:Region.wanted o (yielded ops a.tmps)=true)(ho:o.op=.slice t x (some l) none none)(hx:a.eval x=.slice ad len cap)(hl:a.eval l=.int .i64 (i:Int))
 (hu:P.underlying t=some (.slice e))(hs:(P.info? e).map (·.size)=some n)(hi:i<=len)(hk:zF P ops Q S r (a.put o.dst (sliced ad i len cap n)) w):zF P ops Q S ((o,3)::r) a w:=
 qM hw (fun w=>by
  have he:P.elem t=e:=by simp[Program.elem,hu]
  have hsz:(sizeOf e).run P w=.ok n w:=by
   cases hq:P.info? e with
   |none=>simp[hq]at hs
   |some i=>simp[hq]at hs;simp[sizeOf,typeInfo,hq,hs]
  unfold execOp;simp only[ho,hx,hl,Option.map_none,Option.map_some]
  have h1:=run_sliceAt_slice (P:=P) (w:=w) t (.slice ad len cap) (some (.int .i64 (i:Int))) none none (by rw[he];exact hu)
  have h2:=run_slice_l (P:=P) (w:=w) t ad len cap (by rw[he];exact hu) .i64 (i:Int) (by omega) (by omega)
  simp only[Sem.run_bind,h1,h2,he,hsz,Result.andThen_ok,Sem.run_pure,Int.toNat_natCast]) hk
end
theorem uV(b off k:Nat):Addr.add ⟨b,off,none⟩ k=⟨b,off+k,none⟩:=by
 unfold Addr.add
 split
 ·rename_i hk;subst hk;rfl
 ·rfl
section
variable{w w':iN}{base e sz n i cap:Nat}{v:Value}{xs:List Value}{ad:Option Addr}
theorem jJ(h:w.ownsRow base e sz v n xs):v.oneCell'=true:=by
 rcases h.2 with⟨rfl,_⟩|⟨g,cap,cur,rfl,_⟩<;>rfl
theorem uT{base':Nat}(h:w.ownsRow base e sz v n xs)(hb:base'<=base):w.ownsRow base' e sz v n xs:=by
 refine⟨h.1,?_⟩
 rcases h.2 with h|⟨g,cap,cur,h1,h2,h3⟩
 ·exact .inl h
 ·exact .inr ⟨g,cap,cur,h1,Nat.le_trans hb h2,h3⟩
theorem owns_to(h:w.ownsRow base e sz (.slice ad n cap) n xs)(hi:i<=n):w.ownsRow base e sz (sliced ad 0 i cap sz) i (xs.take (i*sz))/\(sliced ad 0 i cap sz).ownBlock=(Value.slice ad n cap).ownBlock:=by
 have hm:i*sz<=n*sz:=Nat.mul_le_mul_right _ hi
 rcases h.2 with⟨h1,h2⟩|⟨g,c,cur,h1,hb,hg,hc,hm',hcs,ht⟩
 ·cases h1
  obtain rfl:i=0:=by omega
  have e1:xs=[]:=List.eq_nil_of_length_eq_zero (by rw[h.1];simp);refine⟨⟨by simp,.inl ⟨by simp[sliced],rfl⟩⟩,by simp[sliced,Value.ownBlock]⟩
 ·cases h1
  have e1:sliced (some ⟨g,0,none⟩) 0 i cap sz=.slice (some ⟨g,0,none⟩) i cap:=by
   simp only[sliced,Option.map_some,uV,Nat.zero_mul,Nat.add_zero,Nat.sub_zero,ite_self]
  rw[e1];refine⟨⟨by rw[List.length_take,h.1];omega,.inr ⟨g,cap,cur,rfl,hb,hg,by omega,hm',hcs,?_⟩⟩,rfl⟩;rw[<-ht,List.take_take,Nat.min_eq_left hm]
theorem uO(h:w.ownsRow base e sz v n xs):Src w sz v n xs:=by
 rcases h.2 with⟨rfl,rfl⟩|⟨g,c,cur,rfl,hb,hg,hc,hm',hcs,ht⟩
 ·exact⟨h.1,_,_,rfl,fun h=>absurd rfl h⟩
 ·refine⟨h.1,_,_,rfl,fun _=>⟨g,0,rfl,fun j x hj=>?_⟩⟩
  have hjl:j<xs.length:=by
   rcases Nat.lt_or_ge j xs.length with h|h
   ·exact h
   ·rw[List.getElem?_eq_none h]at hj;cases hj
  rw[cell_of_row _ _ _ _ _ _ hg,Nat.zero_add,<-hj,<-ht,List.getElem?_take_of_lt (by rw[<-h.1];exact hjl)]
  simp
theorem Src.drop{m:Nat}(h:Src w sz (.slice ad m cap) m xs)(hi:i<=m)(hm:m<=cap):Src w sz (sliced ad i m cap sz) (m-i) (xs.drop (i*sz)):=by
 obtain⟨h1,ad',c',e,h2⟩:=h;obtain⟨rfl,rfl⟩:ad=ad'/\cap=c':=by simpa using e
 refine⟨by rw[List.length_drop,h1,Nat.sub_mul],_,_,rfl,fun hi0=>?_⟩;obtain⟨b,off,rfl,hc⟩:=h2 (by omega);refine⟨b,off+i*sz,?_,fun j x hj=>?_⟩
 ·rw[if_neg (by omega)]
  simp[uV]
 ·rw[Nat.add_assoc]
  exact hc _ _ (by rw[<-hj,List.getElem?_drop])
end
section
variable{α:Type}{own:Bool}{w:iN}{G:iM}{sz cap:Nat}{R:iL->α->Prop}{ad:Option Addr}{l:List α}
theorem Sl.cut(h:Sl own w G sz R (.slice ad l.length cap) l)(i:Nat)(hi:i<=l.length):Sl own w G sz R (sliced ad i l.length cap sz) (l.drop i):=by
 obtain⟨a,c,e,h1,h2,h3⟩:=h
 cases e
 refine⟨_,_,by rw[List.length_drop];rfl,by rw[List.length_drop];omega,by omega,fun hne=>?_⟩
 have hlt:i<l.length:=by
  rcases Nat.lt_or_ge i l.length with h|h
  ·exact h
  ·exact absurd (List.drop_eq_nil_of_le h) hne
 obtain⟨b,off,rfl,hG,ho,hc⟩:=h3 (by rintro rfl;simp at hlt);refine⟨b,off+i*sz,by rw[if_neg (by omega)];simp[uV],hG,ho,fun j hj=>?_⟩
 rw[List.length_drop]at hj;obtain⟨cs,hs,hR,hcs⟩:=hc (i+j) (by omega);refine⟨cs,hs,by rw[List.getElem_drop];exact hR,?_⟩
 rw[show off+i*sz+j*sz=off+(i+j)*sz by rw[Nat.add_mul];omega];exact hcs
theorem Sl.fst(h:Sl own w G sz R (.slice ad l.length cap) l)(i:Nat)(hi:i<=l.length):Sl own w G sz R (sliced ad 0 i cap sz) (l.take i):=by
 obtain⟨a,c,e,h1,h2,h3⟩:=h
 cases e
 refine⟨_,_,by rw[List.length_take,Nat.min_eq_left hi];rfl,by rw[List.length_take];omega,by omega,fun hne=>?_⟩
 obtain⟨b,off,rfl,hG,ho,hc⟩:=h3 (by rintro rfl;simp at hne);refine⟨b,off,by simp[uV],hG,ho,fun j hj=>?_⟩;rw[List.length_take]at hj
 obtain⟨cs,hs,hR,hcs⟩:=hc j (by omega);exact⟨cs,hs,by rw[List.getElem_take];exact hR,hcs⟩
end
def kO(s:W8)(rest:Value)(n:Nat):iL:=#[qX s.a,qX s.b,qX s.c,qX s.d,qX s.e,qX s.f,qX s.g,qX s.h,rest,.int .i64 (n:Int),.bool true]
theorem hashRow_put(s r:W8)(rest:Value)(n:Nat):zE (kO s rest n) 0 (qI r.list)=kO r rest n:=rfl
theorem hashRow_at(s:W8)(rest:Value)(n k:Nat)(h:k<8):(kO s rest n)[0+k]?=some (qX (s.list.getD k 0)):=by
 match k,h with
 |0,_|1,_|2,_|3,_|4,_|5,_|6,_|7,_=>rfl
theorem builtH:prog.built 331 [(0,.agg (qI shaBegin.list)),(3,.bool true)]=some (kO shaBegin (.slice none 0 0) 0):=by kernel_rfl
theorem xS(hr:(execOp a.eval o).run P w=.ok (.enter f args) w)(hc:Calls P f args w R)
 (k:∀e w',R e w'->∃v,e=.returned v/\K (a.put o.dst v) w'):o.wp P a w K Q:=by
 unfold Oper.wp;rw[hr,Oper.upon_enter];refine hc.mono fun e w' he=>?_;obtain⟨v,rfl,h⟩:=k e w' he;exact h
theorem shaNone_at(b:Nat)(w:iN)(hc:w.cell? ⟨b,10,none⟩=some (.bool true)):Calls prog 226 #[iO b] w (pT (.bool false) w):=by
 go_enter func226,ntmps226;go_wp2;go_ret;exact⟨rfl,rfl⟩
def NewH(w:iN):iJ:=fun e w'=>∃b,e=.returned (iO b)/\w.heap.size<=b/\b<w'.heap.size/\w'.heap[b]?=some (.cells (kO shaBegin (.slice none 0 0) 0) 331 (0,0))/\Mod qJ w w'
theorem shaNew_any(w:iN):Calls prog 182 #[] w (NewH w):=by
 go_enter func182,ntmps182;go_upto_region 1 with(fail);refine qL [1,3,1,3] ?_;simp only[qB]
 refine qK (kW (xM 225 [] _ rfl _ func225 rfl (by kernel_rfl) [] rfl _) (begin_any _) (fun w1 hm1=>?_));try simp only[qC]
 refine qM (v:=.agg (kO shaBegin (.slice none 0 0) 0)) rfl (fun w'=>zH 331 _ _ _ (by rfl) (by rfl) builtH) ?_;simp only[qC]
 refine qK (zT 331 (fun w2 hB2 hm2 hs2=>?_));replace hB2:w2.heap[w1.heap.size]?=some (.cells (kO shaBegin (.slice none 0 0) 0) 331 (0,0)):=hB2;simp only[qB]
 go_wp2;go_ret;exact⟨_,rfl,hm1.size,hs2,hB2,hm1.trans0 hm2⟩
def restN(w:iN)(b:Nat):Nat:=match w.cell? ⟨b,8,none⟩with
 |some (.slice _ n _)=>n
 |_=>0
theorem restN_of{b:Nat}{s:W8}{ad:Option Addr}{cap:Nat}(h:w.heap[b]?=some (.cells (kO s (.slice ad n cap) m) 331 (0,0))):restN w b=n:=by
 unfold restN;rw[cell_of_row _ _ _ _ _ _ h]
 rfl
def WRel(w0:iN)(bh:Nat)(m:iK)(w:iN):Prop:=∃k rest,64*k<=m.length/\w.heap[bh]?=some (.cells (kO (yB k shaBegin m) rest m.length) 331 (0,0))/\
 Sl false w (fun g=>w0.heap.size<=g) 1 yA rest (m.drop (64*k))/\Mod (fun k=>k=bh) w0 w
def WriteR(w0:iN)(bh:Nat)(m:iK):iJ:=fun e w=>e=.returned (.int .i64 0)/\∃rest,w.heap[bh]?=some (.cells (kO (yB (m.length/64) shaBegin m) rest m.length) 331 (0,0))/\
 Sl false w (fun g=>w0.heap.size<=g) 1 yA rest (m.drop (64*(m.length/64)))/\Mod (fun k=>k=bh) w0 w
theorem byte_i:(prog.info? 5).map (fun i=>(i.zero,i.size,i.bytes))=some (some (.int .u8 0),1,1):=by kernel_rfl
theorem shaWrite_any{own:Bool}{m:iK}(hb:Sl own w G 1 yA v m)(hl:m.length<=140737488355328)(bh:Nat)(hG:∀k,G k->k≠bh)
 (hrow:w.heap[bh]?=some (.cells (kO shaBegin (.slice none 0 0) 0) 331 (0,0))):
 Calls prog 183 #[iO bh,v] w (WriteR w bh m):=by
 have hbh:bh<w.heap.size:=by
  rcases Nat.lt_or_ge bh w.heap.size with h|h
  ·exact h
  ·rw[Array.getElem?_eq_none h]at hrow;cases hrow
 have hc10:w.cell? ⟨bh,10,none⟩=some (.bool true):=by rw[cell_of_row _ _ _ _ _ _ hrow];rfl
 have hbS:=O hb;obtain⟨ad,cap,rfl,hle,hmx,-⟩:=hb;go_enter func183,ntmps183
 go_upto_region 3 with(go_at_call 226;refine(shaNone_at bh _ hc10).mono ?_;rintro _ w3 ⟨rfl,hw⟩;obtain rfl:=hw.symm);refine qL [3,3,3,1,3,3,3,3,3,1] ?_
 simp only[qB];refine qG (v:=.int .i64 0) (b:=bh) (off:=9) 3 (by rw[cell_of_row _ _ _ _ _ _ hrow];rfl) ?_;simp only[qB];refine xF ?_;simp only[qC]
 refine jH (m.length:Int) ?_;simp only[qB];refine qK (zR 3 9 (.int .i64 (m.length:Int)) hrow (fun w2 hB2 hm2=>?_) (hoff:=by simp[kO]))
 replace hB2:w2.heap[bh]?=some (.cells (kO shaBegin (.slice none 0 0) m.length) 331 (0,0)):=hB2;simp only[qB];go_upto_region 4 with(fail)
 have hbS2:=hbS.out.keepB hm2 hG;obtain⟨css,hall,hcs,hsrc⟩:=hbS2.src (by omega);refine qL [3,3,3,3,1,3,1,3,3,1] ?_;simp only[qB]
 refine qG (v:=.slice none 0 0) (b:=bh) (off:=8) 53 (by rw[cell_of_row _ _ _ _ _ _ hB2];rfl) ?_;simp only[qB]
 refine qK (vY _ _ 53 5 (.int .u8 0) 1 1 (by rfl) underlying53 byte_i (by kernel_rfl) (by omega) w2.heap.size _ 0 [] (by rfl) ⟨rfl,.inl ⟨rfl,rfl⟩⟩ _ m.length _ (by rfl) hsrc (all2_one hall fun _ _=>byteC_one) (by omega) (by omega) (by omega) (fun v3 w3 ho3 hg3 hv3=>?_))
 have hm3:Mod qJ w2 w3:=(Mod.refl _ _).grown hg3 (fun k e _=>nomatch (show(none:Option Nat)=some k from e))
 have hs3:Sl true w3 (fun k=>w2.heap.size<=k/\k<w3.heap.size/\v3.ownBlock=some k) 1 yA v3 m:=Sl.of_owns ho3 (List.nil_append _) hcs hall (Nat.zero_add _)
 replace hB2:=hm3.obj id hB2;simp only[qB];refine qK (zR 53 8 v3 hB2 (fun w4 hB4 hm4=>?_) (hoff:=by simp[kO]) (h1:=hs3.one))
 replace hB4:w4.heap[bh]?=some (.cells (kO shaBegin v3 m.length) 331 (0,0)):=hB4;simp only[qB];have hw2:=hm2.size;have hw3:=hm3.size
 have hM4:Mod (fun k=>k=bh) w w4:=(hm2.trans hm3 (fun _ _ h=>h.elim)).trans hm4 (fun _ _ h=>h)
 have hs4:Sl false w4 (fun g=>w.heap.size<=g) 1 yA v3 m:=((hs3.keepB hm4 (fun k hk=>by have:=hk.1;omega)).mono (G':=fun g=>w.heap.size<=g) (fun k hk=>Nat.le_trans hw2 hk.1) (fun _ _ h=>h)).weak
 clear hB2 hs3 hm2 hm3 hm4 hg3 hv3 ho3 hsrc hall hcs hbS2 hbS hc10 hrow;go_wp2
 go_loopw [] (WRel w bh m) (fun w'=>restN w' bh)
 case atStart=>exact⟨0,v3,by omega,hB4,hs4,hM4⟩
 case round=>
  rename iN=>wr
  clear hB4 hs4 hM4;obtain⟨k,rest,hk,hrow,hsl,hM⟩:=hrel;obtain⟨r,hr⟩:∃r,m.drop (64*k)=r:=⟨_,rfl⟩
  have hrl:r.length=m.length-64*k:=by rw[<-hr,List.length_drop]
  rw[hr]at hsl;have hslH:=O hsl;obtain⟨ad2,cap2,rfl,hle2,hmx2,-⟩:=hsl;have hrowH:=O hrow
  have hc8:wr.cell? ⟨bh,8,none⟩=some (.slice ad2 r.length cap2):=by rw[cell_of_row _ _ _ _ _ _ hrow];rfl
  by_cases hlt:64<=r.length
  ·have hz:(64:Int)<=(r.length:Int):=by omega
   go_upto_region 6 with(fail);have hS:Mod (fun k=>k=bh) wr wr.drew/\wr.drew.cell? ⟨bh,8,none⟩=some (.slice ad2 r.length cap2):=⟨(Mod.refl _ _).drew,hc8⟩
   refine zZ [3,3,3,3,3,3,0,3,1] [] (fun w'=>Mod (fun k=>k=bh) wr w'/\w'.cell? ⟨bh,8,none⟩=some (.slice ad2 r.length cap2)) hS ?_;simp only[qB]
   refine qE 53 (fun w' hS=>hS.2) ?_;simp only[qC];refine vH 53 5 _ _ _ _ _ 64 1 rfl rfl rfl rfl underlying53 (by kernel_rfl) (by omega) ?_;simp only[qC]
   refine qH rfl (fun K hK=>?_)
   refine xE func227 (block_any ((hslH.out.keep0 (Mod.refl qJ wr).drew).fst 64 hlt) (by rw[List.length_take];omega) bh 0 _ _ (yB k shaBegin m) (show wr.drew.heap[bh]?=_ from hrowH.out) (by simp[kO]) (fun j hj=>hashRow_at _ _ _ j hj)) ?_
   rintro e w5 ⟨rfl,hB5,hm5⟩;rw[hashRow_put]at hB5
   have hS5:Mod (fun k=>k=bh) wr w5:=(show Mod (fun k=>k=bh) wr wr.drew from(Mod.refl _ _).drew).trans hm5 (fun _ _ h=>h)
   refine⟨_,rfl,hK _ _ ⟨hS5,by rw[cell_of_row _ _ _ _ _ _ hB5];rfl⟩ ?_⟩;clear hK K;simp only[qB];clear hS hm5;go_upto_region 7 with(fail)
   refine qL [3,3,3,3,1,3,3,3,1] ?_;simp only[qB];refine qG (v:=.slice ad2 r.length cap2) (b:=bh) (off:=8) 53 (by rw[cell_of_row _ _ _ _ _ _ hB5];rfl) ?_
   try simp only[qC]
   refine kY 53 5 _ _ _ _ _ 64 1 rfl rfl rfl rfl underlying53 (by kernel_rfl) hlt ?_;simp only[qB]
   refine qK (zR 53 8 (sliced ad2 64 r.length cap2 1) hB5 (fun w6 hB6 hm6=>?_) (hoff:=by simp[kO]))
   replace hB6:w6.heap[bh]?=some (.cells (kO (sM (yB k shaBegin m) (r.take 64)) (sliced ad2 64 r.length cap2 1) m.length) 331 (0,0)):=hB6;simp only[qB]
   have hS6:Mod (fun k=>k=bh) wr w6:=hS5.trans hm6 (fun _ _ h=>h);have hM6:Mod (fun k=>k=bh) w w6:=hM.trans hS6 (fun _ _ h=>h)
   have hsl6:=(hslH.out.cut 64 hlt).keepB hS6 (fun k hk=>by have hk':w.heap.size<=k:=hk;omega);have hrest:restN w6 bh=r.length-64:=restN_of hB6
   have hrest0:restN wr bh=r.length:=restN_of hrowH.out;have hd:r.drop 64=m.drop (64*(k+1)):=by rw[<-hr,List.drop_drop];congr 1
   have hblk:sM (yB k shaBegin m) (r.take 64)=yB (k+1) shaBegin m:=by rw[sY,hr];rfl
   rw[hblk]at hB6;rw[hd]at hsl6;have HW6:Hid (WRel w bh m w6):=⟨k+1,_,by omega,hB6,hsl6,hM6⟩;have HME:Hid (restN w6 bh<restN wr bh):=by unfold Hid;omega
   clear hB5 hB6 hsl6 hM6 hS6 hm6 hrest hrest0 hS5 hblk hd;go_wp2
   go_roundw
   case rel=>exact HW6.out
   case measure=>exact HME.out
  ·have hz:¬(64:Int)<=(r.length:Int):=by omega
   go_wp2;go_ret;have hkk:m.length/64=k:=by omega
   exact⟨rfl,_,by rw[hkk];exact hrowH.out,by rw[hkk,hr];exact hslH.out,hM⟩
section
variable{P:Program}{w:iN}{o:Oper}{a:Act}
theorem exec_mul64(t:TypeId)(x y:Operand)(yt:TypeId)(m n d:Nat)(ho:o.op=.binOp .mul t x y yt)(hx:a.eval x=.int .u64 (m:Int))(hy:a.eval y=.int .u64 (n:Int))(hd:m*n=d)(hv:d<18446744073709551616):(execOp a.eval o).run P w=.ok (.value (.int .u64 (d:Int))) w:=by
 subst hd
 have h1:IntKind.u64.wrap ((m:Int)*(n:Int))=((m*n:Nat):Int):=by
  rw[<-Int.natCast_mul]
  simp[IntKind.wrap,IntKind.bits,IntKind.signed];omega
 unfold execOp;simp only[ho,hx,hy]
 go_simp
 try exact h1
theorem exec_shr64(t:TypeId)(x y:Operand)(yt:TypeId)(m:Nat)(k:IntKind)(n:Nat)(ho:o.op=.binOp .shr t x y yt)(hx:a.eval x=.int .u64 (m:Int))(hy:a.eval y=.int k (n:Int))(hn:n<=63)(hm:m<18446744073709551616):(execOp a.eval o).run P w=.ok (.value (.int .u64 ((m/2^n:Nat):Int))) w:=by
 have h1:(0:Int)<=(m:Int)/2^n:=Int.ediv_nonneg (by omega) (Int.le_of_lt (Int.pow_pos (by omega)))
 have h2:(m:Int)/2^n<=(m:Int):=Int.ediv_le_self _ (by omega);have h3:((m/2^n:Nat):Int)=(m:Int)/2^n:=by simp
 rw[h3];unfold execOp;simp only[ho,hx,hy]
 go_simp
 all_goals (try rw[Int.emod_eq_of_lt h1 (by omega)])
theorem dD(t u:TypeId)(x:Operand)(m:Nat)(ho:o.op=.convert t u x)(hx:a.eval x=.int .u64 (m:Int))(ht:(P.underlying t).isSome=true)(hu:P.underlying u=some (.int .u8)):
 (execOp a.eval o).run P w=.ok (.value (qW (UInt8.ofNat m))) w:=by
 unfold execOp;simp only[ho,hx];have hk:P.intKind u=.u8:=by simp[Program.intKind,hu]
 have h1:=run_convert_int (P:=P) w t u .u64 (m:Int) ht (by rw[hk];exact hu);rw[hk]at h1
 have h2:IntKind.u8.wrap (m:Int)=((UInt8.ofNat m).toNat:Int):=by
  rw[IntKind.wrap_u8']
  simp
 rw[h2]at h1;rw[Sem.run_bind,h1]
 rfl
end
theorem jS{S:iM}{base size:Nat}{xs:List Value}(h:w.ownsRow base e size v k xs)(hm:Mod S w w')(hS:∀k,v.ownBlock=some k->¬S k):w'.ownsRow base e size v k xs:=by
 refine⟨h.1,?_⟩
 rcases h.2 with h|⟨g,cap,cur,rfl,hb,hg,r⟩
 ·exact .inl h
 ·exact .inr ⟨g,cap,cur,rfl,hb,hm.obj (hS g rfl) hg,r⟩
def Bts(base:Nat)(w:iN)(v:Value)(xs:iK):Prop:=w.ownsRow base 5 1 v xs.length (xs.map qW)
theorem bytes_flat(xs:iK):xs.map qW=(xs.map fun x=>#[qW x]).flatMap Array.toList:=by
 induction xs with
 |nil=>rfl
 |cons x xs ih=>rw[List.map_cons,List.map_cons,List.flatMap_cons,ih];rfl
theorem Bts.sl{base:Nat}(h:Bts base w v xs):Sl true w (fun k=>base<=k/\k<w.heap.size/\v.ownBlock=some k) 1 yA v xs:=
 Sl.of_owns h (bytes_flat xs) (fun c hc=>by obtain⟨x,_,rfl⟩:=List.mem_map.1 hc;rfl) ⟨by simp,fun i h1 h2=>by simp[yA]⟩ rfl
theorem bytes_of_all{css:List iL}(h:All2 yA css l):css.flatMap Array.toList=l.map qW:=by
 have:css=l.map fun x=>#[qW x]:=by
  apply List.ext_getElem
  ·simp[h.1]
  ·intro i h1 h2
   have:=h.2 i h1 (by rw[<-h.1];exact h1);rw[this];simp
 rw[this,bytes_flat]
theorem Sl.bsrc{own:Bool}(h:Sl own w G 1 yA v l):Src w 1 v l.length (l.map qW):=by
 obtain⟨css,h1,_,h2⟩:=h.src (by omega)
 rwa[bytes_of_all h1]at h2
theorem bytes_one(xs:iK):∀c∈xs.map qW,c.oneCell'=true:=by
 intro c hc;obtain⟨x,_,rfl⟩:=List.mem_map.1 hc
 rfl
theorem rT{b:Nat}{x:UInt8}(h:w.heap[b]?=some (.cells #[qW x] 5 (0,0))):w.ownsRow b 5 1 (.slice (some ⟨b,0,none⟩) 1 1) 1 [qW x]:=
 ⟨rfl,.inr ⟨b,1,#[qW x],rfl,Nat.le_refl _,h,by omega,by unfold maxLen;omega,rfl,rfl⟩⟩
theorem kX(s x:Operand)(ho:o.op=.call { callee:=.builtin .append,args:=#[s,x],argTypes:=#[53,53] })
 (base:Nat)(v:Value)(xs:iK)(hs:a.eval s=v)(hown:Bts base w v xs)(u:Value)(ys:iK)(hx:a.eval x=u)(hsrc:Src w 1 u ys.length (ys.map qW))(hlen:xs.length+ys.length<=140737488355328)(hbase:base<=w.heap.size)
 (h:∀v' w',Bts base w' v' (xs++ys)->Mod (fun k=>v.ownBlock=some k) w w'->K (a.put o.dst v') w'):o.wp prog a w K Q:=by
 refine vY s x 53 5 (.int .u8 0) 1 1 ho underlying53 byte_i (by kernel_rfl) (by omega) base v xs.length _ hs hown u ys.length _ hx hsrc (bytes_one ys) (by unfold maxLen;omega) (by omega) hbase (fun v' w' ho' hg hv=>?_)
 refine h v' w' ?_ ((Mod.refl _ _).grown hg (fun k e _=>e));unfold Bts;rw[List.length_append,List.map_append];exact ho'
theorem Bts.lt{base:Nat}{w:iN}{v:Value}{xs:iK}(h:Bts base w v xs){k:Nat}(e:v.ownBlock=some k):base<=k/\k<w.heap.size:=World.ownsRow.lt h k e
theorem Bts.keep{S:iM}{base:Nat}(h:Bts base w v xs)(hm:Mod S w w')(hn:∀k,v.ownBlock=some k->¬S k):Bts base w' v xs:=jS h hm hn
def CloneR(w:iN)(m:iK):iJ:=fun e w'=>∃v,e=.returned v/\Bts w.heap.size w' v m/\Mod qJ w w'
theorem bA{own:Bool}{m:iK}(hb:Sl own w G 1 yA v m)(hl:m.length<=140737488355328):Calls prog 93 #[v] w (CloneR w m):=by
 have hbS:=O hb;obtain⟨ad,cap,rfl,hle,hmx,hne⟩:=hb
 cases ad with
 |none=>
  have hm:m=[]:=by
   cases m with
   |nil=>rfl
   |cons x m=>obtain⟨b,off,h,_⟩:=hne (by simp);cases h
  subst hm;clear hne;rw[List.length_nil];have heq:=fun w=>Lib.run_eql_slice_nil (P:=prog) w 53 5 none 0 cap 0 0 underlying53;go_enter func93,ntmps93;go_wp2;go_ret
  exact⟨_,rfl,⟨rfl,.inl ⟨rfl,rfl⟩⟩,Mod.refl _ _⟩
 |some q=>
  clear hne;have heq:=fun w=>Lib.run_eql_slice_nil (P:=prog) w 53 5 (some q) m.length cap 0 0 underlying53;go_enter func93,ntmps93;go_upto_region 3 with(fail)
  refine qL [1,3,1,3] ?_;simp only[qB];refine qK (zU 53 5 (by rfl) underlying53 (by kernel_rfl) (fun w1 hB1 hm1 hs1=>?_));simp only[qB]
  refine qK (kX _ _ (by rfl) w.heap.size _ [] (by rfl) (yI _ hB1 (Nat.le_refl _)) _ m (by rfl) (hbS.out.keep0 hm1).bsrc (by simpa using hl) hm1.size (fun v' w2 ho2 hm2=>?_))
  rw[List.nil_append]at ho2;simp only[qB];go_wp2;go_ret
  exact⟨_,rfl,ho2,hm1.trans hm2 (fun k hk e=>by
   have e':some w.heap.size=some k:=e
   cases e';omega)⟩
end
section
open Go.RowKit Go.Shelf Go.Proofs.Tryz Go.Lib
end
section
open Go.RowKit Go.Proofs.Tryz Go.Lib
end
section
open Go.RowKit Go.Shelf Go.Sort Go.Proofs.Tryz Go.Lib
section
variable{α:Type}[Inhabited α]{enc:α->List Value}{k:Nat}
theorem flat_enc(hk:∀x,(enc x).length=k):∀(l:List α)(i:Nat)(hi:i<l.length)(j:Nat),j<k->(l.flatMap enc)[i*k+j]?=(enc l[i])[j]?
 |x::l,0,_,j,hj=>by
  simp only[List.flatMap_cons,Nat.zero_mul,Nat.zero_add,List.getElem_cons_zero];rw[List.getElem?_append_left (by rw[hk];exact hj)]
 |x::l,i+1,hi,j,hj=>by
  simp only[List.flatMap_cons,List.getElem_cons_succ]
  rw[List.getElem?_append_right (by rw[hk,Nat.succ_mul];omega),hk,show(i+1)*k+j-k=i*k+j by rw[Nat.succ_mul];omega]
  exact flat_enc hk l i (by simpa using hi) j hj
theorem dQ(hk:∀x,(enc x).length=k):∀(l:List α),(l.flatMap enc).length=l.length*k
 | []=>by simp
 |x::l=>by simp[dQ hk l,hk,Nat.add_mul];omega
theorem holdsK_of_cells(hk:∀x,(enc x).length=k)(h0:0<k){g:Nat}{l:List α}(h:w.heap[g]?=some (.cells cur e (0,0)))(ht:cur.toList.take (l.length*k)=l.flatMap enc):HoldsK enc k w g 0 l.toArray:=by
 intro t ht';have hlt:t<l.length*k:=by simpa using ht'
 have hi:t/k<l.length:=Nat.div_lt_of_lt_mul (by rw[Nat.mul_comm];exact hlt);have hm:t%k<k:=Nat.mod_lt _ h0
 have e0:t/k*k+t%k=t:=by rw[Nat.mul_comm];exact Nat.div_add_mod t k
 have h1:=flat_enc hk l (t/k) hi (t%k) hm;rw[e0,<-ht,List.getElem?_take_of_lt hlt]at h1
 have h2:(flatK enc k l.toArray)[t]! =(enc l[t/k])[t%k]'(by rw[hk];exact hm):=by
  rw[get_flatK _ _ _ _ (by simpa using hlt)];have:l.toArray[t/k]! =l[t/k]:=by simp[hi]
  rw[this];exact getElem!_pos _ _ (by rw[hk];exact hm)
 refine⟨?_,by simp[World.frozen?,h]⟩;rw[Nat.zero_add,cell_of_row w g _ cur e (0,0) h,h2];rw[Array.getElem?_toList]at h1;rw[h1];exact List.getElem?_eq_getElem _
theorem mod_sortWorldK{blk:Nat}{d:Array α}{os:Array Obj}:Mod (fun j=>j=blk) w (sortWorldK enc k w blk off n d os):=by
 have hs:(mapBlock (Sort.ahead w n) blk (putCells id off (flatK enc k d))).heap.size=w.heap.size:=by simp[mapBlock,Sort.ahead]
 refine⟨rfl,rfl,rfl,?_,fun j hj hne=>?_⟩
 ·show w.heap.size<=((mapBlock (Sort.ahead w n) blk (putCells id off (flatK enc k d))).heap++os).size
  rw[Array.size_append,hs];omega
 ·show((mapBlock (Sort.ahead w n) blk (putCells id off (flatK enc k d))).heap++os)[j]?=_
  rw[Array.getElem?_append_left (by rw[hs];exact hj)]
  show((Sort.ahead w n).heap.modify blk _)[j]?=_
  rw[Array.getElem?_modify,if_neg (fun e=>hne e.symm)]
  rfl
end
theorem rU(a b:iK):a<b\/a=b\/b<a:=by
 rcases List.le_total a b with h|h
 ·rcases List.le_iff_lt_or_eq.1 h with h|h
  ·exact .inl h
  ·exact .inr (.inl h)
 ·rcases List.le_iff_lt_or_eq.1 h with h|h
  ·exact .inr (.inr h)
  ·exact .inr (.inl h.symm)
theorem uU{a:iK}(h:a<b)(k:b<c):a<c:=by
 rcases rU a c with h1|h1|h1
 ·exact h1
 ·subst h1;exact absurd h (List.lt_asymm k)
 ·have h2:c<=a:=List.le_of_lt h1
  have h3:a<=b:=List.le_of_lt h;have h4:c<=b:=List.le_trans h2 h3;exact absurd k (List.not_lt.2 h4)
def ltK(a b:uN):Prop:=a.1.data.toList<b.1.data.toList\/a.1=b.1/\a.2<b.2
theorem ba_ext{a b:ByteArray}(h:a.data.toList=b.data.toList):a=b:=by
 apply ByteArray.ext
 exact Array.toList_inj.1 h
theorem ltK_tri(a b:uN):ltK a b\/a=b\/ltK b a:=by
 unfold ltK
 rcases rU a.1.data.toList b.1.data.toList with h|h|h
 ·exact .inl (.inl h)
 ·have h:=ba_ext h
  rcases rU a.2 b.2 with h2|h2|h2
  ·exact .inl (.inr ⟨h,h2⟩)
  ·exact .inr (.inl (Prod.ext h h2))
  ·exact .inr (.inr (.inr ⟨h.symm,h2⟩))
 ·exact .inr (.inr (.inl h))
theorem ltK_irrefl(a:uN):¬ltK a a:=by
 rintro(h|⟨_,h⟩)
 ·exact List.lt_irrefl _ h
 ·exact List.lt_irrefl _ h
theorem ltK_trans{a b c:uN}(h:ltK a b)(k:ltK b c):ltK a c:=by
 rcases h with h|⟨e,h⟩<;>rcases k with k|⟨e',k⟩
 ·exact .inl (uU h k)
 ·exact .inl (by rw[<-e'];exact h)
 ·exact .inl (by rw[e];exact k)
 ·exact .inr ⟨e.trans e',uU h k⟩
theorem cmpK_neg(a b:uN):dE a b<0↔ltK a b:=by
 unfold dE orI ltK
 split
 ·rename_i h
  rw[rZ];refine⟨.inl,fun h'=>h'.elim id fun⟨e,_⟩=>absurd ?_ h⟩;rw[tT,e]
 ·rename_i h
  have h:uW a.1.data.toList b.1.data.toList=0:=Decidable.byContradiction fun hn=>h hn;rw[tT]at h;rw[rZ]
  refine⟨fun h'=>.inr ⟨ba_ext h,h'⟩,fun h'=>h'.elim (fun h2=>?_) fun h2=>h2.2⟩;rw[h]at h2;exact absurd h2 (List.lt_irrefl _)
theorem swo_of{α:Type}{cf:α->α->Int}{lt:α->α->Prop}(hc:∀a b,cf a b<0↔lt a b)(hi:∀a,¬lt a a)(ht:∀{a b c},lt a b->lt b c->lt a c)(htri:∀a b,lt a b\/a=b\/lt b a):SWO (ltOf cf):=by
 refine⟨fun x=>?_,fun x y z h k=>?_,fun x y z h k=>?_⟩
 ·simp[ltOf,hc];exact hi x
 ·simp only[ltOf,decide_eq_true_eq,hc]at*;exact ht h k
 ·simp only[ltOf,decide_eq_false_iff_not,hc]at*
  intro hxz
  rcases htri x y with h1|h1|h1
  ·exact h h1
  ·subst h1;exact k hxz
  ·exact k (ht h1 hxz)
end
section
open Go.Shelf Go.Proofs.Tryz Go.Lib
def keysA_ren:Go.Shelf.Ren:=⟨fun|7=>143|10=>204|n=>n,fun|23=>98|26=>9|3=>230|28=>228|0=>0|27=>227|33=>287|4=>4|n=>n,fun|n=>n⟩
theorem keysA:Go.Proofs.SlLaysZ.n7 prog keysA_ren:={
 mixed:=by kernel_rfl
 f7:=⟨f143.name,by decide,func143.trans (congrArg some (by kernel_rfl))⟩
 f10:=⟨f204.name,by decide,func204.trans (congrArg some (by kernel_rfl))⟩
 t0:=underlying0
 a0:=isAgg0
 z0:=sizeOf0
 v0:=zeroValue0
 t4:=underlying4
 a4:=isAgg4
 z4:=sizeOf4
 v4:=zeroValue4
 t23:=underlying98
 a23:=isAgg98
 z23:=sizeOf98
 v23:=zeroValue98
 t26:=underlying9
 a26:=isAgg9
 z26:=sizeOf9
 v26:=zeroValue9
 t27:=underlying227
 a27:=isAgg227
 z27:=sizeOf227
 v27:=zeroValue227
 t28:=underlying228
 a28:=isAgg228
 z28:=sizeOf228
 v28:=zeroValue228
 t33:=underlying287
 a33:=isAgg287
 z33:=sizeOf287
 v33:=zeroValue287 }
def sortedA_ren:Go.Shelf.Ren:=⟨fun|6=>142|8=>202|9=>203|11=>232|13=>234|12=>233|23=>271|24=>272|14=>262|15=>263|16=>264|17=>265|18=>266|19=>267|20=>268|21=>269|22=>270|25=>303|26=>304|27=>305|28=>306|29=>307|30=>208|31=>319|n=>n,fun|26=>9|28=>228|24=>127|0=>0|3=>3|37=>337|48=>301|50=>300|4=>4|40=>362|39=>361|45=>164|5=>5|9=>9|51=>390|55=>394|57=>406|58=>407|33=>287|n=>n,fun|n=>n⟩
theorem sortedA:Go.Proofs.SlLaysZ.n6 prog sortedA_ren:={
 mixed:=by kernel_rfl
 f6:=⟨f142.name,by decide,func142.trans (congrArg some (by kernel_rfl))⟩
 f8:=⟨f202.name,by decide,func202.trans (congrArg some (by kernel_rfl))⟩
 f11:=⟨f232.name,by decide,func232.trans (congrArg some (by kernel_rfl))⟩
 t0:=underlying0
 a0:=isAgg0
 z0:=sizeOf0
 v0:=zeroValue0
 t24:=underlying127
 a24:=isAgg127
 z24:=sizeOf127
 v24:=zeroValue127
 t26:=underlying9
 a26:=isAgg9
 z26:=sizeOf9
 v26:=zeroValue9
 t28:=underlying228
 a28:=isAgg228
 z28:=sizeOf228
 v28:=zeroValue228
 i26:=by kernel_rfl }
def sortA_ren:Go.Shelf.Ren:=⟨fun|6=>203|8=>234|9=>233|19=>271|20=>272|21=>262|22=>263|23=>264|24=>265|25=>266|26=>267|27=>268|28=>269|29=>270|36=>303|31=>304|32=>305|37=>306|38=>307|39=>208|41=>319|n=>n,fun|27=>127|29=>9|3=>3|32=>337|26=>127|0=>0|44=>301|46=>300|4=>4|36=>362|35=>361|41=>164|5=>5|9=>9|53=>390|57=>394|63=>406|64=>407|n=>n,fun|n=>n⟩
theorem sortA:Go.Proofs.SlLaysM.n6 prog sortA_ren:={
 mixed:=by kernel_rfl
 f6:=⟨f203.name,by decide,func203.trans (congrArg some (by kernel_rfl))⟩
 f8:=func234.trans (congrArg some (by kernel_rfl))
 f9:=⟨f233.name,by decide,func233.trans (congrArg some (by kernel_rfl))⟩
 f19:=func271.trans (congrArg some (by kernel_rfl))
 f20:=func272.trans (congrArg some (by kernel_rfl))
 f21:=⟨f262.name,by decide,func262.trans (congrArg some (by kernel_rfl))⟩
 f22:=⟨f263.name,by decide,func263.trans (congrArg some (by kernel_rfl))⟩
 f23:=⟨f264.name,by decide,func264.trans (congrArg some (by kernel_rfl))⟩
 f24:=⟨f265.name,by decide,func265.trans (congrArg some (by kernel_rfl))⟩
 f25:=⟨f266.name,by decide,func266.trans (congrArg some (by kernel_rfl))⟩
 f26:=⟨f267.name,by decide,func267.trans (congrArg some (by kernel_rfl))⟩
 f27:=⟨f268.name,by decide,func268.trans (congrArg some (by kernel_rfl))⟩
 f28:=⟨f269.name,by decide,func269.trans (congrArg some (by kernel_rfl))⟩
 f29:=⟨f270.name,by decide,func270.trans (congrArg some (by kernel_rfl))⟩
 f31:=func304.trans (congrArg some (by kernel_rfl))
 f32:=func305.trans (congrArg some (by kernel_rfl))
 f36:=⟨f303.name,by decide,func303.trans (congrArg some (by kernel_rfl))⟩
 f37:=⟨f306.name,by decide,func306.trans (congrArg some (by kernel_rfl))⟩
 f38:=⟨f307.name,by decide,func307.trans (congrArg some (by kernel_rfl))⟩
 f39:=⟨f208.name,by decide,func208.trans (congrArg some (by kernel_rfl))⟩
 f41:=⟨f319.name,by decide,func319.trans (congrArg some (by kernel_rfl))⟩
 t0:=underlying0
 a0:=isAgg0
 z0:=sizeOf0
 v0:=zeroValue0
 t3:=underlying3
 a3:=isAgg3
 z3:=sizeOf3
 v3:=zeroValue3
 t4:=underlying4
 a4:=isAgg4
 z4:=sizeOf4
 v4:=zeroValue4
 t5:=underlying5
 a5:=isAgg5
 z5:=sizeOf5
 v5:=zeroValue5
 t9:=underlying9
 a9:=isAgg9
 z9:=sizeOf9
 v9:=zeroValue9
 t26:=underlying127
 a26:=isAgg127
 z26:=sizeOf127
 v26:=zeroValue127
 t27:=underlying127
 a27:=isAgg127
 z27:=sizeOf127
 v27:=zeroValue127
 t29:=underlying9
 a29:=isAgg9
 z29:=sizeOf9
 v29:=zeroValue9
 t32:=underlying337
 a32:=isAgg337
 z32:=sizeOf337
 v32:=zeroValue337
 t35:=underlying361
 a35:=isAgg361
 z35:=sizeOf361
 v35:=zeroValue361
 t36:=underlying362
 a36:=isAgg362
 z36:=sizeOf362
 v36:=zeroValue362
 t41:=underlying164
 a41:=isAgg164
 z41:=sizeOf164
 v41:=zeroValue164
 t44:=underlying301
 a44:=isAgg301
 z44:=sizeOf301
 v44:=zeroValue301
 t46:=underlying300
 a46:=isAgg300
 z46:=sizeOf300
 v46:=zeroValue300
 t53:=underlying390
 a53:=isAgg390
 z53:=sizeOf390
 v53:=zeroValue390
 t57:=underlying394
 a57:=isAgg394
 z57:=sizeOf394
 v57:=zeroValue394
 t63:=underlying406
 a63:=isAgg406
 z63:=sizeOf406
 v63:=zeroValue406
 t64:=underlying407
 a64:=isAgg407
 z64:=sizeOf407
 v64:=zeroValue407 }
def sortI_ren:Go.Shelf.Ren:=⟨fun|6=>215|15=>234|14=>247|28=>271|29=>272|20=>285|21=>286|22=>287|23=>288|24=>289|25=>290|26=>291|27=>292|46=>314|47=>304|48=>305|49=>315|50=>316|57=>321|n=>n,fun|22=>25|24=>24|25=>58|3=>3|39=>337|0=>0|53=>301|55=>300|4=>4|46=>362|45=>361|50=>164|5=>5|9=>9|66=>390|70=>394|76=>406|77=>407|n=>n,fun|n=>n⟩
theorem sortI:Go.Proofs.SlLaysF0.n6 prog sortI_ren:={
 mixed:=by kernel_rfl
 f6:=⟨f215.name,by decide,func215.trans (congrArg some (by kernel_rfl))⟩
 f14:=⟨f247.name,by decide,func247.trans (congrArg some (by kernel_rfl))⟩
 f15:=func234.trans (congrArg some (by kernel_rfl))
 f20:=⟨f285.name,by decide,func285.trans (congrArg some (by kernel_rfl))⟩
 f21:=⟨f286.name,by decide,func286.trans (congrArg some (by kernel_rfl))⟩
 f22:=⟨f287.name,by decide,func287.trans (congrArg some (by kernel_rfl))⟩
 f23:=⟨f288.name,by decide,func288.trans (congrArg some (by kernel_rfl))⟩
 f24:=⟨f289.name,by decide,func289.trans (congrArg some (by kernel_rfl))⟩
 f25:=⟨f290.name,by decide,func290.trans (congrArg some (by kernel_rfl))⟩
 f26:=⟨f291.name,by decide,func291.trans (congrArg some (by kernel_rfl))⟩
 f27:=⟨f292.name,by decide,func292.trans (congrArg some (by kernel_rfl))⟩
 f28:=func271.trans (congrArg some (by kernel_rfl))
 f29:=func272.trans (congrArg some (by kernel_rfl))
 f46:=⟨f314.name,by decide,func314.trans (congrArg some (by kernel_rfl))⟩
 f47:=func304.trans (congrArg some (by kernel_rfl))
 f48:=func305.trans (congrArg some (by kernel_rfl))
 f49:=⟨f315.name,by decide,func315.trans (congrArg some (by kernel_rfl))⟩
 f50:=⟨f316.name,by decide,func316.trans (congrArg some (by kernel_rfl))⟩
 f57:=⟨f321.name,by decide,func321.trans (congrArg some (by kernel_rfl))⟩
 t0:=underlying0
 a0:=isAgg0
 z0:=sizeOf0
 v0:=zeroValue0
 t3:=underlying3
 a3:=isAgg3
 z3:=sizeOf3
 v3:=zeroValue3
 t4:=underlying4
 a4:=isAgg4
 z4:=sizeOf4
 v4:=zeroValue4
 t5:=underlying5
 a5:=isAgg5
 z5:=sizeOf5
 v5:=zeroValue5
 t9:=underlying9
 a9:=isAgg9
 z9:=sizeOf9
 v9:=zeroValue9
 t22:=underlying25
 a22:=isAgg25
 z22:=sizeOf25
 v22:=zeroValue25
 t25:=underlying58
 a25:=isAgg58
 z25:=sizeOf58
 v25:=zeroValue58
 t39:=underlying337
 a39:=isAgg337
 z39:=sizeOf337
 v39:=zeroValue337
 t45:=underlying361
 a45:=isAgg361
 z45:=sizeOf361
 v45:=zeroValue361
 t46:=underlying362
 a46:=isAgg362
 z46:=sizeOf362
 v46:=zeroValue362
 t50:=underlying164
 a50:=isAgg164
 z50:=sizeOf164
 v50:=zeroValue164
 t53:=underlying301
 a53:=isAgg301
 z53:=sizeOf301
 v53:=zeroValue301
 t55:=underlying300
 a55:=isAgg300
 z55:=sizeOf300
 v55:=zeroValue300
 t66:=underlying390
 a66:=isAgg390
 z66:=sizeOf390
 v66:=zeroValue390
 t70:=underlying394
 a70:=isAgg394
 z70:=sizeOf394
 v70:=zeroValue394
 t76:=underlying406
 a76:=isAgg406
 z76:=sizeOf406
 v76:=zeroValue406
 t77:=underlying407
 a77:=isAgg407
 z77:=sizeOf407
 v77:=zeroValue407 }
end
section
open Go.RowKit Go.Shelf Go.Sort Go.Proofs.Tryz Go.Lib
end
section
open Go.RowKit Go.Shelf Go.Proofs.Tryz Go.Lib
theorem tH:(prog.info? 24).map (fun i=>(i.zero,i.size,i.bytes))=some (some (.agg (qA (List.replicate 32 0))),32,32):=by kernel_rfl
def idL(x:iK):List Value:=(qA x).toList
theorem idL_len(h:x.length=32):(idL x).length=32:=by simp[idL,qD,h]
theorem idL_one(x:iK):∀c∈idL x,c.oneCell'=true:=fun c hc=>qQ x c (by simpa[idL]using hc)
section
variable{w:iN}{bl ml mu:Nat}{limit:Int}{hold:Value}{l:qU}{us:List (ByteArray×Nat)}
end
end
section
open Go.RowKit Go.Shelf Go.Sort Go.Proofs.Tryz Go.Lib
section
variable{α:Type}{enc:α->List Value}{e k:Nat}
def Gat(enc:α->List Value)(e:TypeId)(k base:Nat)(w:iN)(v:Value)(l:List α):Prop:=w.ownsRow base e k v l.length (l.flatMap enc)
theorem Gat.lt{base:Nat}{w:iN}{v:Value}{l:List α}(h:Gat enc e k base w v l){q:Nat}(hq:v.ownBlock=some q):base<=q/\q<w.heap.size:=World.ownsRow.lt h q hq
theorem Gat.keep{S:iM}{base:Nat}{l:List α}(h:Gat enc e k base w v l)(hm:Mod S w w')(hn:∀q,v.ownBlock=some q->¬S q):Gat enc e k base w' v l:=jS h hm hn
theorem Gat.keep0{base:Nat}{l:List α}(h:Gat enc e k base w v l)(hm:Mod qJ w w'):Gat enc e k base w' v l:=h.keep hm (fun _ _=>id)
theorem Gat.base{base b':Nat}{w:iN}{v:Value}{l:List α}(h:Gat enc e k base w v l)(hb:b'<=base):Gat enc e k b' w v l:=uT h hb
theorem Gat.slice{base:Nat}{w:iN}{v:Value}{l:List α}(h:Gat enc e k base w v l):∃ad cap,v=.slice ad l.length cap:=by
 rcases h.2 with⟨rfl,h0⟩|⟨g,cap,cur,rfl,-⟩
 ·exact⟨none,0,by rw[h0]⟩
 ·exact⟨_,_,rfl⟩
theorem Gat.nil(enc:α->List Value)(e k base:Nat)(w:iN):Gat enc e k base w (.slice none 0 0) []:=⟨by simp,.inl ⟨rfl,rfl⟩⟩
theorem Gat.sl{base:Nat}{l:List α}(h:Gat enc e k base w v l)(hk:∀x,(enc x).length=k):Sl true w (fun q=>base<=q/\q<w.heap.size/\v.ownBlock=some q) k (fun cs x=>cs=(enc x).toArray) v l:=by
 refine Sl.of_owns (css:=l.map fun x=>(enc x).toArray) h ?_ ?_ ⟨by simp,fun i h1 h2=>by simp⟩ rfl
 ·rw[List.flatMap_map]
 ·intro c hc
  obtain⟨x,_,rfl⟩:=List.mem_map.1 hc
  simp[hk]
theorem uK(hk:∀x,(enc x).length=k){b:Nat}{x:α}(h:w.heap[b]?=some (.cells (enc x).toArray e (0,0))):Src w k (.slice (some ⟨b,0,none⟩) 1 1) 1 ([x].flatMap enc):=by
 refine⟨by simp[hk],_,_,rfl,fun _=>⟨b,0,rfl,fun j y hj=>?_⟩⟩;have hc:=CellsAt.whole h;exact hc.cell (j:=j) (by simpa using hj)
theorem Gat.src{base:Nat}{l:List α}(h:Gat enc e k base w v l):Src w k v l.length (l.flatMap enc):=uO h
theorem wp_gat(enc:α->List Value)(s x:Operand)(t e:TypeId)(z:Value)(k bytes:Nat)(ho:o.op=.call { callee:=.builtin .append,args:=#[s,x],argTypes:=#[t,t] })
 (ht:P.underlying t=some (.slice e))(hi:(P.info? e).map (fun i=>(i.zero,i.size,i.bytes))=some (some z,k,bytes))(hzs:z.cells.size=k)(hk0:0<k)(h1:∀x,∀c∈enc x,c.oneCell'=true)
 (base:Nat)(v:Value)(l:List α)(hs:a.eval s=v)(hown:Gat enc e k base w v l)(u:Value)(m:List α)(hx:a.eval x=u)(hsrc:Src w k u m.length (m.flatMap enc))(h63:l.length+m.length<=maxLen)(hlen:(l.length+m.length)*bytes<=140737488355328)(hbase:base<=w.heap.size)
 (h:∀v' w',Gat enc e k base w' v' (l++m)->Mod (fun q=>v.ownBlock=some q) w w'->K (a.put o.dst v') w'):o.wp P a w K Q:=by
 refine vY s x t e z k bytes ho ht hi hzs hk0 base v l.length _ hs hown u m.length _ hx hsrc (fun c hc=>?_) h63 hlen hbase (fun v' w' ho' hg hv=>?_)
 ·obtain⟨y,_,hy⟩:=List.mem_flatMap.1 hc
  exact h1 y c hy
 ·refine h v' w' ?_ ((Mod.refl _ _).grown hg (fun k e _=>e))
  unfold Gat;rw[List.length_append,List.flatMap_append];exact ho'
end
theorem cJ{α:Type}{enc:α->List Value}{s x:Operand}{e:TypeId}{z:Value}{bytes base:Nat}{l:List α}(t:TypeId)[u9:US9 t e](hi:(prog.info? e).map (fun i=>(i.zero,i.size,i.bytes))=some (some z,k,bytes))(h1:∀x,∀c∈enc x,c.oneCell'=true)
 (hown:Gat enc e k base w v l)(u:Value)(m:List α)(hsrc:Src w k u m.length (m.flatMap enc))(h63:l.length+m.length<=maxLen)(hlen:(l.length+m.length)*bytes<=140737488355328)(hbase:base<=w.heap.size)
 (h:∀v' w',Gat enc e k base w' v' (l++m)->Mod (fun q=>v.ownBlock=some q) w w'->K (a.put o.dst v') w')(ho:o.op=.call { callee:=.builtin .append,args:=#[s,x],argTypes:=#[t,t] }:=by rfl)(hs:a.eval s=v:=by rfl)(hx:a.eval x=u:=by rfl)(hzs:z.cells.size=k:=by kernel_rfl)(hk0:0<k:=by omega):o.wp prog a w K Q:=
 wp_gat enc s x t e z k bytes ho u9.h hi hzs hk0 h1 base v l hs hown u m hx hsrc h63 hlen hbase h
end
section
open Go.Proofs.Tryz Go.Lib
section
variable{α:Type}[Inhabited α]
def kB(l:List α)(k:Nat):α:=l.getD k default
def swp(l:List α)(i j:Nat):List α:=(l.set i (kB l j)).set j (kB l i)
theorem swp_len(l:List α)(i j:Nat):(swp l i j).length=l.length:=by simp[swp]
theorem at_lt{l:List α}(h:k<l.length):kB l k=l[k]:=by simp[kB,List.getD,h]
theorem gU{l:List α}(hi:i<l.length)(hj:j<l.length)(k:Nat):kB (swp l i j) k=if k=j then kB l i else if k=i then kB l j else kB l k:=by
 unfold swp;simp only[kB,List.getD,List.getElem?_set,List.length_set]
 by_cases h1:k=j
 ·subst h1;simp[hj]
 ·by_cases h2:k=i
  ·subst h2;simp[h1,Ne.symm h1,hi]
  ·simp[h1,h2,Ne.symm h1,Ne.symm h2]
theorem eL{l:List α}(hi:i<l.length)(hj:j<l.length):(swp l i j).Perm l:=by
 have h:=Array.swap_perm (xs:=l.toArray) (i:=i) (j:=j) (by simpa using hi) (by simpa using hj);have h2:=Array.perm_iff_toList_perm.1 h
 have e:(l.toArray.swap i j (by simpa using hi) (by simpa using hj)).toList=swp l i j:=by
  simp[Array.swap,swp,kB,List.getD,hi,hj]
 rwa[e]at h2
variable{le:α->α->Prop}(hr:∀a,le a a)(ht:∀{a b c},le a b->le b c->le a c)
def bT(i:Nat):Nat:=(i-1)/2
theorem aM(h:0<i):bT i<i:=by unfold bT;omega
theorem par_of(h:bT k=i)(hk:0<k):k=2*i+1\/k=2*i+2:=by unfold bT at h;omega
def Heap(le:α->α->Prop)(l:List α)(n:Nat):Prop:=∀i,0<i->i<n->le (kB l (bT i)) (kB l i)
def UpI(le:α->α->Prop)(l:List α)(n j:Nat):Prop:=
 (∀i,0<i->i<n->i≠j->le (kB l (bT i)) (kB l i))/\(0<j->∀i,0<i->i<n->bT i=j->le (kB l (bT j)) (kB l i))
def DownI(le:α->α->Prop)(l:List α)(n j:Nat):Prop:=
 (∀i,0<i->i<n->bT i≠j->le (kB l (bT i)) (kB l i))/\(0<j->∀i,0<i->i<n->bT i=j->le (kB l (bT j)) (kB l i))
theorem UpI.done{l:List α}(h:UpI le l n j)(hj:j=0\/le (kB l (bT j)) (kB l j)):Heap le l n:=fun i h0 hn=>by
 by_cases e:i=j
 ·subst e
  rcases hj with hj|hj
  ·omega
  ·exact hj
 ·exact h.1 i h0 hn e
theorem UpI.snoc{l:List α}{x:α}(h:Heap le l l.length):UpI le (l++[x]) (l.length+1) l.length:=by
 have e:∀k,k<l.length->kB (l++[x]) k=kB l k:=fun k hk=>by simp[kB,List.getD,List.getElem?_append_left hk]
 refine⟨fun i h0 hn hi=>?_,fun h0 i hi hn hp=>?_⟩
 ·rw[e i (by omega),e (bT i) (by have:=aM h0;omega)]
  exact h i h0 (by omega)
 ·have:=par_of hp hi;omega
include ht in
theorem UpI.step{l:List α}(h:UpI le l n j)(hl:n<=l.length)(hj:j<n)(h0:0<j)(hle:le (kB l j) (kB l (bT j))):UpI le (swp l (bT j) j) n (bT j):=by
 have hp:=aM h0;have A:=fun k=>gU (l:=l) (i:=bT j) (j:=j) (by omega) (by omega) k;refine⟨fun i hi hn hne=>?_,fun hpp i hi hn hpi=>?_⟩
 ·rw[A i,A (bT i)]
  by_cases h1:i=j
  ·subst h1
   rw[if_pos rfl,if_neg (by omega),if_pos rfl];exact hle
  ·rw[if_neg h1,if_neg hne]
   by_cases h2:bT i=j
   ·rw[if_pos h2]
    exact h.2 h0 i hi hn h2
   ·rw[if_neg h2]
    by_cases h3:bT i=bT j
    ·rw[if_pos h3]
     have:=h.1 i hi hn h1;rw[h3]at this;exact ht hle this
    ·rw[if_neg h3]
     exact h.1 i hi hn h1
 ·have hq:=aM hpp
  rw[A i,A (bT (bT j))];rw[if_neg (by omega),if_neg (by omega)];have h1:=h.1 (bT j) hpp (by omega) (by omega)
  by_cases e:i=j
  ·rw[if_pos e];exact h1
  ·rw[if_neg e,if_neg (by have:=aM hi;omega)]
   have h2:=h.1 i hi hn e;rw[hpi]at h2;exact ht h1 h2
theorem DownI.start{l:List α}(h:Heap le l (n+1))(hl:n<l.length):DownI le (swp l 0 n) n 0:=by
 have A:=fun k=>gU (l:=l) (i:=0) (j:=n) (by omega) (by omega) k;refine⟨fun i h0 hn hp=>?_,fun h0=>by omega⟩;have:=aM h0
 rw[A i,A (bT i),if_neg (show ¬i=n by omega),if_neg (show ¬i=0 by omega),if_neg (show ¬bT i=n by omega),if_neg hp];exact h i h0 (by omega)
theorem DownI.leaf{l:List α}(h:DownI le l n j)(hn:n<=2*j+1):Heap le l n:=fun i h0 hi=>h.1 i h0 hi (fun e=>by have:=par_of e h0;omega)
include ht in
theorem DownI.stop{l:List α}{c:Nat}(h:DownI le l n j)(hle:le (kB l j) (kB l c))(hc:∀k,0<k->k<n->bT k=j->le (kB l c) (kB l k)):Heap le l n:=fun i h0 hi=>by
 by_cases e:bT i=j
 ·rw[e];exact ht hle (hc i h0 hi e)
 ·exact h.1 i h0 hi e
theorem DownI.step{l:List α}{c:Nat}(h:DownI le l n j)(hl:n<=l.length)(hcn:c<n)(hc0:0<c)(hcp:bT c=j)(hle:le (kB l c) (kB l j))(hc:∀k,0<k->k<n->bT k=j->le (kB l c) (kB l k)):DownI le (swp l j c) n c:=by
 have hjc:=aM hc0;rw[hcp]at hjc;have A:=fun k=>gU (l:=l) (i:=j) (j:=c) (by omega) (by omega) k;refine⟨fun i hi hn hne=>?_,fun _ i hi hn hpi=>?_⟩
 ·rw[A i,A (bT i),if_neg hne]
  by_cases h1:i=c
  ·rw[if_pos h1,if_pos (by rw[h1];exact hcp)]
   exact hle
  ·rw[if_neg h1]
   by_cases h2:bT i=j
   ·rw[if_pos h2,if_neg (by have:=aM hi;omega)]
    exact hc i hi hn h2
   ·rw[if_neg h2]
    by_cases h3:i=j
    ·subst h3
     rw[if_pos rfl];exact h.2 hi c hc0 hcn hcp
    ·rw[if_neg h3]
     exact h.1 i hi hn h2
 ·have:=aM hi
  rw[A i,A (bT c),hcp,if_neg (by omega),if_pos rfl,if_neg (by omega),if_neg (by omega)];have:=h.1 i hi hn (by omega)
  rwa[hpi]at this
include hr ht in
theorem Heap.top{l:List α}(h:Heap le l n):∀k,k<n->le (kB l 0) (kB l k):=fun k=>by
 induction k using Nat.strongRecOn with
 |ind k ih=>
  intro hk
  by_cases h0:k=0
  ·subst h0;exact hr _
  ·have hp:=aM (i:=k) (by omega)
   exact ht (ih _ hp (by omega)) (h k (by omega) hk)
theorem Heap.take{l:List α}{n:Nat}(h:Heap le l n):Heap le (l.take n) n:=fun i h0 hi=>by
 have e:∀k,k<n->kB (l.take n) k=kB l k:=fun k hk=>by simp[kB,List.getD,List.getElem?_take_of_lt hk]
 rw[e i hi,e (bT i) (by have:=aM h0;omega)];exact h i h0 hi
end
def iH(a b:iK):Prop:=¬b<a
theorem leB_refl(a:iK):iH a a:=fun h=>by
 have:=List.lt_irrefl a;exact this h
theorem cU{a:iK}(h:iH a b)(k:iH b c):iH a c:=fun hc=>by
 rcases rU a b with h1|h1|h1
 ·exact k (uU hc h1)
 ·subst h1;exact k hc
 ·exact h h1
theorem cV{a:iK}(h:a<b):iH a b:=fun k=>List.lt_irrefl a (uU h k)
theorem sorted_snoc{out:List iK}(h:out.Pairwise (fun a b=>a<b))(hx:∀a∈out,a<x):(out++[x]).Pairwise (fun a b=>a<b):=by
 rw[List.pairwise_append];exact⟨h,by simp,fun a ha b hb=>by simp at hb;subst hb;exact hx a ha⟩
end
section
open Go.RowKit Go.Proofs.Tryz Go.Lib
section
variable{P:Program}{ops:Array Oper}{Q:Exit->Act->iN->Prop}{S:iN->Prop}{md:Region.Mode}
abbrev Step:=List (Nat×Nat)⊕(Nat⊕(Nat×Array Bool))
def treeAll(md:Region.Mode)(ops:Array Oper)(f:Array Bool->Bool):Nat->Array Bool->Bool
 |0,L=>f L
 |k+1,L=> !(Region.ready md ops L).isEmpty&&(Region.ready md ops L).all fun i=>decide (i<ops.size)&&treeAll md ops f k (L.setIfInBounds i true)
def bS(md:Region.Mode)(ops:Array Oper):List Step->Array Bool->Nat->Bool
 | [],L,n=>n==0&&(Region.ready md ops L).isEmpty
 | .inl l::p,L,n=>match gJ md ops [] l L with
  |some L'=>decide (l.length<=n)&&bS md ops p L' (n-l.length)
  |none=>false
 | .inr (.inl i)::p,L,n=>decide (i<ops.size)&&(Region.ready md ops L==[i])&&decide (0<n)&&bS md ops p (L.setIfInBounds i true) (n-1)
 | .inr (.inr (k,L0))::p,L,n=>decide (L=L0)&&decide (k<=n)&&treeAll md ops (fun L'=>bS md ops p L' (n-k)) k L
def wpTr(P:Program)(md:Region.Mode)(ops:Array Oper)(Q:Exit->Act->iN->Prop)(S:iN->Prop)(K:Act->iN->Prop):Nat->Array Bool->Act->iN->Prop
 |0,_,a,w=>K a w
 |n+1,L,a,w=>∀i∈Region.ready md ops L,Region.wanted (ops.getD i default) (yielded ops a.tmps)=true/\(ops.getD i default).wp P a w (fun a' w'=>S w'/\wpTr P md ops Q S K n (L.setIfInBounds i true) a' w') Q
def planQ(K:Act->iN->Prop):Exit->Act->iN->Prop
 | .normal,a,w=>K a w
 |_,_,_=>True
def uX(P:Program)(md:Region.Mode)(ops:Array Oper)(Q:Exit->Act->iN->Prop)(S:iN->Prop):List Step->Act->iN->Prop
 | [],a,w=>Q .normal a w
 | .inl l::p,a,w=>zF P ops (planQ (uX P md ops Q S p)) S (l.map fun x=>(ops.getD x.1 default,x.2)) a w
 | .inr (.inl i)::p,a,w=>if Region.wanted (ops.getD i default) (yielded ops a.tmps)then(ops.getD i default).wp P a w (fun a' w'=>S w'/\uX P md ops Q S p a' w') Q\/((ops.getD i default).asks P a w/\LetsOut Q)else S w/\uX P md ops Q S p (a.put (ops.getD i default).dst undef) w
 | .inr (.inr (k,L))::p,a,w=>wpTr P md ops Q S (uX P md ops Q S p) k L a w
theorem wpAnyG_of_tr{K:Act->iN->Prop}{f:Array Bool->Bool}{m:Nat}(hk:∀L a w,f L=true->S w->K a w->pW P md ops Q S [] m L a w):
 ∀(k:Nat)(L:Array Bool)(a:Act)(w:iN),treeAll md ops f k L=true->S w->wpTr P md ops Q S K k L a w->pW P md ops Q S [] (k+m) L a w
 |0,L,a,w,hp,hS,h=>by
  rw[Nat.zero_add];exact hk L a w hp hS h
 |k+1,L,a,w,hp,hS,h=>by
  simp only[treeAll,Bool.and_eq_true,Bool.not_eq_true',List.all_eq_true]at hp;rw[Nat.succ_add];refine⟨fun h0=>(by rw[h0]at hp;simp at hp),fun i hi=>?_⟩
  have h1:=hp.2 i hi;simp only[decide_eq_true_eq]at h1;obtain⟨hsz,hp'⟩:=h1;have hi':ops[i]?=some (ops.getD i default):=by simp[Array.getD,hsz]
  obtain⟨hwant,hw⟩:=h i hi;unfold wpOp;generalize ops.getD i default=oi at hi' hw hwant;simp only[hi'];rw[if_pos hwant]
  exact .inl (Oper.wp_mono (fun a' w' h'=>⟨fun _=>h'.1,wpAnyG_of_tr hk k _ a' w' hp' h'.1 h'.2⟩) hw)
theorem rN(hs:Region.noSelect ops=true)(hQ:kU Q):
 ∀(p:List Step)(L:Array Bool)(a:Act)(w:iN)(n:Nat),bS md ops p L n=true->S w->uX P md ops Q S p a w->pW P md ops Q S [] n L a w
 | [],L,a,w,n,hp,hS,h=>by
  simp only[bS,Bool.and_eq_true,beq_iff_eq,List.isEmpty_iff]at hp;obtain⟨rfl,hr⟩:=hp;exact⟨hr,h⟩
 | .inl l::p,L,a,w,n,hp,hS,h=>by
  simp only[bS]at hp
  split at hp
  ·rename_i L' hL
   simp only[Bool.and_eq_true,decide_eq_true_eq]at hp;obtain⟨hn,hp⟩:=hp
   have:=sO (S:=S) (tl:=[]) hs hQ (Q1:=planQ (uX P md ops Q S p)) (L:=L') (fuel:=n-l.length) (fun a w hS h=>rN hs hQ p L' a w (n-l.length) hp (hS rfl) h) l L a w hL (fun _=>hS) h
   rwa[show l.length+(n-l.length)=n by omega]at this
  ·cases hp
 | .inr (.inl i)::p,L,a,w,n,hp,hS,h=>by
  simp only[bS,Bool.and_eq_true,decide_eq_true_eq,beq_iff_eq]at hp;obtain⟨⟨⟨hi,hr⟩,hn⟩,hp⟩:=hp;obtain⟨m,rfl⟩:∃m,n=m+1:=⟨n-1,by omega⟩
  refine⟨fun h0=>(by rw[hr]at h0;cases h0),fun j hj=>?_⟩;have:j=i:=by rw[hr]at hj;simpa using hj
  subst this;have hi':ops[j]?=some (ops.getD j default):=by simp[Array.getD,hi]
  unfold uX at h;refine wpOp_mono (K:=fun a' w'=>S w'/\uX P md ops Q S p a' w') (fun a' w' h'=>⟨fun _=>h'.1,rN hs hQ p _ a' w' m hp h'.1 h'.2⟩) ?_
  unfold wpOp;generalize ops.getD j default=oj at hi' h;simp only[hi']
  by_cases hg:Region.wanted oj (yielded ops a.tmps)=true
  ·rw[if_pos hg]at h |-
   exact h
  ·rw[if_neg hg]at h |-
   exact h
 | .inr (.inr (k,L0))::p,L,a,w,n,hp,hS,h=>by
  simp only[bS,Bool.and_eq_true,decide_eq_true_eq]at hp;obtain⟨⟨rfl,hk⟩,hp⟩:=hp
  have:=wpAnyG_of_tr (S:=S) (m:=n-k) (f:=fun L'=>bS md ops p L' (n-k)) (fun L' a w hf hS h=>rN hs hQ p L' a w (n-k) hf hS h) k L a w hp hS h
  rwa[show k+(n-k)=n by omega]at this
theorem tZ{l:List Oper}(p:List Step)(S:iN->Prop)(hm:P.follows .mixedOrders=true)(hs:Region.noSelect l.toArray=true)
 (hp:bS .any l.toArray p (Array.replicate l.toArray.size false) l.toArray.size=true)(hQ:kU Q)(hS:S w.drew)
 (h:uX P .any l.toArray Q S p a w.drew):(Code.region id l.toArray true).wp P Q a w:=by
 exact wp_region_any hm (dK _ _ _ _ (rN hs hQ p _ a w.drew _ hp hS h))
theorem pU{l:List (Nat×Nat)}{p:List Step}(h:zF P ops (planQ (uX P md ops Q S p)) S (l.map fun x=>(ops.getD x.1 default,x.2)) a w):uX P md ops Q S (.inl l::p) a w:=h
theorem pV{p:List Step}(hw:Region.wanted (ops.getD i default) (yielded ops a.tmps)=true)(h:∀K:Act->iN->Prop,(∀a' w',S w'->uX P md ops Q S p a' w'->K a' w')->(ops.getD i default).wp P a w K Q):uX P md ops Q S (.inr (.inl i)::p) a w:=by
 unfold uX;rw[if_pos hw];exact .inl (h _ fun a' w' h1 h2=>⟨h1,h2⟩)
theorem uM(h:K a w):planQ K .normal a w:=h
theorem gQ(h:Q .normal a w):uX P md ops Q S [] a w:=h
theorem puts_get(h:(d,v)∈ps)(hn:(ps.map (·.1)).Nodup)(hd:d<a.tmps.size):(uF ps a).eval (.tmp d)=v:=by
 have hsz:∀ps:List (Nat×Value),(uF ps a).tmps.size=a.tmps.size:=fun ps=>by
  induction ps with
  |nil=>rfl
  |cons p ps ih=>simp only[uF,Act.put,Array.size_setIfInBounds];exact ih
 induction ps with
 |nil=>cases h
 |cons p ps ih=>
  rw[List.map_cons,List.nodup_cons]at hn
  rcases List.mem_cons.1 h with rfl|h
  ·simp only[uF,Act.put,Act.eval,Array.getD_eq_getD_getElem?]
   rw[Array.getElem?_setIfInBounds_self]
   simp[hsz,hd]
  ·have hne:p.1≠d:=fun e=>hn.1 (e▸List.mem_map_of_mem (f:=(·.1)) h)
   rw[<-ih h hn.2];simp only[uF,Act.put,Act.eval,Array.getD_eq_getD_getElem?,Array.getElem?_setIfInBounds_ne hne]
theorem puts_slot(h:∀p∈ps,p.1≠t)(a:Act):(uF ps a).tmps[t]?=a.tmps[t]?:=by
 induction ps with
 |nil=>rfl
 |cons p ps ih=>
  rw[<-ih fun q hq=>h q (List.mem_cons_of_mem _ hq)];have:=h p List.mem_cons_self;simp only[uF,Act.put,Array.getElem?_setIfInBounds_ne this]
def guardFar(ops:Array Oper)(ds:List Nat)(o:Oper):Bool:=match o.guard with
 |none=>true
 |some (j,_)=>match(ops[j]?).bind (·.dst)with
  |some t=>ds.all (·!=t)
  |none=>true
theorem wanted_puts{ds:List Nat}(hps:∀p∈ps,p.1∈ds)(hg:guardFar ops ds o=true)(a:Act):Region.wanted o (yielded ops (uF ps a).tmps)=Region.wanted o (yielded ops a.tmps):=by
 unfold Region.wanted
 cases hq:o.guard with
 |none=>rfl
 |some x=>
  obtain⟨j,b⟩:=x;unfold guardFar at hg;simp only[hq]at hg;unfold yielded
  cases hd:(ops[j]?).bind (·.dst)with
  |none=>simp[hd]
  |some t=>
   simp only[hd,List.all_eq_true,bne_iff_ne]at hg;simp only[hd,Option.bind_some];rw[puts_slot (fun p hp=>hg _ (hps p hp))]
def depOk(md:Region.Mode)(ops:Array Oper):Nat->List (Nat×Nat×List Nat)->Array Bool->Bool
 |0,g,_=>g.isEmpty
 |n+1,g,L=>(Region.ready md ops L).all fun i=>g.any fun q=>q.1==i&&(q.2.2.all fun d=> !(g.any fun r=>r.2.1==d))&&depOk md ops n (g.erase q) (L.setIfInBounds i true)
theorem wpTr_dep{a:Act}{w0:iN}{K:Act->iN->Prop}(F:Nat->Value->iN->Prop)(g0:List (Nat×Nat×List Nat))(hF:∀d v w w',F d v w->Mod qJ w w'->F d v w')(hS:∀w,Mod qJ w0 w->S w)(hn:(g0.map (·.2.1)).Nodup)(hds:(g0.all fun q=>q.2.2.all fun d=>(g0.map (·.2.1)).contains d)=true)
 (hgf:(g0.all fun q=>guardFar ops (g0.map (·.2.1)) (ops.getD q.1 default))=true)(hw:∀q∈g0,Region.wanted (ops.getD q.1 default) (yielded ops a.tmps)=true)
 (hend:∀(vals:List Value)(w:iN),vals.length=g0.length->Mod qJ w0 w->(∀p∈(g0.map (·.2.1)).zip vals,F p.1 p.2 w)->K (uF ((g0.map (·.2.1)).zip vals) a) w)
 (hop:∀q∈g0,∀(ps:List (Nat×Value))(w:iN),Mod qJ w0 w->(∀p∈ps,F p.1 p.2 w)->(∀d∈q.2.2,∃v,(d,v)∈ps)->(ps.map (·.1)).Nodup->(∀p∈ps,p.1≠q.2.1/\p.1∈g0.map (·.2.1))->
  ∀K',(∀v w',Mod qJ w w'->F q.2.1 v w'->K' ((uF ps a).put (some q.2.1) v) w')->(ops.getD q.1 default).wp P (uF ps a) w K' Q):
 ∀(n:Nat)(g:List (Nat×Nat×List Nat))(L:Array Bool)(ps:List (Nat×Value))(w:iN),depOk md ops n g L=true->(∀q∈g,q∈g0)->(ps.map (·.1)++g.map (·.2.1)).Perm (g0.map (·.2.1))->Mod qJ w0 w->(∀p∈ps,F p.1 p.2 w)->
  wpTr P md ops Q S K n L (uF ps a) w
 |0,g,L,ps,w,hg,hsub,hp,hm,hps=>by
  simp only[depOk,List.isEmpty_iff]at hg;subst hg;have hp':(ps.map (·.1)).Perm (g0.map (·.2.1)):=by simpa using hp
  obtain⟨vals,hl,hv⟩:=perm_vals hp'
  show K (uF ps a) w
  rw[puts_perm hv a (hp'.symm.nodup_iff.1 hn)];exact hend vals w (by simpa using hl) hm (fun p hp=>hps p (hv.symm.subset hp))
 |n+1,g,L,ps,w,hg,hsub,hp,hm,hps=>by
  intro i hi;simp only[depOk,List.all_eq_true]at hg;have h1:=hg i hi;rw[List.any_eq_true]at h1;obtain⟨q,hq,h1⟩:=h1;simp only[Bool.and_eq_true,beq_iff_eq]at h1
  obtain⟨⟨rfl,hdep⟩,hg'⟩:=h1;have hnd:(ps.map (·.1)++g.map (·.2.1)).Nodup:=hp.symm.nodup_iff.1 hn
  have hin:∀p∈ps,p.1∈g0.map (·.2.1):=fun p hpp=>hp.subset (List.mem_append_left _ (List.mem_map_of_mem hpp));refine⟨?_,?_⟩
  ·rw[wanted_puts hin (by simpa using List.all_eq_true.1 hgf q (hsub q hq))]
   exact hw q (hsub q hq)
  ·refine hop q (hsub q hq) ps w hm hps (fun d hd=>?_) (List.nodup_append.1 hnd).1 (fun p hpp=>⟨?_,hin p hpp⟩) _ fun v w' hm' hv=>⟨hS _ (hm.trans0 hm'),?_⟩
   ·have h2:d∈g0.map (·.2.1):=by
     have:=List.all_eq_true.1 (List.all_eq_true.1 hds q (hsub q hq)) d hd
     simpa using this
    rcases List.mem_append.1 (hp.symm.subset h2)with h3|h3
    ·obtain⟨p,hp1,rfl⟩:=List.mem_map.1 h3
     exact⟨p.2,hp1⟩
    ·exfalso
     have:=List.all_eq_true.1 hdep d hd;obtain⟨r,hr,rfl⟩:=List.mem_map.1 h3;simp only[Bool.not_eq_true',List.any_eq_false]at this;exact this r hr (by simp)
   ·rw[List.nodup_append]at hnd
    exact hnd.2.2 _ (List.mem_map_of_mem hpp) _ (List.mem_map_of_mem (f:=(·.2.1)) hq)
   ·refine wpTr_dep F g0 hF hS hn hds hgf hw hend hop n (g.erase q) _ ((q.2.1,v)::ps) w' hg' (fun r hr=>hsub r (List.mem_of_mem_erase hr)) ?_ (hm.trans0 hm') (fun p hpp=>?_)
    ·refine List.Perm.trans ?_ hp
     simp only[List.map_cons,List.cons_append];refine(List.perm_middle (l₁:=ps.map (·.1)) (a:=q.2.1) (l₂:=(g.erase q).map (·.2.1))).symm.trans ?_
     exact List.Perm.append_left _ (by simpa using((List.perm_cons_erase hq).map (·.2.1)).symm)
    ·rcases List.mem_cons.1 hpp with rfl|hpp
     ·exact hv
     ·exact hF _ _ _ _ (hps p hpp) hm'
def aX:List (Nat×(Value->iN->Prop))->Nat->Value->iN->Prop
 | [],_,_,_=>True
 |(d,f)::r,e,v,w=>if d=e then f v w else aX r e v w
theorem depF_keep{fs:List (Nat×(Value->iN->Prop))}(h:∀x∈fs,∀v w w',x.2 v w->Mod qJ w w'->x.2 v w'):∀d v w w',aX fs d v w->Mod qJ w w'->aX fs d v w':=by
 induction fs with
 |nil=>intros;trivial
 |cons x fs ih=>
  obtain⟨d0,f⟩:=x;intro d v w w' hf hm;unfold aX at hf |-
  by_cases hd:d0=d
  ·rw[if_pos hd]at hf |-
   exact h (d0,f) (by simp) v w w' hf hm
  ·rw[if_neg hd]at hf |-
   exact ih (fun x hx=>h x (by simp[hx])) d v w w' hf hm
theorem gR{p:List Step}(fs:List (Nat×(Value->iN->Prop)))(g0:List (Nat×Nat×List Nat))(hF:∀x∈fs,∀v w w',x.2 v w->Mod qJ w w'->x.2 v w')(hS:∀w,Mod qJ w0 w->S w)(hn:(g0.map (·.2.1)).Nodup)(hds:(g0.all fun q=>q.2.2.all fun d=>(g0.map (·.2.1)).contains d)=true)
 (hgf:(g0.all fun q=>guardFar ops (g0.map (·.2.1)) (ops.getD q.1 default))=true)(hok:depOk md ops n g0 L=true)(hw:∀q∈g0,Region.wanted (ops.getD q.1 default) (yielded ops a.tmps)=true)
 (hend:∀(vals:List Value)(w:iN),vals.length=g0.length->Mod qJ w0 w->(∀p∈(g0.map (·.2.1)).zip vals,aX fs p.1 p.2 w)->uX P md ops Q S p (uF ((g0.map (·.2.1)).zip vals) a) w)
 (hop:∀q∈g0,∀(ps:List (Nat×Value))(w:iN),Mod qJ w0 w->(∀p∈ps,aX fs p.1 p.2 w)->(∀d∈q.2.2,∃v,(d,v)∈ps)->(ps.map (·.1)).Nodup->(∀p∈ps,p.1≠q.2.1/\p.1∈g0.map (·.2.1))->
  ∀K',(∀v w',Mod qJ w w'->aX fs q.2.1 v w'->K' ((uF ps a).put (some q.2.1) v) w')->(ops.getD q.1 default).wp P (uF ps a) w K' Q):
 uX P md ops Q S (.inr (.inr (n,L))::p) a w0:=
 wpTr_dep (aX fs) g0 (depF_keep hF) hS hn hds hgf hw hend hop n g0 L [] w0 hok (fun _ h=>h) (by simp) (Mod.refl _ _) (fun p hp=>(nomatch hp))
end
end
section
open Go.Proofs.Tryz Go.Lib
def be(l:iK):Nat:=l.foldl (fun n x=>n*256+x.toNat) 0
theorem be_snoc(l:iK)(x:UInt8):be (l++[x])=be l*256+x.toNat:=by simp[be]
theorem be_lt_aux(l:iK)(n m:Nat)(h:n<256^m):l.foldl (fun n x=>n*256+x.toNat) n<256^(m+l.length):=by
 induction l generalizing n m with
 |nil=>exact h
 |cons x l ih=>
  have hx:=x.toNat_lt;have:=ih (n*256+x.toNat) (m+1) (by rw[Nat.pow_succ];omega)
  rw[List.foldl_cons,List.length_cons,show m+(l.length+1)=m+1+l.length by omega];exact this
theorem be_lt(l:iK):be l<256^l.length:=by
 have:=be_lt_aux l 0 0 (by decide)
 rwa[Nat.zero_add]at this
def szK(n k:Nat):Nat:=if h:k<8/\0<n/256^k then szK n (k+1)else k
termination_by 8-k
theorem szK_step(h:k<8/\0<n/256^k):szK n k=szK n (k+1):=by rw[szK,dif_pos h]
theorem sS(h:¬(k<8/\0<n/256^k)):szK n k=k:=by rw[szK,dif_neg h]
def bH(n:Nat):Nat:=if n<192 then 0 else szK n 1
theorem szK_le(n:Nat):∀(j k:Nat),k<=8->8-k=j->szK n k<=8:=fun j=>by
 induction j with
 |zero=>intro k h1 h2;rw[sS (by omega)];omega
 |succ j ih=>
  intro k h1 h2
  by_cases h:k<8/\0<n/256^k
  ·rw[szK_step h];exact ih (k+1) (by omega) (by omega)
  ·rw[sS h];omega
def rdNum(b:iK)(a:Nat):Option (Nat×Nat):=
 match b[a]? with
 |none=>none
 |some c=>
  if 199<c.toNat then none
  else if b.length-a-1<c.toNat-191 then none
  else if c.toNat-191=0 then some (c.toNat,a+1)
  else if be ((b.drop (a+1)).take (c.toNat-191))>=9223372036854775808\/bH (be ((b.drop (a+1)).take (c.toNat-191)))≠c.toNat-191 then none
  else some (be ((b.drop (a+1)).take (c.toNat-191)),a+1+(c.toNat-191))
abbrev RS:=Option Nat
def zM(b:iK):RS->Nat×RS
 |none=>(0,none)
 |some a=>match rdNum b a with
  |none=>(0,none)
  |some (n,a')=>(n,some a')
def pC(b:iK)(most:Nat)(s:RS):Nat×RS:=if most<(zM b s).1 then((zM b s).1,none)else zM b s
def vF(b:iK)(n:Nat):RS->iK×RS
 |none=>([],none)
 |some a=>if b.length-a<n then([],none)else((b.drop a).take n,some (a+n))
def yK(b:iK)(most:Nat)(s:RS):iK×RS:=vF b (pC b most s).1 (pC b most s).2
def zeros32:iK:=List.replicate 32 0
def dO(b:iK)(s:RS):iK×RS:=(if(vF b 32 s).1=[]then zeros32 else(vF b 32 s).1,(vF b 32 s).2)
structure yY where
 media:Nat
 id:iK
 size:Nat
 plat:iK
deriving DecidableEq
def descZ:yY:=⟨0,zeros32,0,[]⟩
def xG(b:iK)(s:RS):yY×RS:=
 let m:=zM b s
 let i:=dO b m.2
 let n:=zM b i.2
 let p:=yK b 4096 n.2
 (⟨m.1,i.1,n.1,p.1⟩,p.2)
def xA(b:iK):Nat->RS->List yY×RS
 |0,s=>([],s)
 |n+1,s=>((xA b n s).1++[(xG b (xA b n s).2).1],(xG b (xA b n s).2).2)
structure eH where
 kind:Nat
 title:iK
 config:yY
 layers:List yY
 subs:List yY
deriving DecidableEq
def fX:eH:=⟨0,[],descZ,[],[]⟩
def cS(b:iK):eH×RS×Bool:=
 let f:=zM b (some 0)
 if f.1≠77 then(fX,f.2,false)
 else
  let k:=zM b f.2
  if k.1≠3/\k.1≠4 then({ fX with kind:=k.1 },k.2,false)
  else
   let t:=yK b 4096 k.2
   let c:=if k.1=3 then xG b t.2 else(descZ,t.2)
   let n:=zM b c.2
   if(if k.1=3 then 16 else 8)<n.1 then(⟨k.1,t.1,c.1,[],[]⟩,n.2,false)
   else
    let l:=xA b n.1 n.2
    (⟨k.1,t.1,c.1,if k.1=3 then l.1 else [],if k.1=3 then []else l.1⟩,l.2,true)
def kA(b:iK):Option eH:=if b.length<=4096/\(cS b).2.2=true/\(cS b).2.1=some b.length then some (cS b).1 else none
def yJ(m:eH):List yY:=(if m.kind=3 then [m.config]else [])++m.layers++m.subs
def RsOk(b:iK)(s:RS):Prop:=∀a,s=some a->a<=b.length
theorem rdNum_ok{a:Nat}(h:rdNum b a=some (n,a')):a<a'/\a'<=b.length/\n<9223372036854775808:=by
 unfold rdNum at h
 split at h
 ·cases h
 ·rename_i c hc
  have ha:a<b.length:=by
   rcases Nat.lt_or_ge a b.length with h|h
   ·exact h
   ·rw[List.getElem?_eq_none h]at hc;cases hc
  split at h
  ·cases h
  ·split at h
   ·cases h
   ·split at h
    ·simp only[Option.some.injEq,Prod.mk.injEq]at h;have:=c.toNat_lt;omega
    ·split at h
     ·cases h
     ·simp only[Option.some.injEq,Prod.mk.injEq]at h;omega
theorem rNumL_ok{s:RS}:RsOk b (zM b s).2/\(zM b s).1<9223372036854775808/\((zM b s).2=none->(zM b s).1=0):=by
 unfold zM RsOk
 cases s with
 |none=>simp
 |some a=>
  cases h:rdNum b a with
  |none=>simp[h]
  |some p=>
   obtain⟨n,a'⟩:=p;have:=rdNum_ok h
   simp[h];omega
theorem rManyL_ok{s:RS}:RsOk b (pC b most s).2/\(pC b most s).1<9223372036854775808:=by
 have:=rNumL_ok (b:=b) (s:=s);unfold pC
 split
 ·exact⟨fun a h=>(by cases h),this.2.1⟩
 ·exact⟨this.1,this.2.1⟩
theorem rTakeL_ok{s:RS}(h:RsOk b s):RsOk b (vF b n s).2/\((vF b n s).1=[]\/(vF b n s).1.length=n):=by
 unfold vF
 cases s with
 |none=>exact⟨fun a h=>(by cases h),Or.inl rfl⟩
 |some a=>
  have:=h a rfl
  by_cases hc:b.length-a<n
  ·simp[hc,RsOk]
  ·simp only[hc,if_false]
   refine⟨fun a' e=>?_,.inr (by simp;omega)⟩
   cases e;omega
theorem rBytesL_ok{s:RS}:RsOk b (yK b most s).2:=(rTakeL_ok rManyL_ok.1).1
theorem rIDL_ok{s:RS}(h:RsOk b s):RsOk b (dO b s).2/\(dO b s).1.length=32:=by
 have:=rTakeL_ok (n:=32) h;refine⟨this.1,?_⟩;unfold dO
 by_cases hc:(vF b 32 s).1=[]
 ·simp[hc,zeros32]
 ·simp only[hc,if_false]
  exact this.2.resolve_left hc
theorem rDescL_ok{s:RS}:RsOk b (xG b s).2/\(xG b s).1.id.length=32/\(xG b s).1.media<9223372036854775808/\(xG b s).1.size<9223372036854775808:=
 ⟨rBytesL_ok,(rIDL_ok rNumL_ok.1).2,rNumL_ok.2.1,rNumL_ok.2.1⟩
theorem rD{b:iK}{s:RS}:∀n,(xA b n s).1.length=n
 |0=>rfl
 |n+1=>by simp[xA,rD n]
theorem gY{b:iK}{s:RS}(h:RsOk b s):∀n,RsOk b (xA b n s).2/\∀d∈(xA b n s).1,d.id.length=32
 |0=>⟨h,fun d hd=>by cases hd⟩
 |n+1=>⟨rDescL_ok.1,fun d hd=>by
  simp only[xA,List.mem_append,List.mem_singleton]at hd
  rcases hd with hd|rfl
  ·exact(gY h n).2 d hd
  ·exact rDescL_ok.2.1⟩
theorem xP:descZ.id.length=32:=by simp[descZ,zeros32]
theorem decL_ids{m:eH}(h:kA b=some m):∀d∈yJ m,d.id.length=32:=by
 unfold kA at h
 split at h
 ·rename_i hc
  have hm:=Option.some.inj h;subst hm;obtain⟨-,h2,-⟩:=hc
  revert h2
  unfold cS
  dsimp only
  generalize (zM b (some 0))=f
  split
  ·simp
  ·generalize zM b f.2=k
   split
   ·simp
   ·generalize yK b 4096 k.2=t
    by_cases hk:k.1=3
    ·simp only[hk,if_true]
     split
     ·simp
     ·intro _ d hd
      simp only[yJ,if_true,List.append_nil,List.mem_append,List.mem_singleton]at hd
      rcases hd with rfl|hd
      ·exact rDescL_ok.2.1
      ·exact(gY rNumL_ok.1 _).2 d hd
    ·simp only[hk,if_false]
     split
     ·simp
     ·intro _ d hd
      simp only[yJ,hk,if_false,List.append_nil,List.nil_append]at hd;exact(gY rNumL_ok.1 _).2 d hd
 ·cases h
end
section
open Go.RowKit Go.Proofs.Tryz Go.Lib
structure RdI(w:iN)(rb wb:Nat)(bv:Value)(b:iK)(a:Nat)(e p:Int):Prop where
 box:w.heap[rb]?=some (.cells #[iO wb,bv,.int .i64 a] 344 (0,0))
 wr:w.heap[wb]?=some (.cells #[.int .i64 e,.int .i64 p] 320 (0,0))
 sl:Sl false w (fun k=>bv.ownBlock=some k) 1 yA bv b
 lt:∀k,bv.ownBlock=some k->k<w.heap.size/\k≠rb/\k≠wb
 len:b.length<=4096
 al:a<=b.length
 z:e=0->p=0
 ne:rb≠wb
def yW(a:Nat)(e:Int):RS:=if e=0 then some a else none
theorem sE(a:Nat):yW a 0=some a:=rfl
theorem uC{a:Nat}{e:Int}(h:e≠0):yW a e=none:=by simp[yW,h]
def RdS(w w':iN)(rb wb:Nat)(bv:Value)(b:iK)(s:RS):Prop:=(∃a e p,RdI w' rb wb bv b a e p/\yW a e=s)/\Mod (fun k=>k=rb\/k=wb) w w'
section
variable{w:iN}{rb wb:Nat}{bv:Value}{b:iK}{a:Nat}{e p:Int}
theorem RdI.keep{S:iM}{w':iN}(h:RdI w rb wb bv b a e p)(hm:Mod S w w')(h1:¬S rb)(h2:¬S wb)(h3:∀k,bv.ownBlock=some k->¬S k):RdI w' rb wb bv b a e p:=
 ⟨hm.obj h1 h.box,hm.obj h2 h.wr,h.sl.keep hm h3 (fun _ _ h=>h),fun k hk=>⟨Nat.lt_of_lt_of_le (h.lt k hk).1 hm.size,(h.lt k hk).2⟩,h.len,h.al,h.z,h.ne⟩
theorem RdI.keep0(h:RdI w rb wb bv b a e p)(hm:Mod qJ w w'):RdI w' rb wb bv b a e p:=h.keep hm id id (fun _ _=>id)
theorem RdI.lts(h:RdI w rb wb bv b a e p):rb<w.heap.size/\wb<w.heap.size:=⟨(Array.getElem?_eq_some_iff.1 h.box).1,(Array.getElem?_eq_some_iff.1 h.wr).1⟩
theorem RdI.keepN(h:RdI w rb wb bv b a e p)(h0:∀k,k=rb\/k=wb\/bv.ownBlock=some k->k<w0.heap.size)(hm:Mod (fun k=>k=n) w w')(hn:w0.heap.size<=n):RdI w' rb wb bv b a e p:=
 h.keep hm (fun e=>by have:=h0 rb (.inl rfl);omega) (fun e=>by have:=h0 wb (.inr (.inl rfl));omega) (fun k hk e=>by have:=h0 k (.inr (.inr hk));omega)
theorem RdI.all(h:RdI w rb wb bv b a e p):∀k,k=rb\/k=wb\/bv.ownBlock=some k->k<w.heap.size:=fun k hk=>by
 rcases hk with rfl|rfl|hk
 ·exact h.lts.1
 ·exact h.lts.2
 ·exact(h.lt k hk).1
theorem RdI.cell(h:RdI w rb wb bv b a e p):w.cell? ⟨rb,0,none⟩=some (iO wb)/\w.cell? ⟨rb,1,none⟩=some bv/\w.cell? ⟨rb,2,none⟩=some (.int .i64 a)/\w.cell? ⟨wb,0,none⟩=some (.int .i64 e)/\w.cell? ⟨wb,1,none⟩=some (.int .i64 p):=by
 simp[World.cell?,h.box,h.wr]
theorem RdI.row(h:RdI w rb wb bv b a e p):CellsAt w wb 0 #[.int .i64 e,.int .i64 p]:=CellsAt.whole h.wr
theorem RdI.stay(h:RdI w rb wb bv b a e p):RdS w w rb wb bv b (yW a e):=⟨⟨a,e,p,h,rfl⟩,Mod.refl _ _⟩
theorem RdS.keepN{w0 w1 w2:iN}{n:Nat}{s:RS}(h:RdS w w1 rb wb bv b s)(h0:∀k,k=rb\/k=wb\/bv.ownBlock=some k->k<w0.heap.size)(hs:w0.heap.size<=w.heap.size)(hm:Mod (fun k=>k=n) w1 w2)(hn:w.heap.size<=n):RdS w w2 rb wb bv b s:=by
 obtain⟨⟨a,e,p,hi,hst⟩,hM⟩:=h;exact⟨⟨a,e,p,hi.keepN h0 hm (by omega),hst⟩,hM.trans hm (fun k hk e=>by have e':k=n:=e;omega)⟩
theorem RdS.pre{s:RS}(h:Mod qJ w w1)(k:RdS w1 w2 rb wb bv b s):RdS w w2 rb wb bv b s:=⟨k.1,(h.mono (fun _ _ h=>h.elim)).trans k.2 (fun _ _ h=>h)⟩
theorem RdS.trans{w1 w2:iN}{s s':RS}(h:RdS w w1 rb wb bv b s)(k:RdS w1 w2 rb wb bv b s'):RdS w w2 rb wb bv b s':=⟨k.1,h.2.trans k.2 (fun _ _ h=>h)⟩
theorem RdI.fail(h:RdI w rb wb bv b a 0 p)(hm:Mod (fun k=>k=wb) w w'){er at_:Int}(he:er≠0)(hw:w'.heap[wb]?=some (.cells #[.int .i64 er,.int .i64 at_] 320 (0,0))):RdS w w' rb wb bv b none:=
 ⟨⟨a,er,at_,⟨hm.objB h.ne h.box,hw,h.sl.keep hm (fun k hk hs=>(h.lt k hk).2.2 hs) (fun _ _ h=>h),fun k hk=>⟨Nat.lt_of_lt_of_le (h.lt k hk).1 hm.size,(h.lt k hk).2⟩,h.len,h.al,fun h=>absurd h he,h.ne⟩,uC he⟩,hm.mono fun _ _ h=>.inr h⟩
theorem RdI.on(h:RdI w rb wb bv b a 0 p)(hm:Mod (fun k=>k=rb) w w')(ha:a'<=b.length)(hw:w'.heap[rb]?=some (.cells #[iO wb,bv,.int .i64 a'] 344 (0,0))):RdS w w' rb wb bv b (some a'):=
 ⟨⟨a',0,p,⟨hw,hm.objB (fun e=>h.ne e.symm) h.wr,h.sl.keep hm (fun k hk hs=>(h.lt k hk).2.1 hs) (fun _ _ h=>h),fun k hk=>⟨Nat.lt_of_lt_of_le (h.lt k hk).1 hm.size,(h.lt k hk).2⟩,h.len,ha,h.z,h.ne⟩,rfl⟩,hm.mono fun _ _ h=>.inl h⟩
theorem wFailed_at(hc:w.cell? ⟨wb,0,none⟩=some (.int .i64 e)):Calls prog 252 #[iO wb] w (pT (.bool (decide (e≠0))) w):=by
 go_enter func252,ntmps252;go_upto_region 1 with(fail);refine qL [3,3,3,3,1,3,3] ?_;simp only[qB];refine qG 33 hc ?_;try simp only[qC]
 refine qN _ _ _ _ _ _ _ _ rfl rfl rfl rfl rfl (decide (e≠0)) rfl ?_;simp only[qB];go_wp2;go_ret;exact⟨rfl,rfl⟩
theorem cO(h:RdI w rb wb bv b a e p):Calls prog 281 #[iO rb] w (pT (.bool (decide (e≠0))) w):=by
 have hc0:=h.cell.1;have hcw:=h.cell.2.2.2.1;clear h;go_enter func281,ntmps281
 go_wp2_with (go_at_call 252;refine(wFailed_at hcw).mono ?_;rintro _ w1 ⟨rfl,hw⟩;obtain rfl:=hw.symm);go_ret;exact⟨by simp,rfl⟩
def FailsR(w:iN)(wb:Nat)(er at_:Int):iJ:=fun e w'=>e=.returned (.tuple #[])/\Mod (fun k=>k=wb) w w'/\w'.heap[wb]?=some (.cells #[.int .i64 er,.int .i64 at_] 320 (0,0))
theorem uI(x y:Int):prog.built 255 [(0,.int .i64 x),(1,.int .i64 y)]=some #[.int .i64 x,.int .i64 y]:=by
 have z:(prog.info? 255).bind (·.zero)=some (.agg #[.int .i64 0,.int .i64 0]):=by kernel_rfl
 have p:yM prog 255=some [(0,1),(1,1)]:=by kernel_rfl
 rw[zX z p,zN (off:=0) (size:=1) rfl (by rfl) (by simp),zN (off:=1) (size:=1) rfl (by rfl) (by simp[zE,Value.cells]),yN]
 rfl
theorem pX(p er at_:Int)(hw:w.heap[wb]?=some (.cells #[.int .i64 0,.int .i64 p] 320 (0,0))):Calls prog 254 #[iO wb,.int .i64 er,.int .i64 at_] w (FailsR w wb er at_):=by
 have hc:w.cell? ⟨wb,0,none⟩=some (.int .i64 0):=by simp[World.cell?,hw]
 go_enter func254,ntmps254;go_upto_region 0 with(fail);refine qL [3,3,3,3,1,3] ?_;simp only[qB];refine qG 33 hc ?_;try simp only[qC]
 refine qZ (fun _=>by go_simp;try with_reducible rfl) ?_;simp only[qB];go_upto_region 1 with(fail);refine qL [3,3,3,0,3,3,1] ?_;simp only[qB]
 refine yV (uI er at_) ?_;simp only[qB]
 refine qK (qT 255 #[.int .i64 er,.int .i64 at_] (by simp[Value.oneCell']) 2 rfl hw (fun w3 hB3 hm3=>?_) (hoff:=by rfl));simp only[qB];go_wp2
 go_end0
 exact⟨rfl,hm3,hB3⟩
theorem rPlace_any(h:RdI w rb wb bv b a e p):Calls prog 311 #[iO rb] w (pT (.int .i64 (if e≠0 then 0 else a)) w):=by
 have hc2:=h.cell.2.2.1;have hn:=cO h;clear h
 by_cases he:e=0
 ·subst he
  go_enter func311,ntmps311;go_wp2_with (go_at_call 281;refine hn.mono ?_;rintro _ w1 ⟨rfl,hw⟩;obtain rfl:=hw.symm);go_ret;exact⟨rfl,rfl⟩
 ·have hd:decide (e≠0)=true:=by simpa using he
  rw[hd]at hn;rw[if_pos he];go_enter func311,ntmps311;go_wp2_with (go_at_call 281;refine hn.mono ?_;rintro _ w1 ⟨rfl,hw⟩;obtain rfl:=hw.symm);go_ret;exact⟨rfl,rfl⟩
theorem rRest_any(h:RdI w rb wb bv b a e p):Calls prog 243 #[iO rb] w (vO (.int .i64 (if e≠0 then 0 else(b.length:Int)-a)) w):=by
 have hc2:=h.cell.2.2.1;have hc1:=h.cell.2.1;have hn:=cO h;have hle:=h.al;have hln:=h.len;obtain⟨ad,cap,rfl,-,-⟩:=Sl.at h.sl;clear h
 by_cases he:e=0
 ·subst he
  go_enter func243,ntmps243;go_upto_region 3 with(go_at_call 281;refine hn.mono ?_;rintro _ w1 ⟨rfl,hw⟩;obtain rfl:=hw.symm)
  have hS:Mod qJ w w.drew:=(Mod.refl _ _).drew;refine zZ [3,3,3,0,3,3,3,3,0,3,3] [] (fun w'=>Mod qJ w w') hS ?_;simp only[qB]
  refine qE 53 (fun w' hS=>hS.cell id hc1) ?_;simp only[qC];refine xF ?_;simp only[qB];refine qE 3 (fun w' hS=>hS.cell id hc2) ?_;simp only[qC]
  refine yC _ _ _ _ ((b.length:Nat):Int) (a:Int) rfl rfl rfl rfl (by omega) (by omega) ?_;simp only[qB];go_wp2;go_ret;exact⟨rfl,hS⟩
 ·have hd:decide (e≠0)=true:=by simpa using he
  rw[hd]at hn;rw[if_pos he];go_enter func243,ntmps243;go_wp2_with (go_at_call 281;refine hn.mono ?_;rintro _ w1 ⟨rfl,hw⟩;obtain rfl:=hw.symm);go_ret
  exact⟨rfl,Mod.refl _ _⟩
def EndR(w:iN)(b:iK)(a:Nat)(e p:Int):iJ:=fun x w'=>Mod qJ w w'/\∃er at_:Int,x=.returned (.agg #[.int .i64 er,.int .i64 at_])/\(er=0↔e=0/\a=b.length)/\(er=0->at_=0)
end
theorem wpPi_rem(t:TypeId)(x y:Operand)(yt:TypeId)(m n:Int)(hw:Region.wanted o (yielded ops a.tmps)=true)(ho:o.op=.binOp .rem t x y yt)(hx:a.eval x=.int .i64 m)(hy:a.eval y=.int .i64 n)
 (h1:0<=m)(h2:0<n)(h:zF P ops Q S r (a.put o.dst (.int .i64 (m%n))) w):zF P ops Q S ((o,3)::r) a w:=
 qM hw (fun w=>by
  unfold execOp;have e:m.tmod n=m%n:=Int.tmod_eq_emod_of_nonneg h1;have hn:n≠0:=by omega
  simp[ho,hx,hy,eqGuard,binOp,Op.intDiv,e,hn]) h
theorem wpPi_quo(t:TypeId)(x y:Operand)(yt:TypeId)(m n:Int)(hw:Region.wanted o (yielded ops a.tmps)=true)(ho:o.op=.binOp .quo t x y yt)(hx:a.eval x=.int .i64 m)(hy:a.eval y=.int .i64 n)
 (h2:n≠0)(h3:-9223372036854775808<=m.tdiv n)(h4:m.tdiv n<=9223372036854775807)(h:zF P ops Q S r (a.put o.dst (.int .i64 (m.tdiv n))) w):zF P ops Q S ((o,3)::r) a w:=
 qM hw (fun w=>by
  unfold execOp;have e:=bE h3 h4
  simp[ho,hx,hy,eqGuard,binOp,Op.intDiv,e,h2]) h
theorem tO(t:TypeId)(x y:Operand)(yt:TypeId)(m n d:Int)(hw:Region.wanted o (yielded ops a.tmps)=true)(ho:o.op=.binOp .rem t x y yt)(hx:a.eval x=.int .i64 m)(hy:a.eval y=.int .i64 n)
 (hd:m%n=d)(h1:0<=m)(h2:0<n)(h:zF P ops Q S r (a.put o.dst (.int .i64 d)) w):zF P ops Q S ((o,3)::r) a w:=by
 subst hd;exact wpPi_rem t x y yt m n hw ho hx hy h1 h2 h
theorem wpPi_quoR(t:TypeId)(x y:Operand)(yt:TypeId)(m n d:Int)(hw:Region.wanted o (yielded ops a.tmps)=true)(ho:o.op=.binOp .quo t x y yt)(hx:a.eval x=.int .i64 m)(hy:a.eval y=.int .i64 n)
 (hd:m.tdiv n=d)(h2:n≠0)(h3:-9223372036854775808<=d)(h4:d<=9223372036854775807)(h:zF P ops Q S r (a.put o.dst (.int .i64 d)) w):zF P ops Q S ((o,3)::r) a w:=by
 subst hd;exact wpPi_quo t x y yt m n hw ho hx hy h2 h3 h4 h
theorem eC:(prog.info? 24).bind (·.zero)=some (.agg (qA (List.replicate 32 0))):=by kernel_rfl
def lenV:Value->Nat
 | .slice _ n _=>n
 |_=>0
def padM(n:Nat):Nat:=(120-n%64)%64
theorem Bts.slice{base:Nat}{w:iN}{v:Value}{xs:iK}(h:Bts base w v xs):∃ad cap,v=.slice ad xs.length cap:=by
 rcases h.2 with⟨rfl,h0⟩|⟨g,cap,cur,rfl,_⟩
 ·exact⟨_,_,by rw[h0]⟩
 ·exact⟨_,_,rfl⟩
theorem Bts.len{base:Nat}(h:Bts base w v xs):lenV v=xs.length:=by
 obtain⟨ad,cap,rfl⟩:=h.slice;rfl
def sB(l:iK)(j:Nat):iK:=l++[128]++List.replicate j 0
theorem cQ(l:iK)(j:Nat):(sB l j).length=l.length+1+j:=by simp[sB];omega
theorem padJ_succ(l:iK)(j:Nat):sB l j++[0]=sB l (j+1):=by simp[sB,List.replicate_succ']
def PadRel(w0:iN)(l:iK)(v:Value)(w:iN):Prop:=∃j,j<=rJ l.length/\Bts w0.heap.size w v (sB l j)/\Mod qJ w0 w
def LenRel(w0:iN)(X:iK)(n:Nat)(v i:Value)(w:iN):Prop:=∃k:Nat,k<=8/\i=.int .i64 k/\Bts w0.heap.size w v (X++(jY n).take k)/\Mod qJ w0 w
theorem gL(n k:Nat)(h:k<8):(jY n).take (k+1)=(jY n).take k++[UInt8.ofNat (n*8/2^(56-8*k))]:=by
 rw[List.take_add_one]
 congr 1
 simp[jY,h]
def BlkRel(w0:iN)(b4:Nat)(s:W8)(Y:iK)(v:Value)(w:iN):Prop:=∃k,64*k<=Y.length/\w.heap[b4]?=some (.cells (qI (yB k s Y).list) 328 (0,0))/\
 Sl false w (fun g=>w0.heap.size<=g) 1 yA v (Y.drop (64*k))/\Mod (fun q=>q=b4) w0 w
theorem words_row(c:W8)(j:Nat)(h:j<8):(qI c.list)[0+j]?=some (qX (c.list.getD j 0)):=by
 match j,h with
 |0,_|1,_|2,_|3,_|4,_|5,_|6,_|7,_=>rfl
theorem words_put(c d:W8):zE (qI c.list) 0 (qI d.list)=qI d.list:=rfl
def pD(c:W8)(i:Nat):iL:=qA ((iA c).take i++List.replicate (32-i) 0)
theorem outL_len(c:W8):(iA c).length=32:=by simp[iA]
theorem eW(c:W8)(i:Nat)(h:i<=32):(pD c i).size=32:=by simp[pD,qD,outL_len];omega
theorem outRow_step(c:W8)(i:Nat)(h:i<32):(pD c i).setIfInBounds i (qW (tE c i))=pD c (i+1):=by
 have hl:=outL_len c;have hg:(iA c)[i]?=some (tE c i):=by simp[iA,h]
 apply Array.ext_getElem?;intro k
 rw[Array.getElem?_setIfInBounds,eW c i (by omega)];simp only[pD,qA,List.getElem?_toArray,List.getElem?_map]
 by_cases e:i=k
 ·subst e
  rw[if_pos rfl,if_pos h,List.getElem?_append_left (by rw[List.length_take];omega),List.getElem?_take_of_lt (by omega),hg];rfl
 ·rw[if_neg e]
  congr 1
  rcases Nat.lt_or_ge k i with h1|h1
  ·rw[List.getElem?_append_left (by rw[List.length_take];omega),List.getElem?_append_left (by rw[List.length_take];omega),List.getElem?_take_of_lt h1,List.getElem?_take_of_lt (by omega)]
  ·rw[List.getElem?_append_right (by rw[List.length_take];omega),List.getElem?_append_right (by rw[List.length_take];omega),List.length_take,List.length_take,List.getElem?_replicate,List.getElem?_replicate]
   by_cases h2:k<32
   ·rw[if_pos (by omega),if_pos (by omega)]
   ·rw[if_neg (by omega),if_neg (by omega)]
def OutRel(w0:iN)(b2 b4:Nat)(c:W8)(i:Value)(w:iN):Prop:=∃n:Nat,n<=32/\i=.int .i64 n/\w.heap[b2]?=some (.cells (pD c n) 24 (0,0))/\w.heap[b4]?=some (.cells (qI c.list) 328 (0,0))/\Mod (fun q=>q=b2) w0 w
theorem yZ{fn:Func}{p u:Tmp}{ty:TypeId}(h:fn.results=#[.cell p ty,.tmp u])(tmps:iL)(w:iN)(g:Nat)(t:TypeId)(cs:iL)(fr:Nat×Nat)(d:TypeDesc)
 (hp:tmps.getD p undef=iO g)(hg:w.heap[g]?=some (.cells cs t fr))
 (hu:P.underlying ty=some d)(hd:(match d with| .struct _| .array _ _=>true|_=>false)=true)(hi:(P.info? ty).map (·.size)=some cs.size):
 (results fn tmps).run P w=.ok (.tuple #[.agg cs,tmps.getD u undef]) w:=by
 have hp':tmps[p]?.getD undef=iO g:=by simpa using hp
 simp[results,h,hp',asAddr,run_loadVar_row w g t ty cs fr d hg hu hd hi]
def SumR(w:iN)(r:iK):iJ:=fun e w'=>e=.returned (.tuple #[.agg (qA r),.int .i64 0])/\Mod qJ w w'
theorem shaHSum_any{own:Bool}{rest:Value}{s:W8}{bh:Nat}(hb:Sl own w G 1 yA rest l)(hl:l.length<64)(hn:n<=140737488355328)(hnl:n%64=l.length)
 (hrow:w.heap[bh]?=some (.cells (kO s rest n) 331 (0,0))):
 Calls prog 184 #[iO bh] w (SumR w (iA (yB ((sB l (rJ n)++jY n).length/64) s (sB l (rJ n)++jY n)))):=by
 have hbS:=O hb;clear hb;go_enter func184,ntmps184;go_upto_region 0 with(fail);refine qL [1,3] ?_;simp only[qB];refine qK (zB eC (fun w1 hB1 hm1 hs1=>?_))
 simp only[qB];replace hrow:=hm1.obj id hrow;have hW1:=hB1;have hc10:w1.cell? ⟨bh,10,none⟩=some (.bool true):=by rw[cell_of_row _ _ _ _ _ _ hrow];rfl
 go_upto_region 3 with(go_at_call 226;refine(shaNone_at bh _ hc10).mono ?_;rintro _ w3 ⟨rfl,hw⟩;obtain rfl:=hw.symm);refine qL [3,3,3,1,1,1] ?_;simp only[qB]
 refine qY 328 (words_at hrow (fun k hk=>hashRow_at _ _ _ k hk)) 8 (by rw[qF];rfl) ?_;try simp only[qC]
 refine qK (zB wordsZ (fun w2 hB2 hm2 hs2=>?_));try simp only[qC]
 refine qK (qT 328 (qI s.list) (xV _) 8 (by rw[qF];rfl) hB2 (fun w3 hB3 hm3=>?_) (hoff:=by rw[qF,qF];simp[W8.list]))
 simp only[qB];have hs3:=hm3.size;have hM13:Mod qJ w1 w3:=hm2.transB hm3 (Nat.le_refl _);have hM3:Mod qJ w w3:=hm1.trans0 hM13;replace hB1:=hM13.obj id hB1
 replace hrow:=hM13.obj id hrow;clear hm2 hm3 hB2 hc10;go_upto_region 4 with(fail);refine qL [3,3,3,1,1,1,1,3] ?_;simp only[qB]
 refine qG (v:=rest) (b:=bh) (off:=8) 53 (by rw[cell_of_row _ _ _ _ _ _ hrow];rfl) ?_;try simp only[qC]
 refine qK (xE func93 (bA (hbS.out.keep0 hM3) (by omega)) ?_);rintro e w4 ⟨v4,rfl,ho4,hm4⟩;refine⟨_,rfl,?_⟩;try simp only[qC]
 refine qK (kK 53 (qW 128) (.int .u8 0) 1 (by rfl) (fun w5 hB5 hm5 hs5=>?_));replace hB5:w5.heap[w4.heap.size]?=some (.cells #[qW 128] 5 (0,0)):=hB5
 try simp only[qC]
 refine kS rfl ?_;have hs4:=hm4.size
 refine kX _ _ (by rfl) w3.heap.size _ l (by rfl) (ho4.keep hm5 (fun _ _=>id)) (.slice (some ⟨w4.heap.size,0,none⟩) 1 1) [128] (by rfl) (uO (rT hB5)) (by simp;omega) (by omega) (fun v6 w6 ho6 hm6=>?_)
 simp only[qB];have hM6:Mod qJ w3 w6:=(hm4.trans0 hm5).trans hm6 (fun k hk e=>by have:=(ho4.lt e).1;omega);have hpN:rJ n=rJ l.length:=by unfold rJ;omega
 rw[hpN];replace hs3:w3.heap.size<=w6.heap.size:=hM6.size;clear hM13 hm4 hm5 hm6 ho4 hB5 hs5 hs2 hs1 hm1;go_wp2
 go_loopw [5] (PadRel w3 l) (fun v _=>padM (lenV v))
 case atStart=>exact⟨0,Nat.zero_le _,by simpa[sB]using ho6,hM6⟩
 case round=>
  rename iN=>wr
  clear ho6 hM6 hs3;obtain⟨j,hj,hob,hM⟩:=hrel;have hoH:=O hob;have hjl:=cQ l j;have hpad:rJ l.length<64:=by unfold rJ;omega
  have hPS:=O (padJ_succ l j);obtain⟨ad,cap,rfl⟩:=hob.slice;clear hob;have hwr:=hM.size;go_upto_region 5 with(fail)
  by_cases h56:(l.length+1+j)%64=56
  ·skip
   refine qL [3,3,3,3] ?_;simp only[qB];refine xF ?_;simp only[qC]
   refine tO _ _ _ _ ((sB l j).length:Int) 64 56 rfl rfl rfl rfl (by omega) (by omega) (by omega) ?_;simp only[qC]
   refine qN _ _ _ _ _ _ _ _ rfl rfl rfl rfl rfl false (by rfl) ?_;simp only[qB];have hj2:j=rJ l.length:=by unfold rJ at hj |-;omega
   subst hj2;clear hPS h56 hj;generalize hX:sB l (rJ l.length)=X at hoH hjl |-;have HX:=O hX;go_wp2
   go_loopw [5,29] (LenRel w3 X n) (fun _ i _=>8-(intOf i).toNat)
   case atStart=>exact⟨0,by omega,rfl,by simpa using hoH.out,hM⟩
   case round=>
    rename iN=>wq
    clear hoH hM hwr;obtain⟨k,hk,rfl,hob,hM⟩:=hrel;obtain⟨Y,hY⟩:∃Y,X++(jY n).take k=Y:=⟨_,rfl⟩;rw[hY]at hob
    have hYl:Y.length=X.length+k:=by rw[<-hY,List.length_append,List.length_take,rV];omega
    have hoH:=O hob;obtain⟨ad2,cap2,rfl⟩:=hob.slice;clear hob;have hwq:=hM.size;have hrowq:=hM.obj id hrow
    by_cases hlt:k<8
    ·have hz:(k:Int)<8:=by omega
     have hstep:Y++[UInt8.ofNat (n*8/2^(56-8*k))]=X++(jY n).take (k+1):=by rw[gL n k hlt,<-hY,List.append_assoc]
     have hcv:IntKind.u64.wrap (n:Int)=(n:Int):=by simp[IntKind.wrap,IntKind.bits,IntKind.signed];omega
     have HSTEP:=O hstep;have HCV:=O hcv;have HYY:=O hY;clear hstep hcv hY;obtain⟨y,hy⟩:∃y,UInt8.ofNat (n*8/2^(56-8*k))=y:=⟨_,rfl⟩
     have HY:=O hy;clear hy;go_upto_region 10 with(fail);refine qL [3,3,3,3,1,3,3,3,3,3,3,3,1,1,3] ?_;simp only[qB]
     refine qG (v:=.int .i64 (n:Int)) (b:=bh) (off:=9) 3 (by rw[cell_of_row _ _ _ _ _ _ hrowq];rfl) ?_;try simp only[qC]
     refine qM (v:=.int .u64 (n:Int)) rfl (fun w'=>aS 3 300 _ _ rfl rfl (by kernel_rfl) underlying300 _ HCV.out) ?_;simp only[qC]
     refine qM (v:=.int .u64 ((n*8:Nat):Int)) rfl (fun w'=>exec_mul64 _ _ _ _ n 8 (n*8) rfl rfl rfl rfl (by omega)) ?_;simp only[qB]
     refine yT _ _ _ _ 8 (k:Int) ((8*k:Nat):Int) rfl rfl rfl rfl (by omega) (by omega) (by omega) ?_;simp only[qC];refine vZ ((56-8*k:Nat):Int) ?_
     simp only[qC]
     refine qM (v:=.int .u64 ((n*8/2^(56-8*k):Nat):Int)) rfl (fun w'=>exec_shr64 _ _ _ _ (n*8) .i64 (56-8*k) rfl rfl rfl (by omega) (by omega)) ?_
     simp only[qC];refine qM (v:=qW y) rfl (fun w'=>by rw[<-HY.out];exact dD _ _ _ _ rfl rfl (by kernel_rfl) underlying5) ?_;simp only[qC]
     refine qK (kK 53 (qW y) (.int .u8 0) 1 (by rfl) (fun w7 hB7 hm7 hs7=>?_));replace hB7:w7.heap[wq.heap.size]?=some (.cells #[qW y] 5 (0,0)):=hB7
     try simp only[qC]
     refine qK (kX _ _ (by rfl) w3.heap.size _ Y (by rfl) (hoH.out.keep hm7 (fun _ _=>id)) (.slice (some ⟨wq.heap.size,0,none⟩) 1 1) [y] (by rfl) (uO (rT hB7)) (by simp;omega) (by omega) (fun v8 w8 ho8 hm8=>?_))
     rw[<-HY.out,HSTEP.out]at ho8;have hM8:Mod qJ w3 w8:=(hM.trans0 hm7).trans hm8 (fun k hk e=>by have:=(hoH.out.lt e).1;omega);simp only[qB]
     clear hm8 hm7 hB7 hs7 hrowq;go_wp2
     go_roundw
     case rel=>exact⟨k+1,by omega,by go_num,ho8,hM8⟩
     case measure=>simp[intOf];omega
    ·have hz:¬(k:Int)<8:=by omega
     obtain rfl:k=8:=by omega
     have hYX:X++jY n=Y:=by rw[<-hY,List.take_of_length_le (by rw[rV];omega)]
     have hY64:Y.length%64=0:=by unfold rJ at hjl hpad;omega
     have HYX:=O hYX;clear hYX
     have hsl:Sl false wq (fun g=>w3.heap.size<=g) 1 yA (.slice ad2 Y.length cap2) Y:=((hoH.out.sl).mono (G':=fun g=>w3.heap.size<=g) (fun k hk=>hk.1) (fun _ _ h=>h)).weak
     have hrow4:=hM.obj id hB3;have hMB:Mod (fun q=>q=w1.heap.size) w3 wq:=hM.mono (fun _ _ h=>h.elim)
     have hb1:w.heap.size<w1.heap.size:=by
      rcases Nat.lt_or_ge w.heap.size w1.heap.size with h|h
      ·exact h
      ·exfalso;rw[Array.getElem?_eq_none (by omega)]at hW1;cases hW1
     have hb3:w1.heap.size<w3.heap.size:=by
      rcases Nat.lt_or_ge w1.heap.size w3.heap.size with h|h
      ·exact h
      ·rw[Array.getElem?_eq_none h]at hB3;cases hB3
     clear hoH hM hwq hrowq hY hX hjl hpad hz hk;go_wp2
     go_loopw [5] (BlkRel w3 w1.heap.size s Y) (fun v _=>lenV v)
     case atStart=>exact⟨0,by omega,hrow4,hsl,hMB⟩
     case round=>
      rename iN=>wv
      clear hrow4 hsl hMB;obtain⟨k,hk,hrow4,hsl,hM⟩:=hrel;obtain⟨r,hr⟩:∃r,Y.drop (64*k)=r:=⟨_,rfl⟩
      have hrl:r.length=Y.length-64*k:=by rw[<-hr,List.length_drop]
      rw[hr]at hsl;have hslH:=O hsl;obtain⟨ad3,cap3,rfl,hle3,hmx3,-⟩:=hsl
      by_cases hz:(0:Int)<(r.length:Int)
      ·have hlt:64<=r.length:=by omega
       go_upto_region 14 with(fail);refine qL [3,3,1] ?_;simp only[qB];refine vH 53 5 _ _ _ _ _ 64 1 rfl rfl rfl rfl underlying53 (by kernel_rfl) (by omega) ?_
       simp only[qC]
       refine qK (xE func227 (block_any (hslH.out.fst 64 hlt) (by rw[List.length_take];omega) w1.heap.size 0 _ _ (yB k s Y) hrow4 (by rw[qF];simp[W8.list]) (fun j hj=>words_row _ j hj)) ?_)
       rintro e w5 ⟨rfl,hB5,hm5⟩;rw[words_put]at hB5;refine⟨_,rfl,?_⟩;simp only[qB];go_upto_region 13 with(fail);refine qL [3,3,3] ?_;simp only[qB]
       refine kY 53 5 _ _ _ _ _ 64 1 rfl rfl rfl rfl underlying53 (by kernel_rfl) hlt ?_;simp only[qB]
       have hM6:Mod (fun q=>q=w1.heap.size) w3 w5:=hM.trans hm5 (fun _ _ h=>h)
       have hsl6:=(hslH.out.cut 64 hlt).keepB hm5 (fun k hk=>by have hk':w3.heap.size<=k:=hk;omega)
       have hd:r.drop 64=Y.drop (64*(k+1)):=by rw[<-hr,List.drop_drop];congr 1
       have hblk:sM (yB k s Y) (r.take 64)=yB (k+1) s Y:=by rw[sY,hr];rfl
       rw[hblk]at hB5;rw[hd]at hsl6;have HW6:Hid (BlkRel w3 w1.heap.size s Y (sliced ad3 64 r.length cap3 1) w5):=⟨k+1,by omega,hB5,hsl6,hM6⟩
       have HME:Hid (lenV (sliced ad3 64 r.length cap3 1)<r.length):=by
        show r.length-64<r.length
        omega
       clear hB5 hsl6 hM6 hm5 hblk hd hrow4;go_wp2
       go_roundw
       case rel=>exact HW6.out
       case measure=>exact HME.out
      ·have hkk:Y.length/64=k:=by omega
       obtain⟨c,hc⟩:∃c,yB k s Y=c:=⟨_,rfl⟩;rw[hc]at hrow4
       have HCC:Hid (yB (Y.length/64) s Y=c):=by
        show yB (Y.length/64) s Y=c
        rw[hkk];exact hc
       have hrow2:=hM.objB (by omega) hB1;clear hc hkk hslH hr hrl hle3 hmx3 hk hY64
       have hr2:wv.heap[w.heap.size]?=some (.cells (pD c 0) 24 (0,0)):=by
        have e:pD c 0=qA (List.replicate 32 0):=by simp[pD]
        rw[e];exact hrow2
       have hMw:Mod qJ w wv:=hM3.transB hM (by omega);clear hrow2;go_wp2
       go_loopw [55] (OutRel wv w.heap.size w1.heap.size c) (fun i _=>32-(intOf i).toNat)
       case atStart=>exact⟨0,by omega,rfl,hr2,hrow4,Mod.refl _ _⟩
       case round=>
        rename iN=>wu
        clear hr2 hrow4;obtain⟨i,hi,rfl,hr2,hrow4,hMu⟩:=hrel;have hosz:=eW c i hi
        by_cases hlt:i<32
        ·have hzi:(i:Int)<32:=by omega
         have HST:=O (outRow_step c i hlt);have hq4:i/4<8:=by omega
         have hw4:=yF hrow4 (i/4) hq4;obtain⟨x,hx⟩:∃x,c.list.getD (i/4) 0=x:=⟨_,rfl⟩;rw[hx]at hw4
         have hy:UInt8.ofNat (shrU x (24-8*(i%4))).toNat=tE c i:=by unfold tE;rw[hx]
         have HY:=O hy;clear hy hx;generalize tE c i=y at*;go_upto_region 18 with(fail);refine qL [3,3,3,3,1,3,3,3,3,3,3,3,1] ?_;simp only[qB]
         refine wpPi_quoR _ _ _ _ (i:Int) 4 ((i/4:Nat):Int) rfl rfl rfl rfl (by rw[Int.tdiv_eq_ediv_of_nonneg (by omega)];omega) (by omega) (by omega) (by omega) ?_
         simp only[qC];refine zO 328 1 hq4 ?_;simp only[qC];refine qG (v:=qX x) (b:=w1.heap.size) (off:=i/4*1) 301 (by rw[Nat.mul_one];exact hw4) ?_
         simp only[qB];refine tO _ _ _ _ (i:Int) 4 ((i%4:Nat):Int) rfl rfl rfl rfl (by omega) (by omega) (by omega) ?_;simp only[qC]
         refine yT _ _ _ _ 8 ((i%4:Nat):Int) ((8*(i%4):Nat):Int) rfl rfl rfl rfl (by omega) (by omega) (by omega) ?_;simp only[qC]
         refine vZ ((24-8*(i%4):Nat):Int) ?_;simp only[qC];refine uY _ _ _ _ _ .i64 (24-8*(i%4)) rfl rfl rfl rfl (by omega) ?_;simp only[qC]
         refine qM (v:=qW y) rfl (fun w'=>by rw[<-HY.out];exact bM _ _ _ _ rfl rfl (by kernel_rfl) underlying5) ?_;simp only[qC]
         refine zO 24 1 hlt ?_;simp only[qC];refine qK (zR 5 (i*1) (qW y) hr2 (fun w9 hB9 hm9=>?_) (hoff:=by rw[hosz];omega))
         rw[Nat.mul_one,HST.out]at hB9;have hrow9:=hm9.objB (by omega) hrow4;have hM9:Mod (fun q=>q=w.heap.size) wv w9:=hMu.trans hm9 (fun _ _ h=>h)
         simp only[qB];clear hm9 hr2 hrow4 hw4;go_wp2
         go_roundw
         case rel=>exact⟨i+1,by omega,by go_num,hB9,hrow9,hM9⟩
         case measure=>simp[intOf];omega
        ·have hzi:¬(i:Int)<32:=by omega
         obtain rfl:i=32:=by omega
         have hout:pD c 32=qA (iA c):=by simp[pD,List.take_of_length_le (Nat.le_of_eq (outL_len c))]
         rw[hout]at hr2 hosz;go_upto_region 20 with(fail);refine qL [1,1,3] ?_;simp only[qB];refine qY 24 (CellsAt.whole hr2) 32 hosz ?_;try simp only[qC]
         refine qK (qT 24 (qA (iA c)) (qQ _) 32 hosz hr2 (fun w9 hB9 hm9=>?_) (hoff:=by rfl));simp only[qB]
         have hM9:Mod qJ w w9:=(hMw.transB hMu (Nat.le_refl _)).transB hm9 (Nat.le_refl _);clear hm9 hr2 hrow4 hMu;go_wp2
         refine bodyPost_ret (yZ rfl _ _ w.heap.size _ _ _ _ (by rfl) hB9 underlying24 rfl (by rw[hosz];kernel_rfl)) rfl ?_;refine⟨?_,hM9⟩
         rw[HX.out,<-List.length_append,HYX.out,HCC.out]
         rfl
  ·obtain⟨q,hq⟩:∃q:Nat,(sB l j).length%64=q:=⟨_,rfl⟩
   have hq56:q≠56:=by rw[<-hq,hjl];exact h56
   refine qL [3,3,3,3] ?_;simp only[qB];refine xF ?_;simp only[qC]
   refine tO _ _ _ _ ((sB l j).length:Int) 64 (q:Int) rfl rfl rfl rfl (by omega) (by omega) (by omega) ?_;simp only[qC]
   refine qN _ _ _ _ _ _ _ _ rfl rfl rfl rfl rfl true (by simp[vW];omega) ?_;simp only[qB]
   have hjlt:j<rJ l.length:=by
    rcases Nat.lt_or_ge j (rJ l.length)with h|h
    ·exact h
    ·exfalso;unfold rJ at hj h hpad;omega
   go_upto_region 6 with(fail);refine qL [3,1,1,3] ?_;simp only[qB];refine qK (kK 53 (qW 0) (.int .u8 0) 1 (by rfl) (fun w7 hB7 hm7 hs7=>?_))
   replace hB7:w7.heap[wr.heap.size]?=some (.cells #[qW 0] 5 (0,0)):=hB7;try simp only[qC]
   refine qK (kX _ _ (by rfl) w3.heap.size _ (sB l j) (by rfl) (hoH.out.keep hm7 (fun _ _=>id)) (.slice (some ⟨wr.heap.size,0,none⟩) 1 1) [0] (by rfl) (uO (rT hB7)) (by simp;omega) (by omega) (fun v8 w8 ho8 hm8=>?_))
   rw[hPS.out]at ho8;have hM8:Mod qJ w3 w8:=(hM.trans0 hm7).trans hm8 (fun k hk e=>by have:=(hoH.out.lt e).1;omega);simp only[qB]
   have hME:Hid (padM (lenV v8)<padM (sB l j).length):=by
    show _<_
    rw[ho8.len,cQ,cQ];unfold padM;omega
   have HR:Hid (PadRel w3 l v8 w8):=⟨j+1,hjlt,ho8,hM8⟩;clear ho8 hM8 hm8 hm7 hB7;go_wp2
   go_roundw
   case rel=>exact HR.out
   case measure=>exact hME.out
theorem Sl.bound{own:Bool}(h:Sl own w G 1 yA v l):Sl own w (fun k=>k<w.heap.size) 1 yA v l:=by
 obtain⟨ad,cap,e,h1,h2,h3⟩:=h;refine⟨ad,cap,e,h1,h2,fun hne=>?_⟩;obtain⟨b,off,ha,hG,ho,hc⟩:=h3 hne;refine⟨b,off,ha,?_,ho,hc⟩
 cases l with
 |nil=>exact absurd rfl hne
 |cons x l=>
  obtain⟨cs,_,rfl,hcs⟩:=hc 0 (by simp);exact block_lt_of_cell (CellsAt.one.1 hcs)
theorem sha_split(m:iK):iA (yB ((sB (m.drop (64*(m.length/64))) (rJ m.length)++jY m.length).length/64) (yB (m.length/64) shaBegin m) (sB (m.drop (64*(m.length/64))) (rJ m.length)++jY m.length))=bC m:=by
 have hX:sB (m.drop (64*(m.length/64))) (rJ m.length)++jY m.length=(padL m).drop (64*(m.length/64)):=by
  unfold sB padL;rw[List.append_assoc,List.append_assoc,List.append_assoc,List.append_assoc,List.drop_append_of_le_length (by omega)]
 rw[hX,List.length_drop];have hl:=padL_len m;have hk:(padL m).length/64=m.length/64+((padL m).length-64*(m.length/64))/64:=by omega
 unfold bC;rw[hk,sY]
 congr 2
 unfold padL;rw[List.append_assoc,List.append_assoc,blocksL_app _ _ _ _ (by omega)]
theorem gW{own:Bool}{m:iK}(hb:Sl own w G 1 yA v m)(hl:m.length<=140737488355328):
 Calls prog 96 #[v] w (vO (.agg (qA (bC m))) w):=by
 have hbS:=O hb.bound;have HSP:=O (sha_split m);have hxl:(qA (bC m)).size=32:=by rw[qD];exact rP m
 obtain⟨x,hx⟩:∃x,bC m=x:=⟨_,rfl⟩;rw[hx]at hxl HSP |-;clear hb hx;go_enter func96,ntmps96;go_upto_region 0 with(fail);refine qL [1] ?_;simp only[qB]
 refine qK (zB eC (fun w1 hB1 hm1 hs1=>?_));simp only[qB];go_upto_region 1 with(fail);refine qL [1,3] ?_;simp only[qB];refine qK (xE func182 (shaNew_any _) ?_)
 rintro e w2 ⟨bh,rfl,hb1,hb2,hrow,hm2⟩;refine⟨_,rfl,?_⟩;simp only[qB];have hM2:=hm1.trans0 hm2;go_upto_region 2 with(fail);refine qL [3,3,1] ?_;simp only[qB]
 refine qK (xE func183 (shaWrite_any (hbS.out.keep0 hM2) hl bh (fun k hk=>by have:=hm1.size;have hk':k<w.heap.size:=hk;omega) hrow) ?_)
 rintro e w3 ⟨rfl,rest,hrow3,hsl3,hm3⟩;refine⟨_,rfl,?_⟩;simp only[qB];have hM3:Mod qJ w1 w3:=hm2.transB hm3 hb1;replace hB1:=hM3.obj id hB1
 replace hM3:=hm1.trans0 hM3;clear hM2 hm1 hm2 hm3 hrow;have hs3:=hM3.size;go_upto_region 3 with(fail);refine qL [3,1,3,3,3,1,1,3] ?_;simp only[qB]
 refine qK (xE func184 (shaHSum_any hsl3 (by rw[List.length_drop];omega) hl (by rw[List.length_drop];omega) hrow3) ?_);rintro e w4 ⟨rfl,hm4⟩;rw[HSP.out];refine⟨_,rfl,?_⟩
 simp only[qB];refine qZ (fun _=>by go_simp;try with_reducible rfl) ?_;simp only[qC];refine qZ (fun _=>by go_simp;try with_reducible rfl) ?_;simp only[qC]
 refine qK (zB eC (fun w5 hB5 hm5 hs5=>?_));try simp only[qC]
 refine qK (qT 24 (qA x) (qQ _) 32 hxl hB5 (fun w6 hB6 hm6=>?_) (hoff:=by rw[hxl,qD];rfl));simp only[qB]
 have hM46:Mod qJ w4 w6:=hm5.transB hm6 (Nat.le_refl _);have hM36:=hm4.trans0 hM46;have hB2:=hM36.obj id hB1;have hM6:=hM3.trans0 hM36;clear hB1 hM46 hM36 hm5 hm6 hm4 hB5
 go_upto_region 4 with(fail);refine qL [1,1] ?_;simp only[qB];refine qY 24 (CellsAt.whole hB6) 32 hxl ?_;try simp only[qC]
 refine qK (qT 24 (qA x) (qQ _) 32 hxl hB2 (fun w7 hB7 hm7=>?_) (hoff:=by rw[hxl,qD];rfl));simp only[qB]
 have hM7:=hM6.transB hm7 (Nat.le_refl _);clear hm7 hB2;go_wp2
 refine bodyPost_ret (results_cell_row rfl _ _ w.heap.size _ _ _ _ (by rfl) hB7 underlying24 rfl (by rw[hxl];kernel_rfl)) rfl ?_;exact⟨rfl,hM7⟩
theorem w8Z:(prog.info? 302).bind (·.zero)=some (.agg (qI (List.replicate 8 0))):=by kernel_rfl
theorem kP(x:UInt32)(n:Nat)(h:0<n/\n<32)(w:iN):Calls prog 237 #[qX x,.int .i64 (n:Int)] w (vO (qX (gX x n)) w):=by
 have hc:gX x n=shrU x n ||| shlU x (32-n):=by unfold gX;exact UInt32.or_comm _ _
 rw[hc];clear hc;go_enter func237,ntmps237;go_upto_region 1 with(fail);refine zZ [3,3,3,3,3,3,3,3,3] [] (fun _=>True) trivial ?_;simp only[qB]
 refine uY _ _ _ _ _ .i64 n rfl rfl rfl rfl (by omega) ?_;simp only[qB];refine vZ ((32-n:Nat):Int) ?_;simp only[qC]
 refine uZ _ _ _ _ _ .i64 (32-n) rfl rfl rfl rfl (by omega) ?_;simp only[qC];refine pY _ _ _ _ _ _ rfl rfl rfl rfl ?_;simp only[qB];go_wp2;go_ret
 exact⟨rfl,(Mod.refl _ _).drew⟩
theorem refKeys_any(w:iN):Calls prog 238 #[] w (vO (.agg (qI shaKeys)) w):=by
 go_enter func238,ntmps238;go_upto_region 0 with(fail);refine qL [1] ?_;simp only[qB];refine qK (zB w64Z (fun w1 hB1 hm1 hs1=>?_));simp only[qB]
 go_upto_region 1 with(fail);refine qL [1,1] ?_;simp only[qB];refine cF rfl (zH 340 _ _ (qI shaKeys) (by rfl) (by rfl) (by kernel_rfl)) trivial ?_
 try simp only[qC]
 refine qK (xU 340 0 (qI shaKeys) (xV _) 64 (by kernel_rfl) hB1 (fun w2 hB2 hm2=>?_) (hoff:=by rw[qF,qF];simp[shaKeys]))
 simp only[qB];rw[yQ (by kernel_rfl)]at hB2;go_wp2
 refine bodyPost_ret (results_cell_row rfl _ _ w.heap.size _ _ _ _ (by rfl) hB2 underlying340 rfl (by kernel_rfl)) rfl ?_;exact⟨rfl,hm1.transB hm2 (Nat.le_refl _)⟩
end
end Go.Proofs.YtjeonjoifjbohaaGreat
