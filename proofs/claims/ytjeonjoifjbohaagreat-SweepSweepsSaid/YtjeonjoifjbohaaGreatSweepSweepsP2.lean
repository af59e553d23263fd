/- What the statement SweepSweeps needs, part 2. -/
import Derived.Lib.Bytealg
import Derived.Lib.UnsafeStr
import Derived.Sort.Grow
import Derived.RangeFuncGives
import Derived.RangeFuncLeaves
import Derived.RangeFuncCalls
import Derived.RangeFuncIn
import Derived.Maps.RangeRun
import Derived.RangeFuncNested
import Derived.Laws.BitsAllLaws
import Derived.Laws.Slices
import Derived.Lib.SliceRun
import Derived.RangeFuncBox
import Derived.RangeFuncBound
import Derived.Great.BuildSlice
import Derived.Shelf.SlSortCmp.InsertionK
import Derived.Shelf.SlIter.Sorted
import Derived.Shelf.SortM.Plain
import Derived.Shelf.SortM.SortNone
import Derived.Ground.GgzProg
import Derived.Ground.SlgmProg
import Derived.Shelf.SlSortCmp.WholeK
import Derived.Ground.SlsfProg
import Derived.Test.YtjeonjoifjbohaaGreatRows
import Derived.Shelf.SlSortCmp.NoneTotal
import Derived.Test.YtjeonjoifjbohaaGreatSweepSweepsP1
set_option linter.unusedVariables false
set_option linter.unusedSimpArgs false
set_option linter.unnecessarySimpa false
set_option linter.unusedSectionVars false
set_option maxRecDepth 10000
set_option maxHeartbeats 8000000
namespace Go.Proofs.YtjeonjoifjbohaaGreat
section
open Go.RowKit Go.Proofs.Tryz Go.Lib
def Grown(w w':World):Prop:=∃q os,w'=Sort.grow (w.drewN q) os
theorem Grown.refl(w:World):Grown w w:=⟨0,#[],by simp[Sort.grow,World.drewN]⟩
theorem Grown.trans{a b c:World}(h:Grown a b)(k:Grown b c):Grown a c:=by
 obtain⟨q,os,rfl⟩:=h;obtain⟨q',os',rfl⟩:=k;exact⟨q+q',os++os',by simp[Sort.grow,World.drewN,Array.append_assoc,Nat.add_assoc]⟩
theorem Grown.alloc{a b:World}(h:Grown a b)(o:Obj):Grown a (b.alloc o):=h.trans ⟨0,#[o],by rw[Sort.alloc_eq_grow];rfl⟩
theorem Grown.drew{a b:World}(h:Grown a b):Grown a b.drew:=h.trans ⟨1,#[],by simp only[Sort.grow,World.drewN,Array.append_empty];rfl⟩
theorem Grown.mod{w w':World}(h:Grown w w'):Mod NoB w w':=by
 obtain⟨q,os,rfl⟩:=h;refine⟨rfl,rfl,rfl,by simp[Sort.grow,World.drewN],fun k hk _=>?_⟩;simp only[Sort.grow,World.drewN];rw[Array.getElem?_append_left hk]
theorem mod_drew(w:World):Mod NoB w w.drew:=(Mod.refl _ _).drew
def RetG(v:Value)(w:World):Ending->World->Prop:=fun e w'=>e=.returned v/\Grown w w'
theorem wp_boxG{P:Program}{o:Oper}{a:Act}{w:World}{K:Act->World->Prop}{Q:Exit->Act->World->Prop}(elem:TypeId)(x:Operand)(v:Value)(ho:o.op=.box elem x)(hx:a.eval x=v)
 (h:∀w',w'.heap[w.heap.size]?=some (.cells v.cells elem (0,0))->Grown w w'->w.heap.size<w'.heap.size->K (a.put o.dst (.pointer (some ⟨w.heap.size,0,none⟩))) w'):o.wp P a w K Q:=by
 unfold Oper.wp execOp;simp only[ho,hx]
 have hr:(Instr.box elem v).run P w=.ok (.pointer (some ⟨w.heap.size,0,none⟩)) (w.alloc (.cells v.cells elem)):=by
  simp[Instr.box,newVar,newRow]
 simp only[Sem.run_bind,hr,Result.andThen_ok,Sem.run_pure];exact h _ (heap_alloc_new _ _) ((Grown.refl _).alloc _) (by simp)
theorem yF{α:Type}[DecidableEq α]:∀{l m:List α},l.Nodup->(∀x∈l,x∈m)->l.length<=m.length
 | [],_,_,_=>by simp
 |x::l,m,hn,hs=>by
  rw[List.nodup_cons]at hn;have hx:=hs x (by simp)
  have:=yF (m:=m.erase x) hn.2 fun y hy=>by
   have hne:y≠x:=by rintro rfl;exact hn.1 hy
   exact(List.mem_erase_of_ne hne).2 (hs y (by simp[hy]))
  have hl:=List.length_erase_of_mem hx;have hp:0<m.length:=List.length_pos_iff.2 (by rintro rfl;cases hx);simp only[List.length_cons];omega
def cmpI(a b:List UInt8):Int:=Lib.compareBytes a b
theorem cmpI_lt(a b:List UInt8):cmpI a b=-1\/cmpI a b=0\/cmpI a b=1:=by
 induction a generalizing b with
 |nil=>cases b<;>simp[cmpI,Lib.compareBytes]
 |cons x a ih=>
  cases b with
  |nil=>simp[cmpI,Lib.compareBytes]
  |cons y b=>
   simp only[cmpI,Lib.compareBytes]
   split
   ·simp
   ·split
    ·simp
    ·exact ih b
theorem cmpI_bytes(a b:List UInt8):cmpI a b=if Op.bytesLess a b then-1 else if a=b then 0 else 1:=by
 induction a generalizing b with
 |nil=>cases b<;>simp[cmpI,Lib.compareBytes,Op.bytesLess]
 |cons x a ih=>
  cases b with
  |nil=>simp[cmpI,Lib.compareBytes,Op.bytesLess]
  |cons y b=>
   have:=ih b;simp only[cmpI]at this;simp only[cmpI,Lib.compareBytes,Op.bytesLess,Bool.or_eq_true,decide_eq_true_eq,Bool.and_eq_true,beq_iff_eq,List.cons.injEq]
   rcases Nat.lt_trichotomy x.toNat y.toNat with h|h|h
   ·have h1:x<y:=h
    simp[h1]
   ·have h1:x=y:=UInt8.toNat_inj.1 h
    subst h1
    simp[this]
   ·have h1:y<x:=h
    have h2:¬x<y:=fun h3=>by have h3:x.toNat<y.toNat:=h3;omega
    have h3:¬x=y:=fun e=>by subst e;omega
    simp[h1,h2,h3]
theorem cmpI_neg(a b:List UInt8):cmpI a b<0↔a<b:=by
 induction a generalizing b with
 |nil=>cases b<;>simp[cmpI,Lib.compareBytes]
 |cons x a ih=>
  cases b with
  |nil=>simp[cmpI,Lib.compareBytes]
  |cons y b=>
   have:=ih b;simp only[cmpI]at this;simp only[cmpI,Lib.compareBytes,List.cons_lt_cons_iff]
   rcases Nat.lt_trichotomy x.toNat y.toNat with h|h|h
   ·have h1:x<y:=h
    simp[h1]
   ·have h1:x=y:=UInt8.toNat_inj.1 h
    subst h1;have h2:¬x<x:=fun h3=>by have h3:x.toNat<x.toNat:=h3;omega
    simp[this,h2]
   ·have h1:y<x:=h
    have h2:¬x<y:=fun h3=>by have h3:x.toNat<y.toNat:=h3;omega
    have h3:¬x=y:=fun e=>by subst e;omega
    simp[h1,h2,h3]
theorem cmpI_zero(a b:List UInt8):cmpI a b=0↔a=b:=by
 rw[cmpI_bytes]
 constructor
 ·intro h
  split at h
  ·cases h
  ·split at h
   ·assumption
   ·cases h
 ·rintro rfl
  have h:¬cmpI a a<0:=by rw[cmpI_neg];exact List.lt_irrefl a
  split
  ·rename_i hb
   rw[cmpI_bytes,if_pos hb]at h;omega
  ·simp
theorem isNaN_any(s:ByteArray)(w:World):Calls prog 208 #[.string s] w (RetE (.bool false) w):=by
 go_enter func208,ntmps208;go_wp2;go_ret;exact⟨by simp,rfl⟩
theorem toL(s:ByteArray):s.toList=s.data.toList:=ByteArray.toList_eq s
theorem cmpStr_any(a b:ByteArray)(w:World):Calls prog 148 #[.string a,.string b] w (RetE (.int .i64 (cmpI a.data.toList b.data.toList)) w):=by
 rw[cmpI_bytes];go_enter func148,ntmps148;go_wp2_with (go_at_call 208;refine(isNaN_any _ _).mono ?_;rintro _ w1 ⟨rfl,hw⟩;obtain rfl:=hw.symm)
 all_goals try go_wp2
 all_goals go_ret
 all_goals refine⟨?_,rfl⟩
 all_goals simp_all [toL]
def orI(x y:Int):Int:=if x≠0 then x else y
def OrRel(x y:Int)(w0:World)(i:Value)(w:World):Prop:=∃k:Nat,k<=2/\i=.int .i64 k/\(k≠0->x=0)/\(k=2->y=0)/\w=w0
theorem cmpOr_any(b:Nat)(x y:Int)(w:World)(hc:w.cell? ⟨b,0,none⟩=some (.int .i64 x))(hd:w.cell? ⟨b,1,none⟩=some (.int .i64 y)):
 Calls prog 147 #[.slice (some ⟨b,0,none⟩) 2 2] w (RetE (.int .i64 (orI x y)) w):=by
 go_enter func147,ntmps147;go_wp2
 go_loopw [5,8] (fun _ i wx=>OrRel x y w i wx) (fun _ i _=>2-(intOf i).toNat)
 case atStart=>exact⟨0,by omega,rfl,fun h=>absurd rfl h,fun h=>by omega,rfl⟩
 case round=>
  obtain⟨k,hk,rfl,h0,h2,rfl⟩:=hrel;have H0:=hid h0;have H2:=hid h2;clear h0 h2
  match k,hk with
  |0,_=>
   by_cases hx:x=0
   ·go_wp2
    go_roundw
    case rel=>exact⟨1,by omega,rfl,fun _=>hx,fun h=>by omega,rfl⟩
    case measure=>simp[intOf]
   ·go_wp2
    go_ret;exact⟨by simp[orI,hx],rfl⟩
  |1,_=>
   have h1:=H0.out (by omega)
   by_cases hy:y=0
   ·go_wp2
    go_roundw
    case rel=>exact⟨2,by omega,rfl,fun _=>h1,fun _=>hy,rfl⟩
    case measure=>simp[intOf]
   ·go_wp2
    go_ret;exact⟨by simp[orI,h1],rfl⟩
  |2,_=>
   go_wp2;go_ret;have h1:=H0.out (by omega);have h2:=H2.out trivial;exact⟨by simp[orI,h1,h2],rfl⟩
theorem run_loadBytesE{P:Program}{w:World}:∀(l:List UInt8)(a:Addr)(acc:ByteArray),(∀j x,l[j]?=some x->w.cell? (a.add j)=some (byteV x))->
 (Extern.Bytes.loadBytes a l.length acc).run P w=.ok ⟨acc.data++l.toArray⟩ w
 | [],a,acc,_=>by simp[Extern.Bytes.loadBytes]
 |x::l,a,acc,h=>by
  have h0:w.cell? a=some (byteV x):=by
   have:=h 0 x rfl
   simpa[Addr.add]using this
  have ih:=run_loadBytesE (P:=P) (w:=w) l (a.add 1) (acc.push x) (fun j y hy=>by
   have:=h (j+1) y (by simpa using hy)
   have e:(a.add 1).add j=a.add (j+1):=by
    unfold Addr.add
    by_cases hj:j=0
    ·subst hj;simp
    ·simp[hj];omega
   rw[e];exact this)
  have hx:((x.toNat:Int).toNat).toUInt8=x:=by simp
  simp only[byteV]at h0;simp only[List.length_cons,Extern.Bytes.loadBytes,Sem.run_bind,run_load,h0,Result.andThen,hx];rw[ih]
  congr 1
  apply ByteArray.ext
  simp[ByteArray.push]
theorem run_bytesOf_sl{P:Program}{w:World}{own:Bool}{G:Nat->Prop}{v:Value}{l:List UInt8}(h:Sl own w G 1 ByteC v l):(Extern.Bytes.bytesOf v).run P w=.ok ⟨l.toArray⟩ w:=by
 obtain⟨a,cap,rfl,hl,hc,h⟩:=h
 by_cases hne:l=[]
 ·subst hne
  cases a with
  |none=>rfl
  |some a=>simp[Extern.Bytes.bytesOf,loadBytes];rfl
 ·obtain⟨b,off,rfl,-,-,h⟩:=h hne
  have:=run_loadBytesE (P:=P) (w:=w) l ⟨b,off,none⟩ .empty (fun j x hj=>by
   obtain⟨hj',hx⟩:=List.getElem?_eq_some_iff.1 hj;obtain⟨cs,-,hR,hc⟩:=h j hj';rw[hR,hx]at hc;have:=CellsAt.one.1 hc;rw[Nat.mul_one]at this;unfold Addr.add
   split
   ·rename_i h0;subst h0;simpa using this
   ·exact this)
  simpa[Extern.Bytes.bytesOf]using this
theorem exec_extern{P:Program}{w:World}{o:Oper}{a:Act}(f:FuncId)(fn:Func)(e:Array Value->Sem Value)(args:List Operand)(ts:Array TypeId)(ho:o.op=.call { callee:=.value (.func f),args:=args.toArray,argTypes:=ts })(hf:P.funcs[f]?=some fn)(hname:(fn.name== "runtime.NumGoroutine")=false)
 (hb:fn.body.isNone=true)(hn:Extern.findNext fn=none)(he:Extern.find fn=some e)(vs:List Value)(hvs:args.map a.eval=vs)(v:Value)(hv:(e vs.toArray).run P w=.ok v w):(execOp a.eval o).run P w=.ok (.value v) w:=by
 subst hvs;unfold execOp;have hr:=run_callFunc_extern hf hname hb hn he (args.map a.eval).toArray w;rw[hv]at hr
 simp[ho,resolve,invoke,Act.eval,Deferred.ofValue,hr]
theorem bytealg_run{w:World}{u v:Value}{oa ob:Bool}{Ga Gb:Nat->Prop}{x y:List UInt8}(hx:Sl oa w Ga 1 ByteC u x)(hy:Sl ob w Gb 1 ByteC v y):
 (Extern.BytealgCompare.compare #[u,v]).run prog w=.ok (.int .i64 (cmpI x y)) w:=by
 show(do pure (goInt (Extern.BytealgCompare.cmp (<-Extern.Bytes.bytesOf u) (<-Extern.Bytes.bytesOf v))):Sem Value).run prog w=_
 simp only[Sem.run_bind,run_bytesOf_sl hx,run_bytesOf_sl hy,Result.andThen_ok,Sem.run_pure,Lib.cmp_eq]
 rfl
theorem bytesCompare_any{w:World}{u v:Value}{oa ob:Bool}{Ga Gb:Nat->Prop}{x y:List UInt8}(hx:Sl oa w Ga 1 ByteC u x)(hy:Sl ob w Gb 1 ByteC v y):
 Calls prog 94 #[u,v] w (RetE (.int .i64 (cmpI x y)) w):=by
 have hr:=bytealg_run hx hy;go_enter func94,ntmps94;go_upto_region 1 with(fail);refine wpR [3,3,1,3] ?_;simp only[stz]
 refine wpX rfl (exec_extern 181 _ Extern.BytealgCompare.compare [_,_] _ (by rfl) func181 (by kernel_rfl) (by kernel_rfl) (by kernel_rfl) (by kernel_rfl) [u,v] (by rfl) _ hr) trivial ?_
 simp only[stz];go_wp2;go_ret;exact⟨rfl,rfl⟩
theorem exec_sliceA{P:Program}{w:World}{o:Oper}{a:Act}(t e:TypeId)(x:Operand)(b off n:Nat)(ho:o.op=.slice t x none none none)(hx:a.eval x=.pointer (some ⟨b,off,none⟩))(ht:P.underlying t=some (.array n e))(he:(P.info? e).map (·.size)=some 1):
 (execOp a.eval o).run P w=.ok (.value (.slice (some ⟨b,off,none⟩) n n)) w:=by
 have h1:P.arrayLen t=n:=by simp[Program.arrayLen,ht]
 have h2:P.elem t=e:=by simp[Program.elem,ht]
 have h3:(sizeOf e).run P w=.ok 1 w:=by
  cases hq:P.info? e with
  |none=>simp[hq]at he
  |some j=>simp[hq]at he;simp[sizeOf,typeInfo,hq,he]
 have h:=run_sliceAt_array_all (P:=P) w t ⟨b,off,none⟩ (by rw[h1,h2];exact ht);rw[h2,h3,h1]at h;unfold execOp
 have hm:(match(none:Option Operand)with|some z=>some (a.eval z)|none=>none)=none:=rfl
 simp only[ho,hx,Option.map_none,Sem.run_bind,h,Result.andThen_ok,Sem.run_pure]
 simp[slicedAt,Addr.add]
theorem sl_idCells{w:World}{b off:Nat}{x:List UInt8}(h:CellsAt w b off (qA x))(hx:x.length=32):Sl false w (fun k=>k=b) 1 ByteC (.slice (some ⟨b,off,none⟩) 32 32) x:=by
 refine⟨some ⟨b,off,none⟩,32,by rw[hx],by omega,by unfold maxLen;omega,fun _=>⟨b,off,rfl,rfl,fun h=>(by cases h),fun i hi=>⟨#[byteV x[i]],rfl,rfl,?_⟩⟩⟩
 rw[Nat.mul_one,CellsAt.one];exact h.cell (by simp[qA,hi])
theorem shaCompare_any(x y:List UInt8)(hx:x.length=32)(hy:y.length=32)(w:World):Calls prog 35 #[.agg (qA x),.agg (qA y)] w (RetG (.int .i64 (cmpI x y)) w):=by
 go_enter func35,ntmps35;go_upto_region 0 with(fail);refine wpR [1,1,3] ?_;simp only[stz];refine wpD (wp_boxG 24 _ _ (by rfl) (by rfl) (fun w1 hB1 hm1 hs1=>?_))
 replace hB1:w1.heap[w.heap.size]?=some (.cells (qA x) 24 (0,0)):=hB1;try simp only[nmz]
 refine wpD (wp_boxG 24 _ _ (by rfl) (by rfl) (fun w2 hB2 hm2 hs2=>?_));replace hB2:w2.heap[w1.heap.size]?=some (.cells (qA y) 24 (0,0)):=hB2;simp only[stz]
 have hG:=(hm1.trans hm2).drew;have hX:=sl_idCells (CellsAt.whole ((mod_drew w2).obj id (hm2.mod.obj id hB1))) hx
 have hY:=sl_idCells (CellsAt.whole ((mod_drew w2).obj id hB2)) hy;go_upto_region 1 with(fail);refine wpRZ [3,3,1,3] [] (fun _=>True) trivial ?_;simp only[stz]
 refine qC (v:=.slice (some ⟨w.heap.size,0,none⟩) 32 32) rfl (fun w'=>exec_sliceA 24 5 _ _ _ 32 rfl rfl underlying24 (by kernel_rfl)) ?_;simp only[nmz]
 refine qC (v:=.slice (some ⟨w1.heap.size,0,none⟩) 32 32) rfl (fun w'=>exec_sliceA 24 5 _ _ _ 32 rfl rfl underlying24 (by kernel_rfl)) ?_;simp only[nmz]
 refine wpDo rfl ?_;go_wp2_with (go_at_call 94;refine(bytesCompare_any hX hY).mono ?_;rintro _ w3 ⟨rfl,hw⟩;obtain rfl:=hw.symm);simp only[stz];go_wp2;go_ret;exact⟨rfl,hG⟩
def cmpK(a b:Key):Int:=orI (cmpI a.1.data.toList b.1.data.toList) (cmpI a.2 b.2)
end
section
open Go.RowKit Go.Shelf Go.Proofs.Tryz Go.Lib
section
variable{P:Program}{o:Oper}{a:Act}{w:World}{K:Act->World->Prop}{Q:Exit->Act->World->Prop}{n:Nat}
theorem zN(hd:∀c,o.op≠.defer c)(h:o.wp P a w K Q):o.wpIn Fence.wide n P a w K Q:=by
 unfold Oper.wpIn;refine⟨fun _ _=>trivial,?_⟩;rw[Oper.semAt_eq _ _ _ hd];unfold Oper.wp at h;generalize (execOp a.eval o).run P w=r at h |-
 cases r with
 |halt x w'=>cases x<;>simp only[Oper.upon,Oper.uponIn]at h ⊢<;>exact h
 |ok x w'=>
  cases x<;>simp only[Oper.upon,Oper.uponIn]at h |-
  case value=>exact h
  case skip=>exact h
  case defer=>exact h
  case enter f args=>
   refine⟨fun h=>by simp[Fence.wide]at h,callsIn_wide.2 (Calls.mono h fun e w'' he=>?_)⟩
   cases e<;>exact he
  case row row args=>exact⟨fun h=>by simp[Fence.wide]at h,fun c cs _=>by obtain⟨v,w',r,s⟩:=h c cs;exact⟨v,w',r,stepsIn_wide.2 s⟩⟩
theorem wpIn_round_of_wp{l:Nat}(hd:∀c,o.op≠.defer c)(hr:∀row args w',(execOp a.eval o).run P w≠.ok (.row row args) w')(h:o.wp P a w K Q):o.wpIn (Fence.wide.inRound l) n P a w K Q:=by
 unfold Oper.wpIn;refine⟨fun _ _=>trivial,?_⟩;rw[Oper.semAt_eq _ _ _ hd];unfold Oper.wp at h;generalize (execOp a.eval o).run P w=r at h hr |-
 cases r with
 |halt x w'=>cases x<;>simp only[Oper.upon,Oper.uponIn]at h ⊢<;>exact h
 |ok x w'=>
  cases x<;>simp only[Oper.upon,Oper.uponIn]at h |-
  case value=>exact h
  case skip=>exact h
  case defer=>exact h
  case enter f args=>
   refine⟨fun h=>by simp[Fence.wide]at h,CallsIn.inRound l (callsIn_wide.2 (Calls.mono h fun e w'' he=>?_))⟩
   cases e<;>exact he
  case row row args=>exact absurd rfl (hr _ _ _)
theorem wpIn_yield{l:Nat}{R:Ending->World->Prop}(x y:Operand)(ts:Array TypeId)(ho:o.op=.call { callee:=.value x,args:=#[y],argTypes:=ts })(hx:a.eval x=.func (.yield l) #[] #[])(v:Value)(hv:a.eval y=v)
 (hy:YieldAt Fence.wide (n-1) P l #[v] w R)(hR:∀e w',R e w'->∃v,e=.returned v/\K (a.put o.dst v) w'):o.wpIn Fence.wide n P a w K Q:=by
 subst hv;obtain⟨fn,tmps,assign,body,hrun,hround⟩:=hy;unfold Oper.wpIn;refine⟨fun _ _=>trivial,?_⟩;rw[Oper.semAt_eq _ _ _ (fun c h=>by rw[ho]at h;cases h)]
 have e:(execOp a.eval o).run P w=.ok (.round l fn tmps assign body) w:=by
  unfold execOp
  simp[ho,resolve,hx,Deferred.ofValue,invoke,hrun]
 rw[e];refine⟨fun h=>by simp[Fence.wide]at h,hround.mono fun e w' he=>?_⟩;obtain⟨v,rfl,hk⟩:=hR e w' he;exact hk
def rowlessOp:Op->Bool
 | .move _| .assign _| .alloc _| .box _ _| .build _ _| .buildSlice _ _ _| .load _ _| .store _ _ _| .binOp _ _ _ _ _| .unOp _ _ _| .fieldAddr _ _ _| .field _ _ _| .indexAddr _ _ _| .index _ _ _| .lookup _ _ _ _| .mapUpdate _ _ _ _| .range _ _| .next _ _| .entry _| .slice _ _ _ _ _| .convert _ _ _| .makeFunc _ _ _| .extract _ _=>true
 | .call c=>match c.callee with| .builtin .append| .builtin .len| .builtin .delete=>true|_=>false
 |_=>false
theorem rowless{P:Program}{o:Oper}{a:Act}{w:World}(h:rowlessOp o.op=true):∀row args w',(execOp a.eval o).run P w≠.ok (.row row args) w':=by
 intro row args w'
 have hv:∀(s:Sem Value),(do pure (.value (<-s)):Sem Next).run P w≠.ok (.row row args) w':=fun s=>by
  rw[Sem.run_bind];generalize s.run P w=r
  cases r<;>simp[Result.andThen]
 have hu:∀(s:Sem Unit),(do s;pure .skip:Sem Next).run P w≠.ok (.row row args) w':=fun s=>by
  rw[Sem.run_bind];generalize s.run P w=r
  cases r<;>simp[Result.andThen]
 unfold execOp
 cases ho:o.op<;>simp only[ho,rowlessOp]at h ⊢<;>first|exact hv _|exact hu _|(cases h;done)|skip
 case move=>simp
 case assign=>simp
 case call c=>
  split at h
  all_goals first|(cases h;done)|skip
  all_goals
   rename_i hc
   simp only[resolve,hc,invoke,builtin,Sem.run_bind,Sem.run_pure,Result.andThen_ok];generalize Sem.run P _ w=r
   cases r<;>simp[Result.andThen]
theorem qV{P:Program}{l n:Nat}{ops:Array Oper}{Q:Exit->Act->World->Prop}{o:Oper}{rest:List Oper}{a:Act}{w:World}(hg:o.guard=none)(hr:rowlessOp o.op=true)
 (h:∀K:Act->World->Prop,(∀a w,wpListIn (Fence.wide.inRound l) n P ops Q rest a w->K a w)->o.wp P a w K Q):wpListIn (Fence.wide.inRound l) n P ops Q (o::rest) a w:=
 wpListIn_plain hg fun K hK=>wpIn_round_of_wp (fun c e=>by rw[e]at hr;cases hr) (rowless hr) (h K hK)
theorem Mod.keepsOthers{S:Nat->Prop}{w w':World}(h:Mod S w w')(hS:∀k o,S k->w.heap[k]?=some o->o.isCells=true):KeepsOthers w w':=
 ⟨h.size,fun k o hk ho=>(h.obj (fun hs=>by rw[hS k o hs hk]at ho;cases ho) hk)⟩
theorem Mod.keepsOthers0{w w':World}(h:Mod NoB w w'):KeepsOthers w w':=h.keepsOthers fun _ _ h=>h.elim
theorem Mod.below0{w w':World}(h:Mod NoB w w'):Below w.heap.size w w':=h.below fun _ _=>id
theorem Mod.grownNone{w w':World}(h:Mod NoB w w'):w.grownBy w' none:=⟨h.os,h.tape,h.output,h.size,fun k hk _=>h.block k hk id⟩
theorem Mod.grownAt{w w':World}{r:Nat}(h:Mod (fun k=>k=r) w w'):w.grownBy w' (some r):=⟨h.os,h.tape,h.output,h.size,fun k hk hn=>h.block k hk (fun e=>hn (by rw[e]))⟩
theorem Mod.of_grown{S:Nat->Prop}{w w':World}{row:Option Nat}(h:w.grownBy w' row)(hr:∀r,row=some r->S r):Mod S w w':=⟨h.os,h.tape,h.output,h.size,fun k hk hn=>h.block k hk (fun e=>hn (hr k e.symm))⟩
theorem wp_rangeM(t kt et:TypeId)(x:Operand)(mb:Nat)(es:Array MapEntry)(clk:Nat)(ho:o.op=.range t x)(hx:a.eval x=.map (some mb))(ht:P.underlying t=some (.map kt et))(hb:w.heap[mb]?=some (.map es clk))
 (h:∀w',w'.heap[w.heap.size]?=some (.mapIter (some mb) clk #[] clk)->Mod NoB w w'->w.heap.size<w'.heap.size->K (a.put o.dst (.pointer (some ⟨w.heap.size,0,none⟩))) w'):o.wp P a w K Q:=by
 unfold Oper.wp execOp
 have hr:(Instr.range t (.map (some mb))).run P w=.ok (.pointer (some ⟨w.heap.size,0,none⟩)) (w.alloc (.mapIter (some mb) clk #[] clk)):=by
  simp[Instr.range,run_underlying ht,newObj,getObj,Sem.run,hb]
 simp only[ho,hx,Sem.run_bind,hr,Result.andThen_ok,Sem.run_pure];exact h _ (heap_alloc_new _ _) (qW _ _) (by simp)
def IterAt(w:World)(mb it:Nat)(es:Array MapEntry)(clk:Nat)(xs:List MapEntry):Prop:=
 w.heap[mb]?=some (.map es clk)/\∃c0,clk<=c0/\w.heap[it]?=some (.mapIter (some mb) clk ⟨xs.map (·.born)⟩ c0)/\(∀x∈xs,x∈es.toList)/\(xs.map (·.born)).Nodup
theorem born_inj:∀{l:List MapEntry},(l.map (·.born)).Nodup->∀{x y:MapEntry},x∈l->y∈l->x.born=y.born->x=y:=fun h x y hx hy e=>nodup_inj (f:=fun(e:MapEntry)=>e.born) h hx hy e
theorem wp_nextM(x:Operand)(mb it:Nat)(es:Array MapEntry)(clk:Nat)(xs:List MapEntry)(ho:o.op=.next x false)(hx:a.eval x=.pointer (some ⟨it,0,none⟩))(hI:IterAt w mb it es clk xs)(hbo:∀x∈es.toList,x.born<clk)(hbn:(es.toList.map (·.born)).Nodup)
 (hDone:xs.Perm es.toList->K (a.put o.dst (.tuple #[.bool false])) w)
 (hMore:∀e w',e∈es.toList->IterAt w' mb it es clk (xs++[e])->xs.length<es.size->Mod (fun j=>j=it) w w'->w.heap.size=w'.heap.size->w'.heap[it]?=some (.mapIter (some mb) clk ((⟨xs.map (·.born)⟩:Array Nat).push e.born) clk)->K (a.put o.dst (.tuple #[.bool true,e.key,e.val])) w'):o.wp P a w K Q:=by
 obtain⟨hb,c0,hc0,hit,hsub,hnd⟩:=hI;have hne:it≠mb:=by rintro rfl;rw[hb]at hit;cases hit
 have hseen:∀e:MapEntry,(⟨xs.map (·.born)⟩:Array Nat).contains e.born=true↔e.born∈xs.map (·.born):=fun e=>by simp[Array.contains_iff_mem]
 unfold Oper.wp execOp
 rcases run_next_at (P:=P) w o.type it mb clk c0 ⟨xs.map (·.born)⟩ es clk hit hb hbo hc0 with⟨h0,hrun⟩|⟨e,he,w1,hw1,hrun⟩
 ·simp only[ho,hx,Sem.run_bind,hrun,Result.andThen_ok,Sem.run_pure]
  refine hDone ?_
  have hall:∀e∈es.toList,e∈xs:=by
   intro e he
   have hnot:e∉(_root_.Go.leftOf es ⟨xs.map (·.born)⟩).toList:=by
    have:_root_.Go.leftOf es ⟨xs.map (·.born)⟩=#[]:=Array.eq_empty_of_size_eq_zero h0;rw[this];simp
   have hin:e.born∈xs.map (·.born):=by
    rw[<-hseen];unfold _root_.Go.leftOf at hnot;simp only[Array.toList_filter,List.mem_filter,he,true_and]at hnot
    simpa using hnot
   obtain⟨y,hy,e1⟩:=List.mem_map.1 hin;exact born_inj hbn he (hsub y hy) e1.symm▸hy
  have hxs:xs.Nodup:=(List.pairwise_map.1 hnd).imp fun hne e=>hne (by rw[e]);have hes:es.toList.Nodup:=(List.pairwise_map.1 hbn).imp fun hne e=>hne (by rw[e])
  exact(List.perm_ext_iff_of_nodup hxs hes).2 fun e=>⟨hsub e,hall e⟩
 ·simp only[ho,hx,Sem.run_bind,hrun,Result.andThen_ok,Sem.run_pure]
  have heM:e∈es.toList/\e.born∉xs.map (·.born):=by
   unfold _root_.Go.leftOf at he;simp only[Array.toList_filter,List.mem_filter]at he;refine⟨he.1,fun hin=>?_⟩
   have h2:(!((⟨xs.map (·.born)⟩:Array Nat).contains e.born))=true:=he.2;rw[(hseen e).2 hin]at h2
   cases h2
  have h1:w1.heap=w.heap:=by rcases hw1 with rfl|rfl<;>rfl
  have hlt:it<w.heap.size:=(Array.getElem?_eq_some_iff.1 hit).1
  have hnd':((xs++[e]).map (·.born)).Nodup:=by
   rw[List.map_append,List.nodup_append];exact⟨hnd,by simp,by intro x hx y hy;simp at hy;subst hy;rintro rfl;exact heM.2 hx⟩
  have hit':(ChangeMaps.setBlock w1 it (.mapIter (some mb) clk ((⟨xs.map (·.born)⟩:Array Nat).push e.born) clk)).heap[it]?=some (.mapIter (some mb) clk ((⟨xs.map (·.born)⟩:Array Nat).push e.born) clk):=by
   simp[ChangeMaps.setBlock,h1,hlt]
  have hoth:∀j,j≠it->(ChangeMaps.setBlock w1 it (.mapIter (some mb) clk ((⟨xs.map (·.born)⟩:Array Nat).push e.born) clk)).heap[j]?=w.heap[j]?:=fun j hj=>by
   simp[ChangeMaps.setBlock,h1,Array.getElem?_setIfInBounds,Ne.symm hj]
  have hmem:∀x∈xs++[e],x∈es.toList:=fun x hx=>by
   rcases List.mem_append.1 hx with hx|hx
   ·exact hsub x hx
   ·simp at hx;subst hx;exact heM.1
  refine hMore e _ heM.1 ⟨(hoth mb (Ne.symm hne)).trans hb,clk,Nat.le_refl _,by rw[hit'];simp,hmem,hnd'⟩ ?_ ⟨?_,?_,?_,?_,fun j _ hj=>hoth j hj⟩ ?_ hit'
  ·have:=yF (l:=(xs++[e]).map (·.born)) (m:=es.toList.map (·.born)) hnd' (fun b hb=>by
    obtain⟨x,hx,rfl⟩:=List.mem_map.1 hb
    exact List.mem_map.2 ⟨x,hmem x hx,rfl⟩)
   simp at this;omega
  ·rcases hw1 with rfl|rfl<;>rfl
  ·rcases hw1 with rfl|rfl<;>rfl
  ·rcases hw1 with rfl|rfl<;>rfl
  ·simp[ChangeMaps.setBlock,h1]
  ·simp[ChangeMaps.setBlock,h1]
theorem exec_entryM(x:Operand)(mb it:Nat)(es:Array MapEntry)(clk:Nat)(e:MapEntry)(seen:Array Nat)(ho:o.op=.entry x)(hx:a.eval x=.pointer (some ⟨it,0,none⟩))(hb:w.heap[mb]?=some (.map es clk))(hit:w.heap[it]?=some (.mapIter (some mb) clk (seen.push e.born) clk))(he:e∈es.toList)(hbn:(es.toList.map (·.born)).Nodup):
 (execOp a.eval o).run P w=.ok (.value (.tuple #[e.key,e.val])) w:=by
 unfold execOp;simp only[ho,hx,Sem.run_bind,run_entry_at (P:=P) w it mb clk seen es clk e hit hb he hbn,Result.andThen_ok,Sem.run_pure]
end
theorem exec_move{P:Program}{o:Oper}{a:Act}{w:World}(x:Operand)(ho:o.op=.move x):(execOp a.eval o).run P w=.ok (.value (a.eval x)) w:=by
 unfold execOp;simp only[ho];rfl
theorem exec_not{P:Program}{o:Oper}{a:Act}{w:World}(x:Operand)(t:TypeId)(b:Bool)(ho:o.op=.unOp .not t x)(hx:a.eval x=.bool b):(execOp a.eval o).run P w=.ok (.value (.bool (!b))) w:=by
 unfold execOp;simp[ho,hx,Op.unary]
theorem byteV_inj{a b:UInt8}(h:byteV a=byteV b):a=b:=by
 simp only[byteV,Value.int.injEq,true_and]at h;exact UInt8.toNat_inj.1 (by omega)
theorem keyV_inj{a b:Key}(h:keyV a=keyV b):a=b:=by
 have h1:(zG a).toList=(zG b).toList:=by rw[Value.agg.inj h]
 simp only[zG,Array.toList_append,qA,List.cons_append,List.nil_append,List.cons.injEq]at h1;obtain⟨h2,h3⟩:=h1
 have h4:a.2=b.2:=List.map_inj_right (fun _ _ e=>byteV_inj e) |>.1 h3;exact Prod.ext (Value.string.inj h2) h4
theorem dec_of{α:Type}[Nonempty α]{enc:α->Value}(hi:∀a b,enc a=enc b->a=b):∃dec:Value->α,∀x,dec (enc x)=x:=
 ⟨fun v=>Classical.epsilon fun x=>enc x=v,fun x=>hi _ _ (Classical.epsilon_spec (p:=fun y=>enc y=enc x) ⟨x,rfl⟩)⟩
theorem perm_of_map{α:Type}[Nonempty α]{enc:α->Value}(hi:∀a b,enc a=enc b->a=b){l m:List α}(h:(l.map enc).Perm (m.map enc)):l.Perm m:=by
 obtain⟨dec,hd⟩:=dec_of hi;have:=h.map dec
 simpa[List.map_map,Function.comp_def,hd]using this
theorem keyCells_one(p:Key):∀c∈zG p,c.oneCell'=true:=by
 intro c hc;simp only[zG,Array.mem_append]at hc
 rcases hc with hc|hc
 ·simp at hc;subst hc;rfl
 ·exact qP _ c hc
theorem Mod.of_below0{w w':World}(h:Below w.heap.size w w'):Mod NoB w w':=(Mod.of_below h).mono fun k hk hn=>by omega
theorem keysK_any(w:World)(mb:Nat):Calls prog 145 #[.map (some mb)] w fun e w'=>e=.returned (.func (.func 207) #[] #[.pointer (some ⟨w.heap.size,0,none⟩)])/\w'=w.alloc (.cells #[.map (some mb)] 97):=by
 have hmf:=xG;go_enter func145,ntmps145;go_wp2;go_ret;exact⟨rfl,rfl⟩
abbrev KeyS:={k:Key//KeyOk k}
instance:Inhabited KeyS:=⟨⟨(⟨#[]⟩,List.replicate 32 0),by simp[KeyOk]⟩⟩
def keyE(k:KeyS):Value:=keyV k.1
def KeysRel(mb it:Nat)(es:Array MapEntry)(clk:Nat)(J:List KeyS->World->Prop)(_:Value)(w:World):Prop:=
 ∃xs ks,IterAt w mb it es clk xs/\xs.map (·.key)=ks.map keyE/\J ks w
def seenLeft(it n:Nat)(w:World):Nat:=match w.heap[it]? with|some (.mapIter _ _ seen _)=>n-seen.size|_=>0
theorem jE{it n mb clk c0:Nat}{seen:Array Nat}{w:World}(h:w.heap[it]?=some (.mapIter (some mb) clk seen c0)):seenLeft it n w=n-seen.size:=by simp[seenLeft,h]
theorem keysK_stops(n:Nat)(hn:1<=n)(w:World)(Bm mb:Nat)(l:LinkL)(hB:w.heap[Bm]?=some (.cells #[.map (some mb)] 97 (0,0)))(hM:MapIs keyV KeyOk w mb (l.map fun p=>(p.1,linkV p.2))):
 SeqStopsK Fence.wide n prog 207 #[.pointer (some ⟨Bm,0,none⟩)] (fun k:KeyS=>#[keyE k]) KeepsWalks (fun ks=>(ks.map (·.1)).Perm (l.map (·.1))) (fun _=>True) l.length w:=by
 intro y J Jx W hW hJ hJx hY h0;have hMW:=Mod.of_below0 hW;have hBW:=hMW.obj id hB;have hMM:=hM.keep0 hMW;obtain⟨⟨es,clk,hb,hkd,hbo,hbn⟩,_,hok⟩:=hMM
 have hc:W.cell? ⟨Bm,0,none⟩=some (.map (some mb)):=by simp[World.cell?,hBW]
 have hkeys:es.toList.map (·.key)=(l.map (·.1)).map keyV:=by
  have:=congrArg (List.map (·.1)) hkd
  simpa[List.map_map,Function.comp_def]using this
 have hsize:es.size=l.length:=by have:=congrArg List.length hkd;simpa using this
 have HKEYS:=hid hkeys;have HSIZE:=hid hsize;clear hkeys hsize hkd hB hM hBW;refine callsIn_wide.2 ?_;go_enter func207,ntmps207;go_upto_region 0 with(fail)
 refine wpR [1,1] ?_;simp only[stz];refine wpXd 97 Bm 0 hc underlying97 trivial ?_;try simp only[nmz]
 refine wpD (wp_rangeM 97 241 246 _ mb es clk (by rfl) (by rfl) underlying97 hb (fun w1 hit1 hm1 hs1=>?_));simp only[stz]
 have hI1:IterAt w1 mb W.heap.size es clk []:=⟨hm1.obj id hb,clk,Nat.le_refl _,hit1,by simp,by simp⟩
 have hJ1:J [] w1:=hJ [] W w1 none h0 hm1.grownNone (fun r e=>by cases e);clear hm1 hb hc h0 hit1;go_wp2
 go_loopw [3] (KeysRel mb W.heap.size es clk J) (fun _ wx=>seenLeft W.heap.size (l.length+1) wx)
 case atStart=>exact⟨[],[],hI1,rfl,hJ1⟩
 case round=>
  rename_i wr
  obtain⟨xs,ks,hI,hxk,hJr⟩:=hrel;have HXK:=hid hxk;have hlen:ks.length=xs.length:=by have:=congrArg List.length hxk;simpa using this.symm
  have HLEN:=hid hlen;clear hxk hlen;obtain⟨_,c0,_,hitr,_⟩:=id hI;have hleft:=jE (n:=l.length+1) hitr;have HLEFT:=hid hleft;clear hleft
  go_upto_region 1 with(fail);refine wpR [1,3] ?_;simp only[stz];refine qL rfl (fun K hK=>?_)
  refine wp_nextM _ mb W.heap.size es clk xs (by rfl) (by rfl) hI hbo hbn (fun hp=>?_) (fun e w2 he hI2 hlt hm2 hs2 hit2=>?_)
  ·refine hK _ _ trivial ?_
   refine qC (v:=.bool false) rfl (fun w'=>?_) ?_
   ·go_simp
   simp only[stz];go_wp2
   go_end0
   refine⟨⟨_,rfl⟩,.inl ⟨ks,?_,hJr⟩⟩;refine perm_of_map (fun _ _=>keyV_inj) ?_;rw[<-HKEYS.out,List.map_map]
   show List.Perm (ks.map keyE) _
   rw[<-HXK.out];exact hp.map _
  refine hK _ _ trivial ?_;clear hK K;try simp only[nmz]
  refine qC (v:=?_) rfl (fun w'=>?_) ?_;rotate_left;·(go_simp;try with_reducible rfl)
  simp only[stz];have hJ2:J ks w2:=hJ ks wr w2 (some W.heap.size) hJr hm2.grownAt (fun r e=>by cases e;exact⟨Nat.le_refl _,_,hitr,rfl⟩)
  obtain⟨k,hkl,hek⟩:∃k∈l.map (·.1),keyV k=e.key:=List.mem_map.1 (by rw[<-HKEYS.out];exact List.mem_map.2 ⟨e,he,rfl⟩)
  have hkok:KeyOk k:=by
   obtain⟨p,hp,rfl⟩:=List.mem_map.1 hkl;exact hok (p.1,linkV p.2) (List.mem_map.2 ⟨p,hp,rfl⟩)
  have HEK:=hid hek;have HSZ:=hid hs2;clear hek hs2 hitr hJr hI hm2;go_upto_region 2 with(fail);refine wpR [1,3,1,1] ?_;simp only[stz]
  refine wpX rfl (v:=.tuple #[keyV k,e.val]) ((exec_entryM _ mb W.heap.size es clk e _ (by rfl) (by rfl) hI2.1 hit2 he hbn).trans (by rw[HEK.out])) trivial ?_
  try simp only[nmz]
  refine qC (v:=?_) rfl (fun w'=>?_) ?_;rotate_left;·(go_simp;try with_reducible rfl)
  simp only[nmz];refine wpD (qN 241 _ (by rfl) keyZ (fun w3 hB3 hm3 hs3=>?_));replace hB3:w3.heap[w2.heap.size]?=some (.cells keyZero 241 (0,0)):=hB3
  try simp only[nmz]
  refine wpDo rfl ?_
  refine qF 241 _ _ w2.heap.size 0 (zG k) (by rfl) (by rfl) (by rfl) (keyCells_one k) 33 (by kernel_rfl) (zW hkok) _ _ hB3 (by rw[zW hkok];exact Nat.le_of_eq (by kernel_rfl)) (fun w4 hB4 hm4=>?_)
  have hm24:Mod NoB w2 w4:=hm3.transB hm4 (Nat.le_refl _);simp only[stz];rw[qD (by rw[zW hkok];kernel_rfl)]at hB4
  have hI4:IterAt w4 mb W.heap.size es clk (xs++[e]):=by
   obtain⟨h1,c0,h2,h3,h4⟩:=hI2;exact⟨hm24.obj id h1,c0,h2,hm24.obj id h3,h4⟩
  have hJ4:J ks w4:=hJ ks w2 w4 none hJ2 hm24.grownNone (fun r e=>by cases e);have hca:CellsAt w4 w2.heap.size 0 (zG k):=CellsAt.whole hB4
  have hYk:=hY ks ⟨k,hkok⟩ w4 hJ4 (by rw[HLEN.out,<-HSIZE.out];exact hlt);clear hJ2 hB3 hm3 hs3 hm4 hit2 hI2 hJ4;go_upto_region 3 with(fail)
  refine(wpIn_wide (n:=n)).1 (wpIn_region_lit ?_);refine wpListIn_plain rfl fun K hK=>zN (fun c h=>by cases h) ?_;refine zS (exec_move _ (by rfl)) ?_
  refine hK _ _ ?_;clear hK K;refine wpListIn_plain rfl fun K hK=>zN (fun c h=>by cases h) ?_
  refine zS (zK 241 _ (by rfl) w2.heap.size 0 (by rfl) (zG k) hca _ underlying241 rfl 33 (by kernel_rfl) (zW hkok)) ?_;refine hK _ _ ?_;clear hK K
  refine wpListIn_plain rfl fun K hK=>wpIn_yield (l:=y) _ _ _ (by rfl) (by rfl) (keyV k) (by rfl) hYk (fun e' w5 he'=>?_)
  rcases he' with⟨rfl,hJ5,hk5⟩|⟨rfl,hJx5⟩
  rotate_left
  ·refine⟨_,rfl,?_⟩
   refine hK _ _ ?_;clear hK K;refine wpListIn_plain rfl fun K hK=>zN (fun c h=>by cases h) ?_;refine zS (exec_not _ _ false (by rfl) (by rfl)) ?_;refine hK _ _ ?_
   clear hK K;simp only[nmz];refine wpListIn_nil ?_;go_wp2;refine bodyPost_ret (results_none (by rfl) _ _ _) rfl ?_;exact⟨⟨_,rfl⟩,.inr ⟨_,trivial,hJx5⟩⟩
  refine⟨_,rfl,?_⟩;refine hK _ _ ?_;clear hK K;refine wpListIn_plain rfl fun K hK=>zN (fun c h=>by cases h) ?_;refine zS (exec_not _ _ true (by rfl) (by rfl)) ?_
  refine hK _ _ ?_;clear hK K;simp only[nmz];refine wpListIn_nil ?_
  have hI5:IterAt w5 mb W.heap.size es clk (xs++[e]):=by
   obtain⟨h1,c0,h2,h3,h4⟩:=hI4;exact⟨hk5.same _ _ h1 rfl,c0,h2,hk5.same _ _ h3 rfl,h4⟩
  have hrk:(xs++[e]).map (·.key)=(ks++[(⟨k,hkok⟩:KeyS)]).map keyE:=by
   rw[List.map_append,List.map_append,HXK.out];simp[keyE,HEK.out]
  obtain⟨_,c5,_,hit5,_⟩:=id hI5;have hleft5:=jE (n:=l.length+1) hit5;have HL5:=hid hleft5;have HRK:=hid hrk;clear hleft5 hrk hit5;go_wp2
  go_roundw
  case rel=>exact⟨xs++[e],ks++[⟨k,hkok⟩],hI5,HRK.out,hJ5⟩
  case measure=>rw[HL5.out,HLEFT.out];have:=HSIZE.out;simp;omega
end
section
open Go.RowKit Go.Proofs.Tryz Go.Lib
def shlU(x:UInt32)(n:Nat):UInt32:=UInt32.ofNat (x.toNat*2^n)
def shrU(x:UInt32)(n:Nat):UInt32:=UInt32.ofNat (x.toNat/2^n)
def rotr(x:UInt32)(n:Nat):UInt32:=shlU x (32-n) ||| shrU x n
def byteW(b:UInt8):UInt32:=UInt32.ofNat b.toNat
structure W8 where
 a:UInt32
 b:UInt32
 c:UInt32
 d:UInt32
 e:UInt32
 f:UInt32
 g:UInt32
 h:UInt32
deriving DecidableEq
def W8.list(s:W8):List UInt32:=[s.a,s.b,s.c,s.d,s.e,s.f,s.g,s.h]
def shaBegin:W8:=⟨0x6a09e667,0xbb67ae85,0x3c6ef372,0xa54ff53a,0x510e527f,0x9b05688c,0x1f83d9ab,0x5be0cd19⟩
def shaKeys:List UInt32:=[
 0x428a2f98,0x71374491,0xb5c0fbcf,0xe9b5dba5,0x3956c25b,0x59f111f1,0x923f82a4,0xab1c5ed5,
 0xd807aa98,0x12835b01,0x243185be,0x550c7dc3,0x72be5d74,0x80deb1fe,0x9bdc06a7,0xc19bf174,
 0xe49b69c1,0xefbe4786,0x0fc19dc6,0x240ca1cc,0x2de92c6f,0x4a7484aa,0x5cb0a9dc,0x76f988da,
 0x983e5152,0xa831c66d,0xb00327c8,0xbf597fc7,0xc6e00bf3,0xd5a79147,0x06ca6351,0x14292967,
 0x27b70a85,0x2e1b2138,0x4d2c6dfc,0x53380d13,0x650a7354,0x766a0abb,0x81c2c92e,0x92722c85,
 0xa2bfe8a1,0xa81a664b,0xc24b8b70,0xc76c51a3,0xd192e819,0xd6990624,0xf40e3585,0x106aa070,
 0x19a4c116,0x1e376c08,0x2748774c,0x34b0bcb5,0x391c0cb3,0x4ed8aa4a,0x5b9cca4f,0x682e6ff3,
 0x748f82ee,0x78a5636f,0x84c87814,0x8cc70208,0x90befffa,0xa4506ceb,0xbef9a3f7,0xc67178f2]
def wordAt(b:List UInt8)(i:Nat):UInt32:=
 ((shlU (byteW (b.getD (4*i) 0)) 24 ||| shlU (byteW (b.getD (4*i+1) 0)) 16) ||| shlU (byteW (b.getD (4*i+2) 0)) 8) ||| byteW (b.getD (4*i+3) 0)
def sig0(x:UInt32):UInt32:=(rotr x 7 ^^^ rotr x 18) ^^^ shrU x 3
def sig1(x:UInt32):UInt32:=(rotr x 17 ^^^ rotr x 19) ^^^ shrU x 10
def wordNext(w:List UInt32)(i:Nat):UInt32:=((w.getD (i-16) 0+sig0 (w.getD (i-15) 0))+w.getD (i-7) 0)+sig1 (w.getD (i-2) 0)
def xB(b:List UInt8):Nat->List UInt32
 |0=>[]
 |i+1=>xB b i++[if i<16 then wordAt b i else wordNext (xB b i) i]
theorem jT(b:List UInt8):∀n,(xB b n).length=n
 |0=>rfl
 |n+1=>by simp[xB,jT b n]
def roundX(c:W8)(k w:UInt32):UInt32:=(((c.h+((rotr c.e 6 ^^^ rotr c.e 11) ^^^ rotr c.e 25))+((c.e &&& c.f) ^^^ ((4294967295 ^^^ c.e) &&& c.g)))+k)+w
def roundY(c:W8):UInt32:=((rotr c.a 2 ^^^ rotr c.a 13) ^^^ rotr c.a 22)+(((c.a &&& c.b) ^^^ (c.a &&& c.c)) ^^^ (c.b &&& c.c))
def round(c:W8)(k w:UInt32):W8:=⟨roundX c k w+roundY c,c.a,c.b,c.c,c.d+roundX c k w,c.e,c.f,c.g⟩
def rounds(ks ws:List UInt32):Nat->W8->W8
 |0,c=>c
 |i+1,c=>round (rounds ks ws i c) (ks.getD i 0) (ws.getD i 0)
def addW(s t:W8):W8:=⟨s.a+t.a,s.b+t.b,s.c+t.c,s.d+t.d,s.e+t.e,s.f+t.f,s.g+t.g,s.h+t.h⟩
def blockL(s:W8)(b:List UInt8):W8:=addW s (rounds shaKeys (xB b 64) 64 s)
def xD:Nat->W8->List UInt8->W8
 |0,s,_=>s
 |n+1,s,m=>xD n (blockL s (m.take 64)) (m.drop 64)
theorem blocksL_add:∀(n k:Nat)(s:W8)(m:List UInt8),xD (n+k) s m=xD k (xD n s m) (m.drop (64*n))
 |0,k,s,m=>by simp[xD]
 |n+1,k,s,m=>by
  rw[show n+1+k=(n+k)+1 by omega];simp only[xD];rw[blocksL_add n k,List.drop_drop]
  congr 2;omega
theorem blocksL_app:∀(n:Nat)(s:W8)(m t:List UInt8),64*n<=m.length->xD n s (m++t)=xD n s m
 |0,_,_,_,_=>rfl
 |n+1,s,m,t,h=>by
  simp only[xD];rw[List.take_append_of_le_length (by omega),List.drop_append_of_le_length (by omega),blocksL_app n _ _ _ (by simp;omega)]
def padN(n:Nat):Nat:=(119-n%64)%64
def yB(n:Nat):List UInt8:=(List.range 8).map fun i=>UInt8.ofNat (n*8/2^(56-8*i))
def padL(m:List UInt8):List UInt8:=m++[128]++List.replicate (padN m.length) 0++yB m.length
theorem lenBytes_len(n:Nat):(yB n).length=8:=by simp[yB]
theorem padL_len(m:List UInt8):(padL m).length=m.length+9+padN m.length/\(padL m).length%64=0:=by
 have h:(padL m).length=m.length+9+padN m.length:=by simp[padL,lenBytes_len];omega
 refine⟨h,?_⟩;rw[h];unfold padN;omega
def outByte(s:W8)(i:Nat):UInt8:=UInt8.ofNat (shrU (s.list.getD (i/4) 0) (24-8*(i%4))).toNat
def outL(s:W8):List UInt8:=(List.range 32).map (outByte s)
def shaL(m:List UInt8):List UInt8:=outL (xD ((padL m).length/64) shaBegin (padL m))
theorem shaL_len(m:List UInt8):(shaL m).length=32:=by simp[shaL,outL]
def wordV(x:UInt32):Value:=.int .u32 (x.toNat:Int)
def qI(l:List UInt32):Array Value:=(l.map wordV).toArray
theorem qE(l:List UInt32):(qI l).size=l.length:=by simp[qI]
theorem jD{l:List UInt32}{i:Nat}(h:i<l.length):(qI l)[i]?=some (wordV l[i]):=by simp[qI,h]
theorem zT(l:List UInt32):∀c∈qI l,c.oneCell'=true:=by
 intro c hc
 simp[qI]at hc
 obtain⟨x,_,rfl⟩:=hc
 rfl
section
variable{P:Program}{w:World}{o:Oper}{a:Act}
theorem w_lt(m:UInt32):m.toNat<4294967296:=m.toNat_lt
theorem exec_xor32(t:TypeId)(x y:Operand)(yt:TypeId)(m n:UInt32)(ho:o.op=.binOp .xor t x y yt)(hx:a.eval x=wordV m)(hy:a.eval y=wordV n):(execOp a.eval o).run P w=.ok (.value (wordV (m ^^^ n))) w:=by
 have hb:=u32_xor_nat m.toNat n.toNat (w_lt m) (w_lt n);unfold execOp;unfold wordV at hx hy |-;simp only[ho,hx,hy]
 go_simp
theorem exec_and32(t:TypeId)(x y:Operand)(yt:TypeId)(m n:UInt32)(ho:o.op=.binOp .and t x y yt)(hx:a.eval x=wordV m)(hy:a.eval y=wordV n):(execOp a.eval o).run P w=.ok (.value (wordV (m &&& n))) w:=by
 have hb:=u32_and_nat m.toNat n.toNat (w_lt m) (w_lt n);unfold execOp;unfold wordV at hx hy |-;simp only[ho,hx,hy]
 go_simp
theorem exec_or32(t:TypeId)(x y:Operand)(yt:TypeId)(m n:UInt32)(ho:o.op=.binOp .or t x y yt)(hx:a.eval x=wordV m)(hy:a.eval y=wordV n):(execOp a.eval o).run P w=.ok (.value (wordV (m ||| n))) w:=by
 have hb:=u32_or_nat m.toNat n.toNat (w_lt m) (w_lt n);unfold execOp;unfold wordV at hx hy |-;simp only[ho,hx,hy]
 go_simp
theorem exec_add32(t:TypeId)(x y:Operand)(yt:TypeId)(m n:UInt32)(ho:o.op=.binOp .add t x y yt)(hx:a.eval x=wordV m)(hy:a.eval y=wordV n):(execOp a.eval o).run P w=.ok (.value (wordV (m+n))) w:=by
 unfold execOp;unfold wordV at hx hy |-;simp only[ho,hx,hy]
 go_simp
 rw[IntKind.wrap_u32']
theorem exec_not32(t:TypeId)(x:Operand)(m:UInt32)(ho:o.op=.unOp .xor t x)(hx:a.eval x=wordV m):(execOp a.eval o).run P w=.ok (.value (wordV (4294967295 ^^^ m))) w:=by
 have hb:=u32_xor_nat 4294967295 m.toNat (by omega) (w_lt m);unfold execOp;unfold wordV at hx |-;simp only[ho,hx]
 go_simp
 exact hb
theorem exec_shl32(t:TypeId)(x y:Operand)(yt:TypeId)(m:UInt32)(k:IntKind)(n:Nat)(ho:o.op=.binOp .shl t x y yt)(hx:a.eval x=wordV m)(hy:a.eval y=.int k (n:Int))(hn:n<=32):(execOp a.eval o).run P w=.ok (.value (wordV (shlU m n))) w:=by
 unfold execOp;unfold wordV shlU at*;simp only[ho,hx,hy]
 go_simp
 rw[IntKind.wrap_u32']
theorem exec_shr32(t:TypeId)(x y:Operand)(yt:TypeId)(m:UInt32)(k:IntKind)(n:Nat)(ho:o.op=.binOp .shr t x y yt)(hx:a.eval x=wordV m)(hy:a.eval y=.int k (n:Int))(hn:n<=32):(execOp a.eval o).run P w=.ok (.value (wordV (shrU m n))) w:=by
 unfold execOp;unfold wordV shrU at*;simp only[ho,hx,hy]
 go_simp
 have h1:(0:Int)<=(m.toNat:Int)/2^n:=Int.ediv_nonneg (by omega) (Int.le_of_lt (Int.pow_pos (by omega)))
 have h2:(m.toNat:Int)/2^n<=(m.toNat:Int):=Int.ediv_le_self _ (by omega);have h3:=w_lt m;rw[Int.emod_eq_of_lt h1 (by omega)]
theorem xH(t u:TypeId)(x:Operand)(m:UInt8)(ho:o.op=.convert t u x)(hx:a.eval x=byteV m)(ht:(P.underlying t).isSome=true)(hu:P.underlying u=some (.int .u32)):
 (execOp a.eval o).run P w=.ok (.value (wordV (byteW m))) w:=by
 unfold execOp;unfold byteV at hx;simp only[ho,hx];have hk:P.intKind u=.u32:=by simp[Program.intKind,hu]
 have h1:=run_convert_int (P:=P) w t u .u8 (m.toNat:Int) ht (by rw[hk];exact hu);rw[hk]at h1
 have h2:IntKind.u32.wrap (m.toNat:Int)=((byteW m).toNat:Int):=by
  rw[IntKind.wrap_u32'];unfold byteW;have h9:=m.toNat_lt
  simp
  omega
 rw[h2]at h1;rw[Sem.run_bind,h1]
 rfl
theorem exec_byte_of_word(t u:TypeId)(x:Operand)(m:UInt32)(ho:o.op=.convert t u x)(hx:a.eval x=wordV m)(ht:(P.underlying t).isSome=true)(hu:P.underlying u=some (.int .u8)):
 (execOp a.eval o).run P w=.ok (.value (byteV (UInt8.ofNat m.toNat))) w:=by
 unfold execOp;unfold wordV at hx;simp only[ho,hx];have hk:P.intKind u=.u8:=by simp[Program.intKind,hu]
 have h1:=run_convert_int (P:=P) w t u .u32 (m.toNat:Int) ht (by rw[hk];exact hu);rw[hk]at h1
 have h2:IntKind.u8.wrap (m.toNat:Int)=((UInt8.ofNat m.toNat).toNat:Int):=by
  rw[IntKind.wrap_u8']
  simp
 rw[h2]at h1;rw[Sem.run_bind,h1]
 rfl
end
section
variable{P:Program}{ops:Array Oper}{Q:Exit->Act->World->Prop}{S:World->Prop}{o:Oper}{r:List (Oper×Nat)}{a:Act}{w:World}
theorem zQ(t:TypeId)(x y:Operand)(yt:TypeId)(m n:UInt32)(hw:Region.wanted o (yielded ops a.tmps)=true)(ho:o.op=.binOp .xor t x y yt)(hx:a.eval x=wordV m)(hy:a.eval y=wordV n)
 (h:wpPi P ops Q S r (a.put o.dst (wordV (m ^^^ n))) w):wpPi P ops Q S ((o,3)::r) a w:=qC hw (fun _=>exec_xor32 t x y yt m n ho hx hy) h
theorem yY(t:TypeId)(x y:Operand)(yt:TypeId)(m n:UInt32)(hw:Region.wanted o (yielded ops a.tmps)=true)(ho:o.op=.binOp .and t x y yt)(hx:a.eval x=wordV m)(hy:a.eval y=wordV n)
 (h:wpPi P ops Q S r (a.put o.dst (wordV (m &&& n))) w):wpPi P ops Q S ((o,3)::r) a w:=qC hw (fun _=>exec_and32 t x y yt m n ho hx hy) h
theorem wpPi_or32(t:TypeId)(x y:Operand)(yt:TypeId)(m n:UInt32)(hw:Region.wanted o (yielded ops a.tmps)=true)(ho:o.op=.binOp .or t x y yt)(hx:a.eval x=wordV m)(hy:a.eval y=wordV n)
 (h:wpPi P ops Q S r (a.put o.dst (wordV (m ||| n))) w):wpPi P ops Q S ((o,3)::r) a w:=qC hw (fun _=>exec_or32 t x y yt m n ho hx hy) h
theorem zR(t:TypeId)(x y:Operand)(yt:TypeId)(m n:UInt32)(hw:Region.wanted o (yielded ops a.tmps)=true)(ho:o.op=.binOp .add t x y yt)(hx:a.eval x=wordV m)(hy:a.eval y=wordV n)
 (h:wpPi P ops Q S r (a.put o.dst (wordV (m+n))) w):wpPi P ops Q S ((o,3)::r) a w:=qC hw (fun _=>exec_add32 t x y yt m n ho hx hy) h
theorem wpPi_not32(t:TypeId)(x:Operand)(m:UInt32)(hw:Region.wanted o (yielded ops a.tmps)=true)(ho:o.op=.unOp .xor t x)(hx:a.eval x=wordV m)
 (h:wpPi P ops Q S r (a.put o.dst (wordV (4294967295 ^^^ m))) w):wpPi P ops Q S ((o,3)::r) a w:=qC hw (fun _=>exec_not32 t x m ho hx) h
theorem jV(t:TypeId)(x y:Operand)(yt:TypeId)(m:UInt32)(k:IntKind)(n:Nat)(hw:Region.wanted o (yielded ops a.tmps)=true)(ho:o.op=.binOp .shl t x y yt)(hx:a.eval x=wordV m)(hy:a.eval y=.int k (n:Int))(hn:n<=32)
 (h:wpPi P ops Q S r (a.put o.dst (wordV (shlU m n))) w):wpPi P ops Q S ((o,3)::r) a w:=qC hw (fun _=>exec_shl32 t x y yt m k n ho hx hy hn) h
theorem jU(t:TypeId)(x y:Operand)(yt:TypeId)(m:UInt32)(k:IntKind)(n:Nat)(hw:Region.wanted o (yielded ops a.tmps)=true)(ho:o.op=.binOp .shr t x y yt)(hx:a.eval x=wordV m)(hy:a.eval y=.int k (n:Int))(hn:n<=32)
 (h:wpPi P ops Q S r (a.put o.dst (wordV (shrU m n))) w):wpPi P ops Q S ((o,3)::r) a w:=qC hw (fun _=>exec_shr32 t x y yt m k n ho hx hy hn) h
end
theorem zJ{P:Program}{ops:Array Oper}{Q:Exit->Act->World->Prop}{S:World->Prop}{o:Oper}{r:List (Oper×Nat)}{a:Act}{w:World}(t:TypeId)(x y:Operand)(yt:TypeId)(m n d:Int)(hw:Region.wanted o (yielded ops a.tmps)=true)(ho:o.op=.binOp .sub t x y yt)(hx:a.eval x=.int .i64 m)(hy:a.eval y=.int .i64 n)
 (hd:m-n=d)(h1:-9223372036854775808<=d)(h2:d<=9223372036854775807)(h:wpPi P ops Q S r (a.put o.dst (.int .i64 d)) w):wpPi P ops Q S ((o,3)::r) a w:=by
 subst hd;exact yK t x y yt m n hw ho hx hy h1 h2 h
theorem zF{P:Program}{ops:Array Oper}{Q:Exit->Act->World->Prop}{S:World->Prop}{o:Oper}{r:List (Oper×Nat)}{a:Act}{w:World}(t:TypeId)(x y:Operand)(yt:TypeId)(m n d:Int)(hw:Region.wanted o (yielded ops a.tmps)=true)(ho:o.op=.binOp .add t x y yt)(hx:a.eval x=.int .i64 m)(hy:a.eval y=.int .i64 n)
 (hd:m+n=d)(h1:-9223372036854775808<=d)(h2:d<=9223372036854775807)(h:wpPi P ops Q S r (a.put o.dst (.int .i64 d)) w):wpPi P ops Q S ((o,3)::r) a w:=by
 subst hd;exact wpPi_add t x y yt m n hw ho hx hy h1 h2 h
theorem run_indexAt_arr{P:Program}{t e:TypeId}{b off len n i:Nat}(hu:P.underlying t=some (.array len e))(hi:(P.info? e).map (·.size)=some n)(h:i<len)(w:World):
 (Instr.indexAt t (.pointer (some ⟨b,off,none⟩)) (.int .i64 i)).run P w=.ok (.pointer (some ⟨b,off+i*n,none⟩)) w:=by
 have hadd:(⟨b,off,none⟩:Addr).add (i*n)=⟨b,off+i*n,none⟩:=by unfold Addr.add;split<;>simp_all
 cases hq:P.info? e with
 |none=>simp[hq]at hi
 |some j=>
  have hs:j.size=n:=by simpa[hq]using hi
  simp[Instr.indexAt,Instr.sureAddr,asIntOf,run_underlying hu,h,sizeOf,typeInfo,hq,hs,hadd]
theorem qH{P:Program}{ops:Array Oper}{Q:Exit->Act->World->Prop}{S:World->Prop}{o:Oper}{r:List (Oper×Nat)}{a:Act}{w:World}(t:TypeId)(x y:Operand)(e:TypeId)(b off len n i:Nat)(hw:Region.wanted o (yielded ops a.tmps)=true)(ho:o.op=.indexAddr t x y)
 (hx:a.eval x=.pointer (some ⟨b,off,none⟩))(hy:a.eval y=.int .i64 i)(hu:P.underlying t=some (.array len e))(hi:(P.info? e).map (·.size)=some n)(hlt:i<len)
 (h:wpPi P ops Q S r (a.put o.dst (.pointer (some ⟨b,off+i*n,none⟩))) w):wpPi P ops Q S ((o,3)::r) a w:=
 qC hw (fun w=>by unfold execOp;simp only[ho,hx,hy,Sem.run_bind,run_indexAt_arr hu hi hlt,Result.andThen_ok,Sem.run_pure]) h
theorem exec_lss_str{P:Program}{w:World}{o:Oper}{a:Act}(t:TypeId)(x y:Operand)(yt:TypeId)(ho:o.op=.binOp .lss t x y yt)(m n:ByteArray)
 (hx:a.eval x=.string m)(hy:a.eval y=.string n)(b:Bool)(hb:Op.bytesLess m.toList n.toList=b):(execOp a.eval o).run P w=.ok (.value (.bool b)) w:=by
 subst hb;unfold execOp
 simp[ho,hx,hy,eqGuard,binOp,Op.stringOp]
theorem exec_neq_str{P:Program}{w:World}{o:Oper}{a:Act}(t:TypeId)(x y:Operand)(yt:TypeId)(ho:o.op=.binOp .neq t x y yt)(m n:ByteArray)
 (hx:a.eval x=.string m)(hy:a.eval y=.string n)(b:Bool)(hb:decide (m≠n)=b):(execOp a.eval o).run P w=.ok (.value (.bool b)) w:=by
 subst hb;unfold execOp
 have h:(!(m.toList==n.toList))=decide (m≠n):=by
  rw[<-beq_toListBytes,Bool.eq_iff_iff,decide_eq_true_iff];obtain⟨⟨x⟩⟩:=m;obtain⟨⟨y⟩⟩:=n
  show(!((⟨x⟩:Array UInt8)==⟨y⟩))=true↔_
  simp
 simp[ho,hx,hy,eqGuard,binOp,Op.stringOp,h]
theorem xZ{P:Program}{ops:Array Oper}{Q:Exit->Act->World->Prop}{S:World->Prop}{o:Oper}{r:List (Oper×Nat)}{a:Act}{w:World}(t:TypeId)(x y:Operand)(yt:TypeId)(m n d:Int)(hw:Region.wanted o (yielded ops a.tmps)=true)(ho:o.op=.binOp .mul t x y yt)(hx:a.eval x=.int .i64 m)(hy:a.eval y=.int .i64 n)
 (hd:m*n=d)(h1:-9223372036854775808<=d)(h2:d<=9223372036854775807)(h:wpPi P ops Q S r (a.put o.dst (.int .i64 d)) w):wpPi P ops Q S ((o,3)::r) a w:=by
 subst hd;exact wpPi_mul t x y yt m n hw ho hx hy h1 h2 h
end
section
open Go.Proofs.Tryz Go.Lib
end
section
open Go.RowKit Go.Proofs.Tryz Go.Lib
section
variable{P:Program}{w:World}{o:Oper}{a:Act}
theorem exec_conv_uint(t u:TypeId)(x:Operand)(m:Int)(ho:o.op=.convert t u x)(hx:a.eval x=.int .i64 m)(ht:(P.underlying t).isSome=true)(hu:P.underlying u=some (.int .u64))(v:Int)(hv:IntKind.u64.wrap m=v):
 (execOp a.eval o).run P w=.ok (.value (.int .u64 v)) w:=by
 subst hv;unfold execOp;simp only[ho,hx];have hk:P.intKind u=.u64:=by simp[Program.intKind,hu]
 have h1:=run_convert_int (P:=P) w t u .i64 m ht (by rw[hk];exact hu);rw[hk]at h1;rw[Sem.run_bind,h1]
 rfl
theorem exec_and64(t:TypeId)(x y:Operand)(yt:TypeId)(m n:Int)(ho:o.op=.binOp .and t x y yt)(hx:a.eval x=.int .u64 m)(hy:a.eval y=.int .u64 n)(v:Int)(hv:bits .and .u64 m n=v):(execOp a.eval o).run P w=.ok (.value (.int .u64 v)) w:=by
 subst hv;unfold execOp;simp only[ho,hx,hy]
 go_simp
theorem exec_sub64(t:TypeId)(x y:Operand)(yt:TypeId)(m n:Int)(ho:o.op=.binOp .sub t x y yt)(hx:a.eval x=.int .u64 m)(hy:a.eval y=.int .u64 n)(v:Int)(hv:IntKind.u64.wrap (m-n)=v):(execOp a.eval o).run P w=.ok (.value (.int .u64 v)) w:=by
 subst hv;unfold execOp;simp only[ho,hx,hy]
 go_simp
theorem exec_neg(t:TypeId)(x:Operand)(m:Int)(ho:o.op=.unOp .neg t x)(hx:a.eval x=.int .i64 m)(v:Int)(hv:IntKind.i64.wrap (0-m)=v):(execOp a.eval o).run P w=.ok (.value (.int .i64 v)) w:=by
 subst hv;unfold execOp;simp only[ho,hx]
 go_simp
end
theorem and31(n:Nat)(h:0<n/\n<32):bits .and .u64 ((18446744073709551616-n:Nat):Int) ((31:Nat):Int)=((32-n:Nat):Int):=by
 rw[u64_and_nat _ _ (by omega) (by omega)]
 congr 1
 rw[show(31:Nat)=2^5-1 by rfl,Nat.and_two_pow_sub_one_eq_mod];omega
theorem rotL_any(x:UInt32)(n:Nat)(h:0<n/\n<32)(w:World):Calls prog 299 #[wordV x,.int .i64 (-(n:Int))] w (RetE (wordV (rotr x n)) w):=by
 go_enter func299,ntmps299;go_upto_region 1 with(fail)
 have h1:IntKind.u64.wrap (-(n:Int))=((18446744073709551616-n:Nat):Int):=by simp[IntKind.wrap,IntKind.bits,IntKind.signed];omega
 have h2:=and31 n h;have h3:IntKind.u64.wrap ((32:Int)-((32-n:Nat):Int))=((n:Nat):Int):=by simp[IntKind.wrap,IntKind.bits,IntKind.signed];omega
 have H1:=hid h1;have H2:=hid h2;have H3:=hid h3;clear h1 h2 h3;refine wpR [3,3,3,3] ?_;simp only[stz]
 refine qC (v:=.int .u64 ((18446744073709551616-n:Nat):Int)) rfl (fun w'=>exec_conv_uint 3 337 _ _ rfl rfl (by kernel_rfl) underlying337 _ H1.out) ?_;simp only[nmz]
 refine qC (v:=.int .u64 ((32-n:Nat):Int)) rfl (fun w'=>exec_and64 _ _ _ _ ((18446744073709551616-n:Nat):Int) ((31:Nat):Int) rfl rfl rfl _ H2.out) ?_
 simp only[stz];go_upto_region 2 with(fail);refine wpR [3,3,3,3,3,3,3,3,3] ?_;simp only[stz];refine jV _ _ _ _ _ .u64 (32-n) rfl rfl rfl rfl (by omega) ?_
 simp only[stz];refine qC (v:=.int .u64 ((n:Nat):Int)) rfl (fun w'=>exec_sub64 _ _ _ _ (32:Int) ((32-n:Nat):Int) rfl rfl rfl _ H3.out) ?_;simp only[nmz]
 refine jU _ _ _ _ _ .u64 n rfl rfl rfl rfl (by omega) ?_;simp only[nmz];refine wpPi_or32 _ _ _ _ _ _ rfl rfl rfl rfl ?_;simp only[stz];go_wp2;go_ret;exact⟨rfl,rfl⟩
theorem yZ(x:UInt32)(n:Nat)(h:0<n/\n<32)(w:World):Calls prog 257 #[wordV x,.int .i64 (n:Int)] w (RetE (wordV (rotr x n)) w):=by
 go_enter func257,ntmps257;have hneg:IntKind.i64.wrap (0-(n:Int))=-(n:Int):=by simp[IntKind.wrap,IntKind.bits,IntKind.signed];omega
 have HN:=hid hneg;clear hneg;go_upto_region 1 with(fail);refine wpR [3,3,3,1,3] ?_;simp only[stz]
 refine qC (v:=.int .i64 (-(n:Int))) rfl (fun w'=>exec_neg _ _ (n:Int) rfl rfl _ HN.out) ?_;simp only[nmz];refine wpDo rfl ?_
 go_wp2_with (go_at_call 299;refine(rotL_any x n h _).mono ?_;rintro _ wq ⟨rfl,hw⟩;obtain rfl:=hw.symm);simp only[stz];go_wp2;go_ret;exact⟨rfl,rfl⟩
def rowW(b:List UInt8)(n:Nat):List UInt32:=xB b n++List.replicate (64-n) 0
theorem rowW_len(b:List UInt8){n:Nat}(h:n<=64):(rowW b n).length=64:=by simp[rowW,jT];omega
theorem rowW_at(b:List UInt8){n i:Nat}(h:n<=64)(hi:i<n):(qI (rowW b n))[i]?=some (wordV ((xB b n).getD i 0)):=by
 have hl:=jT b n;rw[jD (by rw[rowW_len b h];omega)]
 congr 2
 unfold rowW;rw[List.getElem_append_left (by omega),List.getD_eq_getElem?_getD,List.getElem?_eq_getElem (by omega)]
 rfl
theorem rowW_set(b:List UInt8){n:Nat}(h:n<64):(qI (rowW b n)).setIfInBounds n (wordV (if n<16 then wordAt b n else wordNext (xB b n) n))=qI (rowW b (n+1)):=by
 have hl:=jT b n
 apply Array.toList_inj.1
 unfold qI rowW;rw[Array.toList_setIfInBounds];simp only[List.map_append,List.map_replicate,xB];rw[List.set_append_right _ _ (by simp[hl])]
 simp only[List.length_map,hl,Nat.sub_self];rw[show 64-n=(64-(n+1))+1 by omega,List.replicate_succ,List.set_cons_zero]
 simp
def SpreadRel(b:List UInt8)(bw:Nat)(w0:World)(i:Value)(w:World):Prop:=∃n:Nat,n<=64/\i=.int .i64 n/\w.heap[bw]?=some (.cells (qI (rowW b n)) 340 (0,0))/\Mod NoB w0 w
theorem w64Z:(prog.info? 340).bind (·.zero)=some (.agg (qI (List.replicate 64 0))):=by kernel_rfl
theorem spread_any{own:Bool}{G:Nat->Prop}{v:Value}{b:List UInt8}{w:World}(hb:Sl own w G 1 ByteC v b)(hl:b.length=64):Calls prog 256 #[v] w (RetM (.agg (qI (xB b 64))) w):=by
 obtain⟨av,cap,rfl,hlen,hat⟩:=hb.at;obtain⟨bb,off,rfl,-,-,hcs⟩:=hat 0 (by omega)
 have hbyte:∀j,j<64->w.cell? ⟨bb,off+j*1,none⟩=some (byteV (b.getD j 0)):=fun j hj=>by
  obtain⟨cs,_,rfl,hc⟩:=hcs j (by omega);rw[List.getD_eq_getElem?_getD,List.getElem?_eq_getElem (by omega)];exact CellsAt.one.1 hc
 have hbb:bb<w.heap.size:=block_lt_of_cell (hbyte 0 (by omega));have HB:=hid hbyte;clear hat hcs hb hbyte;go_enter func256,ntmps256;go_upto_region 0 with(fail)
 refine wpR [1] ?_;simp only[stz];refine wpD (qN 340 _ (by rfl) w64Z (fun w1 hB1 hm1 hs1=>?_))
 replace hB1:w1.heap[w.heap.size]?=some (.cells (qI (List.replicate 64 0)) 340 (0,0)):=hB1;simp only[stz];go_wp2
 go_loopw [6] (SpreadRel b w.heap.size w) (fun i _=>64-(intOf i).toNat)
 case atStart=>exact⟨0,by omega,rfl,by simpa[rowW,xB]using hB1,hm1⟩
 case round=>
  rename World=>wr
  clear hB1 hm1 hs1;obtain⟨n,hn,rfl,hrow,hM⟩:=hrel;have hbne:¬bb=w.heap.size:=by omega
  by_cases hlt:n<64
  ·have hz:(n:Int)<64:=by omega
   have hsz:=qE (rowW b n);rw[rowW_len b hn]at hsz;have hset:=rowW_set b hlt
   by_cases h16:n<16
   ·have hz2:(n:Int)<16:=by omega
    rw[if_pos h16]at hset;have hbw:∀j,j<64->wr.cell? ⟨bb,off+j*1,none⟩=some (byteV (b.getD j 0)):=fun j hj=>hM.cell id (HB.out j hj);have HBW:=hid hbw
    have HSET:=hid hset;have h0:4*n<b.length:=by omega
    have h1:4*n+1<b.length:=by omega
    have h2:4*n+2<b.length:=by omega
    have h3:4*n+3<b.length:=by omega
    clear hbw hset HB;go_upto_region 5 with(fail);have hS:Mod (fun k=>k=w.heap.size) wr wr.drew:=(Mod.refl _ _).drew
    refine wpRZ [3,3,3,3,3,0,3,3,3,3,3,3,3,0,3,3,3,3,3,3,3,3,0,3,3,3,3,3,3,3,3,0,3,3,3,1] [] (fun w'=>Mod (fun k=>k=w.heap.size) wr w') hS ?_
    simp only[stz];refine xZ _ _ _ _ 4 (n:Int) ((4*n:Nat):Int) rfl rfl rfl rfl (by omega) (by omega) (by omega) ?_;simp only[nmz];refine wpPI underlying53 1 h0 ?_
    simp only[nmz];refine wpLd 5 bb (off+4*n*1) (fun w' hS=>hS.cell hbne (HBW.out (4*n) (by omega))) underlying5 ?_;simp only[nmz]
    refine qC rfl (fun w'=>xH _ _ _ _ rfl rfl (by kernel_rfl) underlying301) ?_;simp only[nmz]
    refine jV _ _ _ _ _ .u64 24 rfl rfl rfl rfl (by omega) ?_;simp only[stz]
    refine xZ _ _ _ _ 4 (n:Int) ((4*n:Nat):Int) rfl rfl rfl rfl (by omega) (by omega) (by omega) ?_;simp only[nmz]
    refine zF _ _ _ _ ((4*n:Nat):Int) 1 ((4*n+1:Nat):Int) rfl rfl rfl rfl (by omega) (by omega) (by omega) ?_;simp only[nmz];refine wpPI underlying53 1 h1 ?_
    simp only[nmz];refine wpLd 5 bb (off+(4*n+1)*1) (fun w' hS=>hS.cell hbne (HBW.out (4*n+1) (by omega))) underlying5 ?_;simp only[nmz]
    refine qC rfl (fun w'=>xH _ _ _ _ rfl rfl (by kernel_rfl) underlying301) ?_;simp only[nmz]
    refine jV _ _ _ _ _ .u64 16 rfl rfl rfl rfl (by omega) ?_;simp only[nmz];refine wpPi_or32 _ _ _ _ _ _ rfl rfl rfl rfl ?_;simp only[stz]
    refine xZ _ _ _ _ 4 (n:Int) ((4*n:Nat):Int) rfl rfl rfl rfl (by omega) (by omega) (by omega) ?_;simp only[nmz]
    refine zF _ _ _ _ ((4*n:Nat):Int) 2 ((4*n+2:Nat):Int) rfl rfl rfl rfl (by omega) (by omega) (by omega) ?_;simp only[nmz];refine wpPI underlying53 1 h2 ?_
    simp only[nmz];refine wpLd 5 bb (off+(4*n+2)*1) (fun w' hS=>hS.cell hbne (HBW.out (4*n+2) (by omega))) underlying5 ?_;simp only[nmz]
    refine qC rfl (fun w'=>xH _ _ _ _ rfl rfl (by kernel_rfl) underlying301) ?_;simp only[nmz]
    refine jV _ _ _ _ _ .u64 8 rfl rfl rfl rfl (by omega) ?_;simp only[nmz];refine wpPi_or32 _ _ _ _ _ _ rfl rfl rfl rfl ?_;simp only[stz]
    refine xZ _ _ _ _ 4 (n:Int) ((4*n:Nat):Int) rfl rfl rfl rfl (by omega) (by omega) (by omega) ?_;simp only[nmz]
    refine zF _ _ _ _ ((4*n:Nat):Int) 3 ((4*n+3:Nat):Int) rfl rfl rfl rfl (by omega) (by omega) (by omega) ?_;simp only[nmz];refine wpPI underlying53 1 h3 ?_
    simp only[nmz];refine wpLd 5 bb (off+(4*n+3)*1) (fun w' hS=>hS.cell hbne (HBW.out (4*n+3) (by omega))) underlying5 ?_;simp only[nmz]
    refine qC rfl (fun w'=>xH _ _ _ _ rfl rfl (by kernel_rfl) underlying301) ?_;simp only[nmz];refine wpPi_or32 _ _ _ _ _ _ rfl rfl rfl rfl ?_
    simp only[nmz];refine qH _ _ _ _ _ _ _ _ rfl rfl rfl rfl underlying340 (n:=1) (by kernel_rfl) hlt ?_;simp only[nmz];refine qL rfl (fun K hK=>?_)
    refine qR 301 _ _ w.heap.size (n*1) (wordV (wordAt b n)) (by rfl) (by rfl) (by rfl) rfl (by kernel_rfl) _ _ (show wr.drew.heap[w.heap.size]?=_ from hrow) (by rw[hsz];omega) (fun w2 hB2 hm2=>?_)
    rw[Nat.mul_one,HSET.out]at hB2;replace hS:=hS.trans hm2 (fun _ _ h=>h);refine hK _ _ hS ?_;clear hK K;simp only[stz]
    have hM2:Mod NoB w w2:=hM.transB hS (Nat.le_refl _);clear hM hS hm2 hrow;go_wp2
    go_roundw
    case rel=>exact⟨n+1,by omega,by go_num,hB2,hM2⟩
    case measure=>simp[intOf];omega
   ·have hz2:¬(n:Int)<16:=by omega
    rw[if_neg h16]at hset;have hwd:∀i,i<n->(qI (rowW b n))[i]?=some (wordV ((xB b n).getD i 0)):=fun i hi=>rowW_at b hn hi;have HW:=hid hwd
    have HSET:=hid hset;have hk15:n-15<64:=by omega
    have hk2:n-2<64:=by omega
    have hk16:n-16<64:=by omega
    have hk7:n-7<64:=by omega
    clear hwd hset HB;go_upto_region 6 with(fail);have hS:Mod NoB wr wr.drew:=(Mod.refl _ _).drew
    refine wpRZ [3,3,3,0,0,3,3,3,0,0,3,3,3,3,0,3,3,3] [] (fun w'=>Mod NoB wr w') hS ?_;simp only[stz]
    refine zJ _ _ _ _ (n:Int) 15 ((n-15:Nat):Int) rfl rfl rfl rfl (by omega) (by omega) (by omega) ?_;simp only[nmz]
    refine qH _ _ _ _ _ _ _ _ rfl rfl rfl rfl underlying340 (n:=1) (by kernel_rfl) hk15 ?_;simp only[nmz]
    refine wpLd 301 w.heap.size ((n-15)*1) (fun w' hS=>by rw[cell_of_row _ _ _ _ _ _ (hS.obj id hrow),Nat.mul_one];exact HW.out (n-15) (by omega)) underlying301 ?_
    simp only[nmz];refine yT (f:=257) rfl ?_ (fun w' hS=>yZ ((xB b n).getD (n-15) 0) 7 (by omega) w') ?_
    ·exact zX 257 _ _ rfl _ func257 rfl (by kernel_rfl) _ rfl
    simp only[stz];refine zJ _ _ _ _ (n:Int) 15 ((n-15:Nat):Int) rfl rfl rfl rfl (by omega) (by omega) (by omega) ?_;simp only[nmz]
    refine qH _ _ _ _ _ _ _ _ rfl rfl rfl rfl underlying340 (n:=1) (by kernel_rfl) hk15 ?_;simp only[nmz]
    refine wpLd 301 w.heap.size ((n-15)*1) (fun w' hS=>by rw[cell_of_row _ _ _ _ _ _ (hS.obj id hrow),Nat.mul_one];exact HW.out (n-15) (by omega)) underlying301 ?_
    simp only[nmz];refine yT (f:=257) rfl ?_ (fun w' hS=>yZ ((xB b n).getD (n-15) 0) 18 (by omega) w') ?_
    ·exact zX 257 _ _ rfl _ func257 rfl (by kernel_rfl) _ rfl
    simp only[nmz];refine zQ _ _ _ _ _ _ rfl rfl rfl rfl ?_;simp only[stz]
    refine zJ _ _ _ _ (n:Int) 15 ((n-15:Nat):Int) rfl rfl rfl rfl (by omega) (by omega) (by omega) ?_;simp only[nmz]
    refine qH _ _ _ _ _ _ _ _ rfl rfl rfl rfl underlying340 (n:=1) (by kernel_rfl) hk15 ?_;simp only[nmz]
    refine wpLd 301 w.heap.size ((n-15)*1) (fun w' hS=>by rw[cell_of_row _ _ _ _ _ _ (hS.obj id hrow),Nat.mul_one];exact HW.out (n-15) (by omega)) underlying301 ?_
    simp only[nmz];refine jU _ _ _ _ _ .u64 3 rfl rfl rfl rfl (by omega) ?_;simp only[nmz];refine zQ _ _ _ _ _ _ rfl rfl rfl rfl ?_;simp only[stz]
    replace hM:=hM.trans0 hS;replace hrow:=hS.obj id hrow;clear hS;generalize wr.drew=wy at*;go_upto_region 7 with(fail)
    have hS:Mod NoB wy wy.drew:=(Mod.refl _ _).drew;refine wpRZ [3,3,3,0,0,3,3,3,0,0,3,3,3,3,0,3,3,3] [] (fun w'=>Mod NoB wy w') hS ?_;simp only[stz]
    refine zJ _ _ _ _ (n:Int) 2 ((n-2:Nat):Int) rfl rfl rfl rfl (by omega) (by omega) (by omega) ?_;simp only[nmz]
    refine qH _ _ _ _ _ _ _ _ rfl rfl rfl rfl underlying340 (n:=1) (by kernel_rfl) hk2 ?_;simp only[nmz]
    refine wpLd 301 w.heap.size ((n-2)*1) (fun w' hS=>by rw[cell_of_row _ _ _ _ _ _ (hS.obj id hrow),Nat.mul_one];exact HW.out (n-2) (by omega)) underlying301 ?_
    simp only[nmz];refine yT (f:=257) rfl ?_ (fun w' hS=>yZ ((xB b n).getD (n-2) 0) 17 (by omega) w') ?_
    ·exact zX 257 _ _ rfl _ func257 rfl (by kernel_rfl) _ rfl
    simp only[stz];refine zJ _ _ _ _ (n:Int) 2 ((n-2:Nat):Int) rfl rfl rfl rfl (by omega) (by omega) (by omega) ?_;simp only[nmz]
    refine qH _ _ _ _ _ _ _ _ rfl rfl rfl rfl underlying340 (n:=1) (by kernel_rfl) hk2 ?_;simp only[nmz]
    refine wpLd 301 w.heap.size ((n-2)*1) (fun w' hS=>by rw[cell_of_row _ _ _ _ _ _ (hS.obj id hrow),Nat.mul_one];exact HW.out (n-2) (by omega)) underlying301 ?_
    simp only[nmz];refine yT (f:=257) rfl ?_ (fun w' hS=>yZ ((xB b n).getD (n-2) 0) 19 (by omega) w') ?_
    ·exact zX 257 _ _ rfl _ func257 rfl (by kernel_rfl) _ rfl
    simp only[nmz];refine zQ _ _ _ _ _ _ rfl rfl rfl rfl ?_;simp only[stz]
    refine zJ _ _ _ _ (n:Int) 2 ((n-2:Nat):Int) rfl rfl rfl rfl (by omega) (by omega) (by omega) ?_;simp only[nmz]
    refine qH _ _ _ _ _ _ _ _ rfl rfl rfl rfl underlying340 (n:=1) (by kernel_rfl) hk2 ?_;simp only[nmz]
    refine wpLd 301 w.heap.size ((n-2)*1) (fun w' hS=>by rw[cell_of_row _ _ _ _ _ _ (hS.obj id hrow),Nat.mul_one];exact HW.out (n-2) (by omega)) underlying301 ?_
    simp only[nmz];refine jU _ _ _ _ _ .u64 10 rfl rfl rfl rfl (by omega) ?_;simp only[nmz];refine zQ _ _ _ _ _ _ rfl rfl rfl rfl ?_;simp only[stz]
    replace hM:=hM.trans0 hS;replace hrow:=hS.obj id hrow;clear hS;generalize wy.drew=wz at*;go_upto_region 8 with(fail)
    have hS:Mod NoB wz wz.drew:=(Mod.refl _ _).drew;refine wpRZ [3,3,3,3,0,3,3,3,3,3,0,3,3,3,3,2] [15] (fun w'=>Mod NoB wz w') hS ?_;simp only[stz]
    refine zJ _ _ _ _ (n:Int) 16 ((n-16:Nat):Int) rfl rfl rfl rfl (by omega) (by omega) (by omega) ?_;simp only[nmz]
    refine qH _ _ _ _ _ _ _ _ rfl rfl rfl rfl underlying340 (n:=1) (by kernel_rfl) hk16 ?_;simp only[nmz]
    refine wpLd 301 w.heap.size ((n-16)*1) (fun w' hS=>by rw[cell_of_row _ _ _ _ _ _ (hS.obj id hrow),Nat.mul_one];exact HW.out (n-16) (by omega)) underlying301 ?_
    simp only[stz];refine zR _ _ _ _ _ _ rfl rfl rfl rfl ?_;simp only[stz]
    refine zJ _ _ _ _ (n:Int) 7 ((n-7:Nat):Int) rfl rfl rfl rfl (by omega) (by omega) (by omega) ?_;simp only[nmz]
    refine qH _ _ _ _ _ _ _ _ rfl rfl rfl rfl underlying340 (n:=1) (by kernel_rfl) hk7 ?_;simp only[nmz]
    refine wpLd 301 w.heap.size ((n-7)*1) (fun w' hS=>by rw[cell_of_row _ _ _ _ _ _ (hS.obj id hrow),Nat.mul_one];exact HW.out (n-7) (by omega)) underlying301 ?_
    simp only[nmz];refine zR _ _ _ _ _ _ rfl rfl rfl rfl ?_;simp only[stz];refine zR _ _ _ _ _ _ rfl rfl rfl rfl ?_;simp only[nmz]
    refine qH _ _ _ _ _ _ _ _ rfl rfl rfl rfl underlying340 (n:=1) (by kernel_rfl) hlt ?_;simp only[nmz];refine zD rfl (fun K hK=>?_)
    refine qR 301 _ _ w.heap.size (n*1) (wordV (wordNext (xB b n) n)) (by rfl) (by rfl) (by rfl) rfl (by kernel_rfl) _ _ (show wz.drew.heap[w.heap.size]?=_ from hrow) (by rw[hsz];omega) (fun w2 hB2 hm2=>?_)
    rw[Nat.mul_one,HSET.out]at hB2;refine hK _ _ ?_;clear hK K;simp only[stz];have hM2:Mod NoB w w2:=(hM.trans0 hS).transB hm2 (Nat.le_refl _);clear hM hS hm2 hrow;go_wp2
    go_roundw
    case rel=>exact⟨n+1,by omega,by go_num,hB2,hM2⟩
    case measure=>simp[intOf];omega
  ·have hz:¬(n:Int)<64:=by omega
   obtain rfl:n=64:=by omega
   have e:rowW b 64=xB b 64:=by simp[rowW]
   rw[e]at hrow;have hsz:(qI (xB b 64)).size=64:=by rw[qE,jT]
   obtain⟨sp,hsp⟩:∃sp,xB b 64=sp:=⟨_,rfl⟩;rw[hsp]at hrow hsz;have HSP:=hid hsp;clear hsp e;go_upto_region 10 with(fail);refine wpR [1,1] ?_;simp only[stz]
   refine wpXA 340 w.heap.size 0 (qI (sp)) (CellsAt.whole hrow) underlying340 64 hsz trivial ?_;try simp only[nmz]
   refine wpD (qF 340 _ _ w.heap.size 0 (qI (sp)) (by rfl) (by rfl) (by rfl) (zT _) 64 (by kernel_rfl) hsz _ _ hrow (by omega) (fun w2 hB2 hm2=>?_))
   rw[qD (by rfl)]at hB2;simp only[stz];go_wp2
   refine bodyPost_ret (results_cell_row rfl _ _ w.heap.size _ _ _ _ (by rfl) hB2 underlying340 rfl (by rw[hsz];kernel_rfl)) rfl ?_
   exact⟨by rw[HSP.out],hM.transB hm2 (Nat.le_refl _)⟩
section
variable{P:Program}{ops:Array Oper}{Q:Exit->Act->World->Prop}{S:World->Prop}{md:Region.Mode}
def piPre(md:Region.Mode)(ops:Array Oper)(tl:List Nat):List (Nat×Nat)->Array Bool->Option (Array Bool)
 | [],listed=>some listed
 |(i,0)::r,listed=>if i<ops.size&&Region.free md ops listed i&&(Region.ready md ops listed).contains i&&waitsAll md ops tl i&&jP tl listed then piPre md ops tl r (listed.setIfInBounds i true)else none
 |(_,1)::_,_=>none
 |(_,2)::_,_=>none
 |(i,_+3)::r,listed=>if i<ops.size&&Region.free md ops listed i&&(Region.ready md ops listed).contains i&& !tl.contains i then piPre md ops tl r (listed.setIfInBounds i true)else none
theorem wpAnyG_of_pre{tl:List Nat}(hs:Region.noSelect ops=true)(hQ:yO Q){Q1:Exit->Act->World->Prop}{L:Array Bool}{fuel:Nat}(k:∀a w,(jP tl L=true->S w)->Q1 .normal a w->wpAnyG P md ops Q S tl fuel L a w):
 ∀(l:List (Nat×Nat))(listed:Array Bool)(a:Act)(w:World),piPre md ops tl l listed=some L->(jP tl listed=true->S w)->wpPi P ops Q1 S (l.map fun x=>(ops.getD x.1 default,x.2)) a w->
  wpAnyG P md ops Q S tl (l.length+fuel) listed a w
 | [],listed,a,w,hp,hS,h=>by
  simp only[piPre,Option.some.injEq]at hp;subst hp
  simpa using k a w hS h
 |(i,0)::r,listed,a,w,hp,hS,h=>by
  simp only[piPre]at hp
  split at hp
  ·rename_i hc
   simp only[Bool.and_eq_true,decide_eq_true_eq]at hc;obtain⟨⟨⟨⟨hi,hf⟩,hr⟩,hwa⟩,hn⟩:=hc;obtain⟨v,hy,h⟩:=h
   have hi':ops[i]?=some (ops.getD i default):=by simp[Array.getD,hi]
   rw[List.length_cons,Nat.succ_add]
   exact wpAnyG_first hi' (Region.noSelect_spec hs) hQ hwa (r.length+fuel) listed a w (Region.free_spec hi' hf) (by simpa using hr) hy (hS hn) hn
    (wpAnyG_of_pre hs hQ k r _ _ w hp (fun _=>hS hn) h)
  ·cases hp
 |(_,1)::_,_,_,_,hp,_,_=>by simp[piPre]at hp
 |(_,2)::_,_,_,_,hp,_,_=>by simp[piPre]at hp
 |(i,n+3)::r,listed,a,w,hp,hS,h=>by
  simp only[piPre]at hp
  split at hp
  ·rename_i hc
   simp only[Bool.and_eq_true,decide_eq_true_eq,Bool.not_eq_true']at hc;obtain⟨⟨⟨hi,hf⟩,hr⟩,hit⟩:=hc;obtain⟨v,hy,h⟩:=h;have hit':i∉tl:=by simpa using hit
   have hi':ops[i]?=some (ops.getD i default):=by simp[Array.getD,hi]
   rw[List.length_cons,Nat.succ_add]
   refine wpAnyG_free hi' (Region.noSelect_spec hs) hQ hit' (r.length+fuel) listed a w (Region.free_spec hi' hf) (by simpa using hr) hy hS
    (wpAnyG_of_pre hs hQ k r _ _ w hp (fun hn=>hS ?_) h)
   simp only[jP,List.all_eq_true,Bool.not_eq_true']at hn |-;intro t ht;have:=hn t ht
   rwa[getD_set_ne false (by rintro rfl;exact hit' ht)]at this
  ·cases hp
def treeOk(md:Region.Mode)(ops:Array Oper)(tl:List Nat)(p2:List (Nat×Nat)):Nat->Array Bool->Bool
 |0,listed=>piOk md ops tl p2 listed
 |n+1,listed=> !(Region.ready md ops listed).isEmpty&&(Region.ready md ops listed).all fun i=>decide (i<ops.size)&& !tl.contains i&&(ops.getD i default).guard.isNone&&treeOk md ops tl p2 n (listed.setIfInBounds i true)
def wpTree(P:Program)(md:Region.Mode)(ops:Array Oper)(Q:Exit->Act->World->Prop)(S:World->Prop)(K:Act->World->Prop):Nat->Array Bool->Act->World->Prop
 |0,_,a,w=>K a w
 |n+1,listed,a,w=>∀i∈Region.ready md ops listed,(ops.getD i default).wp P a w (fun a' w'=>S w'/\wpTree P md ops Q S K n (listed.setIfInBounds i true) a' w') Q
theorem wpAnyG_of_tree{tl:List Nat}(hs:Region.noSelect ops=true)(hQ:yO Q){p2:List (Nat×Nat)}:
 ∀(n:Nat)(listed:Array Bool)(a:Act)(w:World),treeOk md ops tl p2 n listed=true->(jP tl listed=true->S w)->wpTree P md ops Q S (wpPi P ops Q S (p2.map fun x=>(ops.getD x.1 default,x.2))) n listed a w->
  wpAnyG P md ops Q S tl (n+p2.length) listed a w
 |0,listed,a,w,hp,hS,h=>by
  rw[Nat.zero_add];exact jW hs hQ S p2 listed a w hp hS h
 |n+1,listed,a,w,hp,hS,h=>by
  simp only[treeOk,Bool.and_eq_true,Bool.not_eq_true',List.all_eq_true]at hp;rw[Nat.succ_add];refine⟨fun h0=>(by rw[h0]at hp;simp at hp),fun i hi=>?_⟩
  have h1:=hp.2 i hi;simp only[decide_eq_true_eq]at h1;obtain⟨⟨⟨hsz,hit⟩,hg⟩,hp'⟩:=h1;have hi':ops[i]?=some (ops.getD i default):=by simp[Array.getD,hsz]
  have hw:=h i hi;unfold wpOp;generalize ops.getD i default=oi at hi' hw hg;simp only[hi']
  have hwant:Region.wanted oi (yielded ops a.tmps)=true:=by
   unfold Region.wanted
   cases hq:oi.guard with
   |none=>rfl
   |some x=>rw[hq]at hg;cases hg
  rw[if_pos hwant];exact .inl (Oper.wp_mono (fun a' w' h'=>⟨fun _=>h'.1,wpAnyG_of_tree hs hQ n _ a' w' hp' (fun _=>h'.1) h'.2⟩) hw)
def treeQ(P:Program)(md:Region.Mode)(ops:Array Oper)(Q:Exit->Act->World->Prop)(S:World->Prop)(p2:List (Oper×Nat))(n:Nat)(L:Array Bool):Exit->Act->World->Prop
 | .normal,a,w=>wpTree P md ops Q S (wpPi P ops Q S p2) n L a w
 |_,_,_=>True
theorem yV{id:Nat}{a:Act}{w:World}{l:List Oper}(p1:List (Nat×Nat))(n:Nat)(p2:List (Nat×Nat))(tl:List Nat)(S:World->Prop)(L:Array Bool)(hm:P.follows .mixedOrders=true)(hs:Region.noSelect l.toArray=true)
 (hl:p1.length+(n+p2.length)=l.toArray.size)(h1:piPre .any l.toArray tl p1 (Array.replicate l.toArray.size false)=some L)(h2:treeOk .any l.toArray tl p2 n L=true)(hQ:yO Q)(hS:S w.drew)
 (h:wpPi P l.toArray (treeQ P .any l.toArray Q S (p2.map fun x=>(l.getD x.1 default,x.2)) n L) S (p1.map fun x=>(l.getD x.1 default,x.2)) a w.drew):(Code.region id l.toArray true).wp P Q a w:=
 wp_region_any hm (by
  have e:∀p:List (Nat×Nat),(p.map fun x=>((l.toArray).getD x.1 default,x.2))=(p.map fun x=>(l.getD x.1 default,x.2)):=fun p=>by
   apply List.map_congr_left;intro x _;simp[Array.getD_eq_getD_getElem?,List.getD]
  have H:=wpAny_of_G _ _ _ _ (wpAnyG_of_pre (md:=.any) hs hQ (L:=L) (fuel:=n+p2.length) (Q1:=treeQ P .any l.toArray Q S (p2.map fun x=>(l.getD x.1 default,x.2)) n L)
   (fun a w hS h=>wpAnyG_of_tree hs hQ n L a w h2 hS (by rw[e];exact h)) p1 _ a w.drew h1 (fun _=>hS) (by rw[e];exact h))
  rw[hl]at H
  exact H)
theorem xK{K:Act->World->Prop}{L:Array Bool}{a:Act}{w:World}(h:K a w):wpTree P md ops Q S K 0 L a w:=h
theorem qU{K:Act->World->Prop}{n:Nat}{L:Array Bool}{a:Act}{w:World}(rs:List Nat)(hr:Region.ready md ops L=rs)
 (h:∀i∈rs,∀K',(∀a' w',S w'->wpTree P md ops Q S K n (L.setIfInBounds i true) a' w'->K' a' w')->(ops.getD i default).wp P a w K' Q):wpTree P md ops Q S K (n+1) L a w:=by
 intro i hi;rw[hr]at hi;exact h i hi _ fun a' w' h1 h2=>⟨h1,h2⟩
theorem wp_putC{i j:Nat}{oi oj:Oper}{v:Value}{S0:World->Prop}(hap:oi.apart ops oj=true)(hsi:∀cs b,oi.op≠.select cs b)(hsj:∀cs b,oj.op≠.select cs b)
 (hQ:∀c a w,Q (.panic c) (a.put oi.dst v) w->Q (.panic c) a w){K:Act->World->Prop}{a:Act}{w:World}(hy:YieldsC P ops S0 oi v a)(h:oj.wp P (a.put oi.dst v) w K Q):
 oj.wp P a w (fun a' w'=>YieldsC P ops S0 oi v a'/\K (a'.put oi.dst v) w') Q:=by
 obtain⟨h1,h2,h3⟩:=Oper.apart_spec hap
 have keep:∀(a:Act),YieldsC P ops S0 oi v a->∀u,YieldsC P ops S0 oi v (a.put oj.dst u):=fun a hy u=>
  hy.of_same (execOp_put oi hsi a oj.dst u h3) (wanted_put oi a oj.dst u h3)
 have keepD:∀d,YieldsC P ops S0 oi v { a with defers:=d::a.defers }:=fun d=>hy.of_same rfl rfl;unfold Oper.wp at*;rw[execOp_put oj hsj a oi.dst v h1]at h
 generalize (execOp a.eval oj).run P w=r at*
 cases r with
 |ok n w'=>
  cases n<;>simp only[Oper.upon]at h |-
  case value u=>exact⟨keep a hy u,by rw[<-Act.put_comm a v u h2];exact h⟩
  case skip=>exact⟨keep a hy _,by rw[<-Act.put_comm a v undef h2];exact h⟩
  case defer d=>
   refine⟨keep _ (keepD d) _,?_⟩;rw[<-Act.put_comm _ v undef h2,<-Act.put_defers];exact h
  case enter f args=>
   refine Calls.mono h fun e w'' he=>?_
   cases e with
   |returned u=>exact⟨keep a hy u,by rw[<-Act.put_comm a v u h2];exact he⟩
   |panicked c=>exact hQ _ _ _ he
   |outgrown=>exact he
  case row row args=>exact Rows.mono h fun u w'' he=>⟨keep a hy u,by rw[<-Act.put_comm a v u h2];exact he⟩
 |halt x w'=>
  cases x<;>simp only[Oper.upon]at h |-
  case panic u=>exact hQ _ _ _ h
def lastOk(md:Region.Mode)(ops:Array Oper)(i:Nat):Nat->Array Bool->Bool
 |0,L=>decide (Region.ready md ops L=[i])
 |n+1,L=>(Region.ready md ops L).all fun j=>j==i||lastOk md ops i n (L.setIfInBounds j true)
theorem wpTree_free{i:Nat}{oi:Oper}{v:Value}{K:Act->World->Prop}(hi:ops[i]?=some oi)(hsel:∀(j:Nat)(o:Oper) cs b,ops[j]?=some o->o.op≠.select cs b)(hQ:yO Q):
 ∀(n:Nat)(L:Array Bool)(a:Act)(w:World),
  (∀j oj,ops[j]?=some oj->j≠i->L.getD j true=false->(∀e∈oj.after,Region.binds md e=true->e.on≠i)->oi.apart ops oj=true)->
  i∈Region.ready md ops L->lastOk md ops i n L=true->oi.guard=none->YieldsC P ops (fun _=>True) oi v a->S w->
  wpTree P md ops Q S K n (L.setIfInBounds i true) (a.put oi.dst v) w->wpTree P md ops Q S K (n+1) L a w:=by
 have hself:∀(n:Nat)(L:Array Bool)(a:Act)(w:World),oi.guard=none->YieldsC P ops (fun _=>True) oi v a->S w->wpTree P md ops Q S K n (L.setIfInBounds i true) (a.put oi.dst v) w->
  (ops.getD i default).wp P a w (fun a' w'=>S w'/\wpTree P md ops Q S K n (L.setIfInBounds i true) a' w') Q:=by
  intro n L a w hg hy hS H;have e:ops.getD i default=oi:=by rw[Array.getD_eq_getD_getElem?,hi];rfl
  rw[e]
  rcases hy with⟨_,hv⟩|⟨hw,_⟩
  ·exact(hv w trivial).wp ⟨hS,H⟩
  ·unfold Region.wanted at hw
   rw[hg]at hw
   cases hw
 intro n
 induction n with
 |zero=>
  intro L a w _ hr hlast hg hy hS H j hj;have h1:Region.ready md ops L=[i]:=of_decide_eq_true hlast;rw[h1]at hj;obtain rfl:j=i:=by simpa using hj
  exact hself 0 L a w hg hy hS H
 |succ n ih=>
  intro L a w hfree hr hlast hg hy hS H j hj
  by_cases hji:j=i
  ·subst hji;exact hself _ L a w hg hy hS H
  ·have h1:=H j (ready_mono hj hji)
   obtain⟨hjun,oj,hoj,hall⟩:=mem_ready.1 hj
   have hnot:∀e∈oj.after,Region.binds md e=true->e.on≠i:=fun e he hb heq=>by
    have h1:=hall e he hb;have h0:=(mem_ready.1 hr).1;rw[heq]at h1
    rcases Nat.lt_or_ge i L.size with h'|h'
    ·simp[h']at h0 h1;rw[h0]at h1;cases h1
    ·simp[Array.getElem?_eq_none h']at h1
   have ej:ops.getD j default=oj:=by rw[Array.getD_eq_getD_getElem?,hoj];rfl
   rw[ej]at h1 |-
   have h2:=wp_putC (i:=i) (j:=j) (hfree j oj hoj hji hjun hnot) (fun cs b=>hsel i oi cs b hi) (fun cs b=>hsel j oj cs b hoj) (fun c a w hq=>hQ _ _ _ _ (by simp[put_defers]) hq) hy h1
   have hfree':∀k ok,ops[k]?=some ok->k≠i->(L.setIfInBounds j true).getD k true=false->
    (∀e∈ok.after,Region.binds md e=true->e.on≠i)->oi.apart ops ok=true:=fun k ok hk hki hun hno=>by
    refine hfree k ok hk hki ?_ hno
    by_cases hjk:j=k
    ·subst hjk;exact hjun
    ·rw[getD_set_ne true hjk]at hun;exact hun
   have hl2:lastOk md ops i n (L.setIfInBounds j true)=true:=by
    simp only[lastOk,List.all_eq_true,Bool.or_eq_true,beq_iff_eq]at hlast;exact(hlast j hj).resolve_left hji
   refine Oper.wp_mono (fun a' w' h3=>⟨h3.2.1,ih (L.setIfInBounds j true) a' w' hfree' (ready_mono hr (Ne.symm hji)) hl2 hg h3.1 h3.2.1 ?_⟩) h2
   rw[Array.setIfInBounds_comm _ _ hji];exact h3.2.2
def takeOk(md:Region.Mode)(ops:Array Oper)(i n:Nat)(L:Array Bool):Bool:=Region.noSelect ops&&decide (i<ops.size)&&Region.free md ops L i&&(Region.ready md ops L).contains i&&lastOk md ops i n L&&(ops.getD i default).guard.isNone
theorem zB(i:Nat)(v:Value){K:Act->World->Prop}{n:Nat}{L:Array Bool}{a:Act}{w:World}(hc:takeOk md ops i n L=true)(hQ:yO Q)
 (hv:∀w,(execOp a.eval (ops.getD i default)).run P w=.ok (.value v) w)(hS:S w)(h:wpTree P md ops Q S K n (L.setIfInBounds i true) (a.put (ops.getD i default).dst v) w):wpTree P md ops Q S K (n+1) L a w:=by
 simp only[takeOk,Bool.and_eq_true,decide_eq_true_eq,Option.isNone_iff_eq_none]at hc;obtain⟨⟨⟨⟨⟨hs,hi⟩,hf⟩,hr⟩,hl⟩,hg⟩:=hc
 have hi':ops[i]?=some (ops.getD i default):=by simp[Array.getD,hi]
 refine wpTree_free hi' (Region.noSelect_spec hs) hQ n L a w (Region.free_spec hi' hf) (by simpa using hr) hl hg (.inl ⟨?_,fun w _=>.inl (hv w)⟩) hS h;unfold Region.wanted
 rw[hg]
end
theorem wordsZ:(prog.info? 328).bind (·.zero)=some (.agg (qI (List.replicate 8 0))):=by kernel_rfl
theorem keys_any(w:World):Calls prog 255 #[] w (RetM (.agg (qI shaKeys)) w):=by
 go_enter func255,ntmps255;go_upto_region 0 with(fail);refine wpR [1] ?_;simp only[stz];refine wpD (qN 340 _ (by rfl) w64Z (fun w1 hB1 hm1 hs1=>?_))
 replace hB1:w1.heap[w.heap.size]?=some (.cells (qI (List.replicate 64 0)) 340 (0,0)):=hB1;simp only[stz];go_upto_region 1 with(fail);refine wpR [1,1] ?_
 simp only[stz];refine wpX rfl (qO 340 _ _ (qI shaKeys) (by rfl) (by rfl) (by kernel_rfl)) trivial ?_;try simp only[nmz]
 refine wpD (qF 340 _ _ w.heap.size 0 (qI shaKeys) (by rfl) (by rfl) (by rfl) (zT _) 64 (by kernel_rfl) (by kernel_rfl) _ _ hB1 (by rw[qE,qE];simp[shaKeys]) (fun w2 hB2 hm2=>?_))
 simp only[stz];rw[qD (by kernel_rfl)]at hB2;go_wp2
 refine bodyPost_ret (results_cell_row rfl _ _ w.heap.size _ _ _ _ (by rfl) hB2 underlying340 rfl (by kernel_rfl)) rfl ?_;exact⟨rfl,hm1.transB hm2 (Nat.le_refl _)⟩
theorem begin_any(w:World):Calls prog 225 #[] w (RetM (.agg (qI shaBegin.list)) w):=by
 go_enter func225,ntmps225;go_upto_region 0 with(fail);refine wpR [1] ?_;simp only[stz];refine wpD (qN 328 _ (by rfl) wordsZ (fun w1 hB1 hm1 hs1=>?_))
 replace hB1:w1.heap[w.heap.size]?=some (.cells (qI (List.replicate 8 0)) 328 (0,0)):=hB1;simp only[stz];go_upto_region 1 with(fail);refine wpR [1,1] ?_
 simp only[stz];refine wpX rfl (qO 328 _ _ (qI shaBegin.list) (by rfl) (by rfl) (by kernel_rfl)) trivial ?_;try simp only[nmz]
 refine wpD (qF 328 _ _ w.heap.size 0 (qI shaBegin.list) (by rfl) (by rfl) (by rfl) (zT _) 8 (by kernel_rfl) (by kernel_rfl) _ _ hB1 (by rw[qE,qE];simp[W8.list]) (fun w2 hB2 hm2=>?_))
 simp only[stz];rw[qD (by kernel_rfl)]at hB2;go_wp2
 refine bodyPost_ret (results_cell_row rfl _ _ w.heap.size _ _ _ _ (by rfl) hB2 underlying328 rfl (by kernel_rfl)) rfl ?_;exact⟨rfl,hm1.transB hm2 (Nat.le_refl _)⟩
theorem word8{w:World}{b:Nat}{c:W8}{T:TypeId}(h:w.heap[b]?=some (.cells (qI c.list) T (0,0)))(i:Nat)(hi:i<8):w.cell? ⟨b,i,none⟩=some (wordV (c.list.getD i 0)):=by
 rw[cell_of_row _ _ _ _ _ _ h,jD (by simpa[W8.list]using hi),List.getD_eq_getElem?_getD,List.getElem?_eq_getElem (by simpa[W8.list]using hi)]
 rfl
theorem word64{w:World}{b:Nat}{l:List UInt32}{T:TypeId}(h:w.heap[b]?=some (.cells (qI l) T (0,0)))(hl:l.length=64){i:Nat}(hi:i<64):w.cell? ⟨b,i,none⟩=some (wordV (l.getD i 0)):=by
 rw[cell_of_row _ _ _ _ _ _ h,jD (by omega),List.getD_eq_getElem?_getD,List.getElem?_eq_getElem (by omega)]
 rfl
section
variable{P:Program}{ops:Array Oper}{Q:Exit->Act->World->Prop}{S:World->Prop}{md:Region.Mode}{K:Act->World->Prop}
theorem yQ{o:Oper}{a:Act}{w:World}{f:FuncId}{args:Array Value}{v:Value}(hr:(execOp a.eval o).run P w=.ok (.enter f args) w)(hc:Calls P f args w (RetM v w))(k:∀w',Mod NoB w w'->K (a.put o.dst v) w'):o.wp P a w K Q:=by
 unfold Oper.wp;rw[hr,Oper.upon_enter];refine hc.mono fun e w' he=>?_;obtain⟨rfl,hm⟩:=he;exact k w' hm
def puts:List (Nat×Value)->Act->Act
 | [],a=>a
 |p::ps,a=>(puts ps a).put (some p.1) p.2
theorem puts_eval{ps:List (Nat×Value)}{t:Nat}(h:∀p∈ps,p.1≠t)(a:Act):(puts ps a).eval (.tmp t)=a.eval (.tmp t):=by
 induction ps with
 |nil=>rfl
 |cons p ps ih=>
  rw[<-ih fun q hq=>h q (List.mem_cons_of_mem _ hq)];have:=h p List.mem_cons_self
  simp only[puts,Act.put,Act.eval,Array.getD_eq_getD_getElem?,Array.getElem?_setIfInBounds_ne this]
theorem puts_swap(p q:Nat×Value)(h:p.1≠q.1)(ps:List (Nat×Value))(a:Act):puts (p::q::ps) a=puts (q::p::ps) a:=by
 simp only[puts,Act.put];rw[Array.setIfInBounds_comm _ _ (Ne.symm h)]
theorem puts_perm{ps qs:List (Nat×Value)}(h:ps.Perm qs)(a:Act)(hn:(ps.map (·.1)).Nodup):puts ps a=puts qs a:=by
 induction h with
 |nil=>rfl
 |cons x _ ih=>
  simp only[puts];rw[ih (List.nodup_cons.1 hn).2]
 |swap x y l=>
  simp only[List.map_cons,List.nodup_cons,List.mem_cons,not_or]at hn;exact puts_swap _ _ hn.1.1 _ _
 |trans h1 _ ih1 ih2=>rw[ih1 hn,ih2 ((h1.map _).nodup_iff.1 hn)]
theorem perm_vals{ps:List (Nat×Value)}:∀{g:List Nat},(ps.map (·.1)).Perm g->∃vals:List Value,vals.length=g.length/\ps.Perm (g.zip vals):=by
 intro g
 induction g generalizing ps with
 |nil=>
  intro h;have:=h.length_eq;simp only[List.length_map,List.length_nil,List.length_eq_zero_iff]at this;subst this;exact⟨[],rfl,List.Perm.refl _⟩
 |cons d g ih=>
  intro h;have hd:d∈ps.map (·.1):=h.symm.subset List.mem_cons_self;obtain⟨p,hp,rfl⟩:=List.mem_map.1 hd;obtain⟨l,r,rfl⟩:=List.append_of_mem hp
  have hpp:(l++p::r).Perm (p::(l++r)):=List.perm_middle;have h2:=(hpp.map (·.1)).symm.trans h;simp only[List.map_cons]at h2
  obtain⟨vs,hl,hv⟩:=ih ((List.perm_cons _).1 h2);exact⟨p.2::vs,by simp[hl],hpp.trans (by simpa using hv.cons p)⟩
def grpOk(md:Region.Mode)(ops:Array Oper):Nat->List (Nat×Nat)->Array Bool->Bool
 |0,g,_=>g.isEmpty
 |n+1,g,L=>(Region.ready md ops L).all fun i=>g.any fun q=>q.1==i&&grpOk md ops n (g.erase q) (L.setIfInBounds i true)
theorem wpTree_grp{a:Act}{g0:List Nat}{J:List (Nat×Value)->World->Prop}(hJS:∀ps w,J ps w->S w)
 (hn0:g0.Nodup)(hend:∀ps w,J ps w->(ps.map (·.1)).Perm g0->K (puts ps a) w):
 ∀(n:Nat)(g:List (Nat×Nat))(L:Array Bool)(ps:List (Nat×Value))(w:World),grpOk md ops n g L=true->(ps.map (·.1)++g.map (·.2)).Perm g0->J ps w->
  (∀q∈g,∀ps w,J ps w->(∀p∈ps,p.1≠q.2/\p.1∈g0)->∀K',(∀v w',J ((q.2,v)::ps) w'->K' ((puts ps a).put (some q.2) v) w')->(ops.getD q.1 default).wp P (puts ps a) w K' Q)->
  wpTree P md ops Q S K n L (puts ps a) w
 |0,g,L,ps,w,hg,hp,hJ,_=>by
  simp only[grpOk,List.isEmpty_iff]at hg;subst hg;exact hend ps w hJ (by simpa using hp)
 |n+1,g,L,ps,w,hg,hp,hJ,hop=>by
  intro i hi;simp only[grpOk,List.all_eq_true]at hg;have h1:=hg i hi;simp only[List.any_eq_true,Bool.and_eq_true,beq_iff_eq]at h1;obtain⟨q,hq,rfl,hg'⟩:=h1
  have hnd:(ps.map (·.1)++g.map (·.2)).Nodup:=hp.symm.nodup_iff.1 hn0;refine hop q hq ps w hJ (fun p hpp=>⟨?_,?_⟩) _ fun v w' hJ'=>⟨hJS _ _ hJ',?_⟩
  ·rw[List.nodup_append]at hnd
   exact hnd.2.2 _ (List.mem_map_of_mem hpp) _ (List.mem_map_of_mem hq)
  ·exact hp.subset (List.mem_append_left _ (List.mem_map_of_mem hpp))
  ·refine wpTree_grp hJS hn0 hend n (g.erase q) _ ((q.2,v)::ps) w' hg' ?_ hJ' fun q' hq'=>hop q' (List.mem_of_mem_erase hq')
   refine List.Perm.trans ?_ hp;simp only[List.map_cons,List.cons_append];refine(List.perm_middle (l₁:=ps.map (·.1)) (a:=q.2) (l₂:=(g.erase q).map (·.2))).symm.trans ?_
   exact List.Perm.append_left _ (by simpa using((List.perm_cons_erase hq).map (·.2)).symm)
def GrpF(G:Nat->Value⊕Obj)(w0:World)(d:Nat)(v:Value)(w:World):Prop:=
 match G d with
 | .inl x=>v=x
 | .inr o=>∃b,v=.pointer (some ⟨b,0,none⟩)/\w.heap[b]?=some o/\w0.heap.size<=b/\b<w.heap.size
def GrpJ(G:Nat->Value⊕Obj)(w0:World)(ps:List (Nat×Value))(w:World):Prop:=
 Mod NoB w0 w/\(∀p∈ps,GrpF G w0 p.1 p.2 w)/\ps.Pairwise fun p q=>∀o o' b b',G p.1=.inr o->G q.1=.inr o'->p.2=.pointer (some ⟨b,0,none⟩)->q.2=.pointer (some ⟨b',0,none⟩)->b≠b'
theorem GrpF.keep{G:Nat->Value⊕Obj}{w0 w w':World}{d:Nat}{v:Value}(h:GrpF G w0 d v w)(hm:Mod NoB w w'):GrpF G w0 d v w':=by
 unfold GrpF at*
 split
 ·rename_i x hx;rw[hx]at h;exact h
 ·rename_i o hx
  rw[hx]at h;obtain⟨b,rfl,hb,h1,h2⟩:=h;exact⟨b,rfl,hm.obj id hb,h1,Nat.lt_of_lt_of_le h2 hm.size⟩
theorem wpTree_rows{a:Act}{w0:World}{n:Nat}{L:Array Bool}(G:Nat->Value⊕Obj)(g:List (Nat×Nat))(hS:∀w,Mod NoB w0 w->S w)(hg:grpOk md ops n g L=true)(hn:(g.map (·.2)).Nodup)
 (hend:∀(vals:List Value)(w:World),vals.length=g.length->GrpJ G w0 ((g.map (·.2)).zip vals) w->K (puts ((g.map (·.2)).zip vals) a) w)
 (hop:∀q∈g,∀ps w,Mod NoB w0 w->(∀p∈ps,p.1≠q.2/\p.1∈g.map (·.2))->∀K',(match G q.2 with
  | .inl x=>∀w',Mod NoB w w'->K' ((puts ps a).put (some q.2) x) w'
  | .inr o=>∀w',w'.heap[w.heap.size]?=some o->Mod NoB w w'->w.heap.size<w'.heap.size->K' ((puts ps a).put (some q.2) (.pointer (some ⟨w.heap.size,0,none⟩))) w')->(ops.getD q.1 default).wp P (puts ps a) w K' Q):
 wpTree P md ops Q S K n L a w0:=by
 have hsym:∀{p q:Nat×Value},(∀o o' b b',G p.1=.inr o->G q.1=.inr o'->p.2=.pointer (some ⟨b,0,none⟩)->q.2=.pointer (some ⟨b',0,none⟩)->b≠b')->
  (∀o o' b b',G q.1=.inr o->G p.1=.inr o'->q.2=.pointer (some ⟨b,0,none⟩)->p.2=.pointer (some ⟨b',0,none⟩)->b≠b'):=fun h o o' b b' h1 h2 h3 h4=>(h o' o b' b h2 h1 h4 h3).symm
 refine wpTree_grp (J:=GrpJ G w0) (g0:=g.map (·.2)) (fun ps w h=>hS w h.1) hn (fun ps w hJ hp=>?_) n g L [] w0 hg (by simp) ⟨Mod.refl _ _,fun p hp=>(nomatch hp),List.Pairwise.nil⟩ (fun q hq ps w hJ hps K' hK'=>?_)
 ·obtain⟨vals,hl,hv⟩:=perm_vals hp
  rw[puts_perm hv a (hp.symm.nodup_iff.1 hn)];refine hend vals w (by simpa using hl) ⟨hJ.1,fun p hp=>hJ.2.1 p (hv.symm.subset hp),?_⟩;exact(hv.pairwise_iff hsym).1 hJ.2.2
 ·refine hop q hq ps w hJ.1 hps K' ?_
  cases e:G q.2 with
  |inl x=>
   intro w' hm;refine hK' _ _ ⟨hJ.1.trans0 hm,fun p hp=>?_,?_⟩
   ·rcases List.mem_cons.1 hp with rfl|hp
    ·unfold GrpF;rw[e]
    ·exact(hJ.2.1 p hp).keep hm
   ·refine List.Pairwise.cons (fun p hp o o' b b' h1=>?_) hJ.2.2
    rw[e]at h1;cases h1
  |inr o=>
   intro w' hb hm hs;refine hK' _ _ ⟨hJ.1.trans0 hm,fun p hp=>?_,?_⟩
   ·rcases List.mem_cons.1 hp with rfl|hp
    ·unfold GrpF;rw[e];exact⟨_,rfl,hb,hJ.1.size,hs⟩
    ·exact(hJ.2.1 p hp).keep hm
   ·refine List.Pairwise.cons (fun p hp o' o2 b b' h1 h2 h3 h4=>?_) hJ.2.2
    have:=hJ.2.1 p hp;unfold GrpF at this;rw[h2]at this;obtain⟨c,hc,-,-,hlt⟩:=this;rw[hc]at h4
    simp only[Value.pointer.injEq,Option.some.injEq,Addr.mk.injEq]at h3 h4;omega
def grpG:List (Nat×(Value⊕Obj))->Nat->Value⊕Obj
 | [],_=>.inl undef
 |(d,x)::r,e=>if d=e then x else grpG r e
theorem vals_cons{α:Type}{l:List α}{n:Nat}(h:l.length=n+1):∃x r,l=x::r/\r.length=n:=by
 cases l with
 |nil=>cases h
 |cons x r=>exact⟨x,r,rfl,by simpa using h⟩
theorem GrpJ.ne{G:Nat->Value⊕Obj}{w0 w:World}{ps:List (Nat×Value)}(h:GrpJ G w0 ps w){d e b b':Nat}{o o':Obj}(hp:(d,Value.pointer (some ⟨b,0,none⟩))∈ps)(hq:(e,Value.pointer (some ⟨b',0,none⟩))∈ps)(hde:d≠e)(h1:G d=.inr o)(h2:G e=.inr o'):b≠b':=by
 obtain⟨i,hi,hpi⟩:=List.getElem_of_mem hp;obtain⟨j,hj,hqj⟩:=List.getElem_of_mem hq;have H:=List.pairwise_iff_getElem.1 h.2.2
 rcases Nat.lt_trichotomy i j with hlt|rfl|hlt
 ·have:=H i j hi hj hlt
  rw[hpi,hqj]at this;exact this o o' b b' h1 h2 rfl rfl
 ·rw[hpi]at hqj;injection hqj with h1 _;exact absurd h1 hde
 ·have:=H j i hj hi hlt
  rw[hpi,hqj]at this;exact(this o' o b' b h2 h1 rfl rfl).symm
end
theorem words_at{w:World}{ba oa:Nat}{cur:Array Value}{T:TypeId}{s:W8}(hcur:w.heap[ba]?=some (.cells cur T (0,0)))(hs:∀k,k<8->cur[oa+k]?=some (wordV (s.list.getD k 0))):CellsAt w ba oa (qI s.list):=by
 intro j hj;rw[qE]at hj;have hj8:j<8:=by simpa[W8.list]using hj
 rw[cell_of_row _ _ _ _ _ _ hcur,hs j hj8,jD hj,List.getD_eq_getElem?_getD,List.getElem?_eq_getElem hj]
 rfl
theorem built8(x0 x1 x2 x3 x4 x5 x6 x7:UInt32):prog.built 328 [(0,wordV x0),(1,wordV x1),(2,wordV x2),(3,wordV x3),(4,wordV x4),(5,wordV x5),(6,wordV x6),(7,wordV x7)]=some (qI [x0,x1,x2,x3,x4,x5,x6,x7]):=by kernel_rfl
theorem putRow_get{cur cs:Array Value}{off:Nat}(h:off+cs.size<=cur.size)(k:Nat):(qY cur off cs)[k]?=if off<=k/\k<off+cs.size then cs[k-off]? else cur[k]?:=by
 have hl:(cur.toList.take off).length=off:=by rw[List.length_take,Array.length_toList];omega
 simp only[qY,List.getElem?_toArray,List.append_assoc]
 rcases Nat.lt_or_ge k off with h1|h1
 ·rw[List.getElem?_append_left (by omega),if_neg (by omega),List.getElem?_take_of_lt h1,Array.getElem?_toList]
 ·rw[List.getElem?_append_right (by omega),hl]
  rcases Nat.lt_or_ge k (off+cs.size)with h2|h2
  ·rw[List.getElem?_append_left (by rw[Array.length_toList];omega),if_pos ⟨h1,h2⟩,Array.getElem?_toList]
  ·rw[List.getElem?_append_right (by rw[Array.length_toList];omega),if_neg (by omega),Array.length_toList,List.getElem?_drop,Array.getElem?_toList]
   congr 1;try omega
theorem putRow_none{cur:Array Value}{off:Nat}(h:off<=cur.size):qY cur off (qI [])=cur:=by
 apply Array.ext_getElem?;intro k
 rw[putRow_get (by rw[show(qI []).size=0 from rfl];omega),if_neg (by rw[show(qI []).size=0 from rfl];omega)]
theorem putRow_step{cur:Array Value}{oa n:Nat}{l:List UInt32}(hn:n<l.length)(h:oa+l.length<=cur.size):(qY cur oa (qI (l.take n))).setIfInBounds (oa+n) (wordV (l.getD n 0))=qY cur oa (qI (l.take (n+1))):=by
 have s1:(qI (l.take n)).size=n:=by rw[qE,List.length_take];omega
 have s2:(qI (l.take (n+1))).size=n+1:=by rw[qE,List.length_take];omega
 have hp:(qY cur oa (qI (l.take n))).size=cur.size:=yH (by omega)
 apply Array.ext_getElem?;intro k
 rw[putRow_get (by omega),Array.getElem?_setIfInBounds,hp,s2]
 by_cases e:oa+n=k
 ·subst e
  rw[if_pos rfl,if_pos (by omega),if_pos (by omega),jD (by rw[List.length_take];omega),List.getD_eq_getElem?_getD,List.getElem?_eq_getElem hn]
  simp
 ·rw[if_neg e,putRow_get (by omega),s1]
  by_cases h2:oa<=k/\k<oa+n
  ·rw[if_pos h2,if_pos (by omega),jD (by rw[List.length_take];omega),jD (by rw[List.length_take];omega)]
   simp
  ·rw[if_neg h2,if_neg (by omega)]
theorem addW_at(s t:W8)(n:Nat)(h:n<8):(addW s t).list.getD n 0=s.list.getD n 0+t.list.getD n 0:=by
 match n,h with
 |0,_|1,_|2,_|3,_|4,_|5,_|6,_|7,_=>rfl
def AddRel(w0:World)(ba oa:Nat)(cur:Array Value)(T:TypeId)(b4:Nat)(s c:W8)(i:Value)(w:World):Prop:=∃n:Nat,n<=8/\i=.int .i64 n/\w.heap[ba]?=some (.cells (qY cur oa (qI ((addW s c).list.take n))) T (0,0))/\
 w.heap[b4]?=some (.cells (qI c.list) 328 (0,0))/\Mod (fun k=>k=ba) w0 w
def BlockR(w:World)(ba oa:Nat)(cur:Array Value)(T:TypeId)(r:W8):Ending->World->Prop:=fun e w'=>e=.returned (.tuple #[])/\w'.heap[ba]?=some (.cells (qY cur oa (qI r.list)) T (0,0))/\Mod (fun k=>k=ba) w w'
def RoundRel(w0:World)(b4 b5 b6:Nat)(sp:List UInt32)(s:W8)(i:Value)(w:World):Prop:=∃n:Nat,n<=64/\i=.int .i64 n/\w.heap[b4]?=some (.cells (qI (rounds shaKeys sp n s).list) 328 (0,0))/\
 w.heap[b5]?=some (.cells (qI shaKeys) 340 (0,0))/\w.heap[b6]?=some (.cells (qI sp) 340 (0,0))/\Mod NoB w0 w
theorem block_any{own:Bool}{G:Nat->Prop}{v:Value}{b:List UInt8}{w:World}(hb:Sl own w G 1 ByteC v b)(hl:b.length=64)(ba oa:Nat)(cur:Array Value)(T:TypeId)(s:W8)
 (hcur:w.heap[ba]?=some (.cells cur T (0,0)))(hsz:oa+8<=cur.size)(hs:∀k,k<8->cur[oa+k]?=some (wordV (s.list.getD k 0))):
 Calls prog 227 #[.pointer (some ⟨ba,oa,none⟩),v] w (BlockR w ba oa cur T (blockL s b)):=by
 obtain⟨sp,hsp⟩:∃sp,xB b 64=sp:=⟨_,rfl⟩;have hspl:sp.length=64:=by rw[<-hsp];exact jT b 64
 have hspr:∀w1,Mod NoB w w1->Calls prog 256 #[v] w1 (RetM (.agg (qI sp)) w1):=fun w1 hm=>by
  have:=spread_any (hb.keep0 hm) hl
  rwa[hsp]at this
 have HSP:=hid hsp;have HSR:=hid hspr;have HSS:=hid hs;clear hsp hb hspr hs;go_enter func227,ntmps227;go_upto_region 0 with(fail)
 have hD:Mod NoB w w.drew:=(Mod.refl _ _).drew
 refine yV [(0,3),(1,3),(2,0),(4,3)] 5 [(9,1),(10,1),(11,1)] [] (fun w'=>Mod NoB w.drew w') #[true,true,true,false,true,false,false,false,false,false,false,false] (by kernel_rfl) (by kernel_rfl) (by kernel_rfl) (by kernel_rfl) (by kernel_rfl) (fun _ _ _ _ hd h=>⟨hd.trans h.1,h.2⟩) (Mod.refl _ _) ?_
 simp only[stz];refine wpLA 328 ba oa (qI s.list) (fun w' hS=>words_at ((hD.trans0 hS).obj id hcur) HSS.out) underlying328 8 (by rw[qE];rfl) ?_
 simp only[stz]
 refine wpTree_rows (grpG [(14,.inl (.agg (qI shaKeys))),(16,.inl (.agg (qI sp))),(4,.inr (.cells (qI (List.replicate 8 0)) 328 (0,0))),(5,.inr (.cells (qI (List.replicate 64 0)) 340 (0,0))),(6,.inr (.cells (qI (List.replicate 64 0)) 340 (0,0)))]) [(3,14),(5,16),(6,4),(7,5),(8,6)] (fun _ h=>h) (by kernel_rfl) (by decide) ?hend ?hop
 case hop=>
  intro q hq ps w1 hm hps K hK;simp only[List.mem_cons,List.not_mem_nil,or_false]at hq
  rcases hq with rfl|rfl|rfl|rfl|rfl
  ·simp only[grpG,Nat.reduceEqDiff,if_true,if_false,reduceIte]at hK
   simp only[Array.getD_eq_getD_getElem?,List.getElem?_toArray,List.getElem?_cons_succ,List.getElem?_cons_zero,Option.getD_some]
   exact yQ (zX 255 [] _ rfl _ func255 rfl (by kernel_rfl) [] rfl _) (keys_any w1) hK
  ·simp only[grpG,Nat.reduceEqDiff,if_true,if_false,reduceIte]at hK
   simp only[Array.getD_eq_getD_getElem?,List.getElem?_toArray,List.getElem?_cons_succ,List.getElem?_cons_zero,Option.getD_some]
   exact yQ (zX 256 [.tmp 15] _ rfl _ func256 rfl (by kernel_rfl) [v] (by rw[List.map_cons,puts_eval (fun p hp e=>by have:=(hps p hp).2;rw[e]at this;simp at this)];rfl) _) (HSR.out _ (hD.trans0 hm)) hK
  ·simp only[grpG,Nat.reduceEqDiff,if_true,if_false,reduceIte]at hK
   simp only[Array.getD_eq_getD_getElem?,List.getElem?_toArray,List.getElem?_cons_succ,List.getElem?_cons_zero,Option.getD_some]
   exact qN 328 _ (by rfl) wordsZ (fun w' hB hm' hs'=>hK w' hB hm' hs')
  ·simp only[grpG,Nat.reduceEqDiff,if_true,if_false,reduceIte]at hK
   simp only[Array.getD_eq_getD_getElem?,List.getElem?_toArray,List.getElem?_cons_succ,List.getElem?_cons_zero,Option.getD_some]
   exact qN 340 _ (by rfl) w64Z (fun w' hB hm' hs'=>hK w' hB hm' hs')
  ·simp only[grpG,Nat.reduceEqDiff,if_true,if_false,reduceIte]at hK
   simp only[Array.getD_eq_getD_getElem?,List.getElem?_toArray,List.getElem?_cons_succ,List.getElem?_cons_zero,Option.getD_some]
   exact qN 340 _ (by rfl) w64Z (fun w' hB hm' hs'=>hK w' hB hm' hs')
 intro vals wz hvl hJ;obtain⟨v14,vals1,rfl,hvl1⟩:=vals_cons hvl;obtain⟨v16,vals2,rfl,hvl2⟩:=vals_cons hvl1;obtain⟨v4,vals3,rfl,hvl3⟩:=vals_cons hvl2
 obtain⟨v5,vals4,rfl,hvl4⟩:=vals_cons hvl3;obtain⟨v6,vals5,rfl,hvl5⟩:=vals_cons hvl4;obtain rfl:=List.eq_nil_of_length_eq_zero hvl5
 simp only[List.map_cons,List.map_nil,List.zip_cons_cons,List.zip_nil_left]at hJ |-;have h14:=hJ.2.1 (14,v14) (by simp)
 simp only[GrpF,grpG,Nat.reduceEqDiff,if_true,if_false,reduceIte]at h14;subst h14;have h16:=hJ.2.1 (16,v16) (by simp)
 simp only[GrpF,grpG,Nat.reduceEqDiff,if_true,if_false,reduceIte]at h16;subst h16;have h4:=hJ.2.1 (4,v4) (by simp)
 simp only[GrpF,grpG,Nat.reduceEqDiff,if_true,if_false,reduceIte]at h4;obtain⟨b4,rfl,hB4,hL4,hH4⟩:=h4;have h5:=hJ.2.1 (5,v5) (by simp)
 simp only[GrpF,grpG,Nat.reduceEqDiff,if_true,if_false,reduceIte]at h5;obtain⟨b5,rfl,hB5,hL5,hH5⟩:=h5;have h6:=hJ.2.1 (6,v6) (by simp)
 simp only[GrpF,grpG,Nat.reduceEqDiff,if_true,if_false,reduceIte]at h6;obtain⟨b6,rfl,hB6,hL6,hH6⟩:=h6
 have hN4_5:b4≠b5:=hJ.ne (d:=4) (e:=5) (by simp) (by simp) (by decide) (by simp only[grpG,Nat.reduceEqDiff,if_true,if_false,reduceIte];rfl) (by simp only[grpG,Nat.reduceEqDiff,if_true,if_false,reduceIte];rfl)
 have hN4_6:b4≠b6:=hJ.ne (d:=4) (e:=6) (by simp) (by simp) (by decide) (by simp only[grpG,Nat.reduceEqDiff,if_true,if_false,reduceIte];rfl) (by simp only[grpG,Nat.reduceEqDiff,if_true,if_false,reduceIte];rfl)
 have hN5_6:b5≠b6:=hJ.ne (d:=5) (e:=6) (by simp) (by simp) (by decide) (by simp only[grpG,Nat.reduceEqDiff,if_true,if_false,reduceIte];rfl) (by simp only[grpG,Nat.reduceEqDiff,if_true,if_false,reduceIte];rfl)
 have hGM:=hJ.1;clear hJ hvl hvl1 hvl2 hvl3 hvl4 hvl5;simp only[puts];try simp only[nmz]
 refine qL rfl (fun K hK=>?_)
 refine qF 328 _ _ b4 0 (qI s.list) (by rfl) (by rfl) (by rfl) (zT _) 8 (by kernel_rfl) (by rw[qE];rfl) _ _ hB4 (by rw[qE,qE];simp[W8.list]) (fun w2 hC4 hm2=>?_)
 rw[qD (by rw[qE,qE];simp[W8.list])]at hC4;have hG2:=hGM.transB hm2 hL4;replace hB5:=hm2.objB (by omega) hB5
 replace hB6:=hm2.objB (by omega) hB6;clear hB4 hm2;refine hK _ _ hG2 ?_;clear hK K;try simp only[nmz]
 refine qL rfl (fun K hK=>?_)
 refine qF 340 _ _ b5 0 (qI shaKeys) (by rfl) (by rfl) (by rfl) (zT _) 64 (by kernel_rfl) (by rw[qE];rfl) _ _ hB5 (by rw[qE,qE];simp[shaKeys]) (fun w3 hC5 hm3=>?_)
 rw[qD (by rw[qE,qE];simp[shaKeys])]at hC5;have hG3:=hG2.transB hm3 hL5;replace hC4:=hm3.objB (by omega) hC4
 replace hB6:=hm3.objB (by omega) hB6;clear hB5 hm3;refine hK _ _ hG3 ?_;clear hK K;try simp only[nmz]
 refine qL rfl (fun K hK=>?_)
 refine qF 340 _ _ b6 0 (qI sp) (by rfl) (by rfl) (by rfl) (zT _) 64 (by kernel_rfl) (by rw[qE];exact hspl) _ _ hB6 (by rw[qE,qE,hspl];simp) (fun w4 hC6 hm4=>?_)
 rw[qD (by rw[qE,qE,hspl];simp)]at hC6;have hG4:=hG3.transB hm4 hL6;replace hC4:=hm4.objB (by omega) hC4
 replace hC5:=hm4.objB (by omega) hC5;clear hB6 hm4;refine hK _ _ hG4 ?_;clear hK K;simp only[stz];have hM:=hD.trans0 hG4
 have hba:ba<w.heap.size:=by
  rcases Nat.lt_or_ge ba w.heap.size with h|h
  ·exact h
  ·rw[Array.getElem?_eq_none h]at hcur;cases hcur
 replace hL4:w.heap.size<=b4:=hL4;replace hL5:w.heap.size<=b5:=hL5;replace hL6:w.heap.size<=b6:=hL6;clear hG2 hG3 hG4 hGM hH4 hH5 hH6 hD;go_wp2
 go_loopw [17] (RoundRel w b4 b5 b6 sp s) (fun i _=>64-(intOf i).toNat)
 case atStart=>exact⟨0,by omega,rfl,hC4,hC5,hC6,hM⟩
 case round=>
  rename World=>wr
  clear hC4 hC5 hC6 hM;obtain⟨n,hn,rfl,hC4,hC5,hC6,hM⟩:=hrel
  by_cases hlt:n<64
  ·have hz:(n:Int)<64:=by omega
   obtain⟨c,hc⟩:∃c,rounds shaKeys sp n s=c:=⟨_,rfl⟩;have hnext:rounds shaKeys sp (n+1) s=round c (shaKeys.getD n 0) (sp.getD n 0):=by rw[<-hc];rfl
   rw[hc]at hC4;have HC:=hid hc;have HN:=hid hnext;clear hc hnext;go_upto_region 4 with(fail);have hS:Mod NoB wr wr.drew:=(Mod.refl _ _).drew
   refine wpRZ [3,0,3,0,0,3,0,0,3,3,0,0,3,3,3,0,3,0,3,3,0,3,3,0,3,3,3,3,3,0,3,3,3,0,3,3] [] (fun w'=>Mod NoB wr w') hS ?_;simp only[stz]
   refine qH _ _ _ _ _ _ _ 7 rfl rfl rfl rfl underlying328 (n:=1) (by kernel_rfl) (by omega) ?_;simp only[nmz]
   refine wpLd (v:=(wordV c.h)) 301 b4 7 (fun w' hS=>word8 (hS.obj id hC4) 7 (by omega)) underlying301 ?_;simp only[nmz]
   refine qH _ _ _ _ _ _ _ 4 rfl rfl rfl rfl underlying328 (n:=1) (by kernel_rfl) (by omega) ?_;simp only[nmz]
   refine wpLd (v:=(wordV c.e)) 301 b4 4 (fun w' hS=>word8 (hS.obj id hC4) 4 (by omega)) underlying301 ?_;simp only[nmz]
   refine yT (f:=257) rfl ?_ (fun w' hS=>yZ c.e 6 (by omega) w') ?_
   ·exact zX 257 _ _ rfl _ func257 rfl (by kernel_rfl) _ rfl
   simp only[nmz];refine qH _ _ _ _ _ _ _ 4 rfl rfl rfl rfl underlying328 (n:=1) (by kernel_rfl) (by omega) ?_;simp only[nmz]
   refine wpLd (v:=(wordV c.e)) 301 b4 4 (fun w' hS=>word8 (hS.obj id hC4) 4 (by omega)) underlying301 ?_;simp only[nmz]
   refine yT (f:=257) rfl ?_ (fun w' hS=>yZ c.e 11 (by omega) w') ?_
   ·exact zX 257 _ _ rfl _ func257 rfl (by kernel_rfl) _ rfl
   simp only[nmz];refine zQ _ _ _ _ _ _ rfl rfl rfl rfl ?_;simp only[nmz]
   refine qH _ _ _ _ _ _ _ 4 rfl rfl rfl rfl underlying328 (n:=1) (by kernel_rfl) (by omega) ?_;simp only[nmz]
   refine wpLd (v:=(wordV c.e)) 301 b4 4 (fun w' hS=>word8 (hS.obj id hC4) 4 (by omega)) underlying301 ?_;simp only[nmz]
   refine yT (f:=257) rfl ?_ (fun w' hS=>yZ c.e 25 (by omega) w') ?_
   ·exact zX 257 _ _ rfl _ func257 rfl (by kernel_rfl) _ rfl
   simp only[nmz];refine zQ _ _ _ _ _ _ rfl rfl rfl rfl ?_;simp only[nmz];refine zR _ _ _ _ _ _ rfl rfl rfl rfl ?_;simp only[nmz]
   refine qH _ _ _ _ _ _ _ 4 rfl rfl rfl rfl underlying328 (n:=1) (by kernel_rfl) (by omega) ?_;simp only[nmz]
   refine wpLd (v:=(wordV c.e)) 301 b4 4 (fun w' hS=>word8 (hS.obj id hC4) 4 (by omega)) underlying301 ?_;simp only[nmz]
   refine qH _ _ _ _ _ _ _ 5 rfl rfl rfl rfl underlying328 (n:=1) (by kernel_rfl) (by omega) ?_;simp only[nmz]
   refine wpLd (v:=(wordV c.f)) 301 b4 5 (fun w' hS=>word8 (hS.obj id hC4) 5 (by omega)) underlying301 ?_;simp only[nmz];refine yY _ _ _ _ _ _ rfl rfl rfl rfl ?_
   simp only[nmz];refine qH _ _ _ _ _ _ _ 4 rfl rfl rfl rfl underlying328 (n:=1) (by kernel_rfl) (by omega) ?_;simp only[nmz]
   refine wpLd (v:=(wordV c.e)) 301 b4 4 (fun w' hS=>word8 (hS.obj id hC4) 4 (by omega)) underlying301 ?_;simp only[nmz];refine wpPi_not32 _ _ _ rfl rfl rfl ?_;simp only[nmz]
   refine qH _ _ _ _ _ _ _ 6 rfl rfl rfl rfl underlying328 (n:=1) (by kernel_rfl) (by omega) ?_;simp only[nmz]
   refine wpLd (v:=(wordV c.g)) 301 b4 6 (fun w' hS=>word8 (hS.obj id hC4) 6 (by omega)) underlying301 ?_;simp only[nmz];refine yY _ _ _ _ _ _ rfl rfl rfl rfl ?_
   simp only[nmz];refine zQ _ _ _ _ _ _ rfl rfl rfl rfl ?_;simp only[nmz];refine zR _ _ _ _ _ _ rfl rfl rfl rfl ?_;simp only[stz]
   refine qH _ _ _ _ _ _ _ _ rfl rfl rfl rfl underlying340 (n:=1) (by kernel_rfl) hlt ?_;simp only[nmz]
   refine wpLd (v:=(wordV (shaKeys.getD n 0))) 301 b5 (n*1) (fun w' hS=>by rw[Nat.mul_one];exact word64 (hS.obj id hC5) (by rfl) hlt) underlying301 ?_;simp only[nmz]
   refine zR _ _ _ _ _ _ rfl rfl rfl rfl ?_;simp only[stz];refine qH _ _ _ _ _ _ _ _ rfl rfl rfl rfl underlying340 (n:=1) (by kernel_rfl) hlt ?_;simp only[nmz]
   refine wpLd (v:=(wordV (sp.getD n 0))) 301 b6 (n*1) (fun w' hS=>by rw[Nat.mul_one];exact word64 (hS.obj id hC6) hspl hlt) underlying301 ?_;simp only[nmz]
   refine zR _ _ _ _ _ _ rfl rfl rfl rfl ?_;simp only[stz];replace hM:=hM.trans0 hS;replace hC4:=hS.obj id hC4;replace hC5:=hS.obj id hC5
   replace hC6:=hS.obj id hC6;clear hS;generalize wr.drew=wy at*;go_upto_region 5 with(fail);have hS:Mod NoB wy wy.drew:=(Mod.refl _ _).drew
   refine wpRZ [3,0,0,3,0,0,3,3,0,0,3,3,0,3,0,3,3,0,3,0,3,3,3,0,3,0,3,3,3,3] [] (fun w'=>Mod NoB wy w') hS ?_;simp only[stz]
   refine qH _ _ _ _ _ _ _ 0 rfl rfl rfl rfl underlying328 (n:=1) (by kernel_rfl) (by omega) ?_;simp only[nmz]
   refine wpLd (v:=(wordV c.a)) 301 b4 0 (fun w' hS=>word8 (hS.obj id hC4) 0 (by omega)) underlying301 ?_;simp only[nmz]
   refine yT (f:=257) rfl ?_ (fun w' hS=>yZ c.a 2 (by omega) w') ?_
   ·exact zX 257 _ _ rfl _ func257 rfl (by kernel_rfl) _ rfl
   simp only[nmz];refine qH _ _ _ _ _ _ _ 0 rfl rfl rfl rfl underlying328 (n:=1) (by kernel_rfl) (by omega) ?_;simp only[nmz]
   refine wpLd (v:=(wordV c.a)) 301 b4 0 (fun w' hS=>word8 (hS.obj id hC4) 0 (by omega)) underlying301 ?_;simp only[nmz]
   refine yT (f:=257) rfl ?_ (fun w' hS=>yZ c.a 13 (by omega) w') ?_
   ·exact zX 257 _ _ rfl _ func257 rfl (by kernel_rfl) _ rfl
   simp only[nmz];refine zQ _ _ _ _ _ _ rfl rfl rfl rfl ?_;simp only[nmz]
   refine qH _ _ _ _ _ _ _ 0 rfl rfl rfl rfl underlying328 (n:=1) (by kernel_rfl) (by omega) ?_;simp only[nmz]
   refine wpLd (v:=(wordV c.a)) 301 b4 0 (fun w' hS=>word8 (hS.obj id hC4) 0 (by omega)) underlying301 ?_;simp only[nmz]
   refine yT (f:=257) rfl ?_ (fun w' hS=>yZ c.a 22 (by omega) w') ?_
   ·exact zX 257 _ _ rfl _ func257 rfl (by kernel_rfl) _ rfl
   simp only[nmz];refine zQ _ _ _ _ _ _ rfl rfl rfl rfl ?_;simp only[nmz]
   refine qH _ _ _ _ _ _ _ 0 rfl rfl rfl rfl underlying328 (n:=1) (by kernel_rfl) (by omega) ?_;simp only[nmz]
   refine wpLd (v:=(wordV c.a)) 301 b4 0 (fun w' hS=>word8 (hS.obj id hC4) 0 (by omega)) underlying301 ?_;simp only[nmz]
   refine qH _ _ _ _ _ _ _ 1 rfl rfl rfl rfl underlying328 (n:=1) (by kernel_rfl) (by omega) ?_;simp only[nmz]
   refine wpLd (v:=(wordV c.b)) 301 b4 1 (fun w' hS=>word8 (hS.obj id hC4) 1 (by omega)) underlying301 ?_;simp only[nmz];refine yY _ _ _ _ _ _ rfl rfl rfl rfl ?_
   simp only[nmz];refine qH _ _ _ _ _ _ _ 0 rfl rfl rfl rfl underlying328 (n:=1) (by kernel_rfl) (by omega) ?_;simp only[nmz]
   refine wpLd (v:=(wordV c.a)) 301 b4 0 (fun w' hS=>word8 (hS.obj id hC4) 0 (by omega)) underlying301 ?_;simp only[nmz]
   refine qH _ _ _ _ _ _ _ 2 rfl rfl rfl rfl underlying328 (n:=1) (by kernel_rfl) (by omega) ?_;simp only[nmz]
   refine wpLd (v:=(wordV c.c)) 301 b4 2 (fun w' hS=>word8 (hS.obj id hC4) 2 (by omega)) underlying301 ?_;simp only[nmz];refine yY _ _ _ _ _ _ rfl rfl rfl rfl ?_
   simp only[nmz];refine zQ _ _ _ _ _ _ rfl rfl rfl rfl ?_;simp only[nmz]
   refine qH _ _ _ _ _ _ _ 1 rfl rfl rfl rfl underlying328 (n:=1) (by kernel_rfl) (by omega) ?_;simp only[nmz]
   refine wpLd (v:=(wordV c.b)) 301 b4 1 (fun w' hS=>word8 (hS.obj id hC4) 1 (by omega)) underlying301 ?_;simp only[nmz]
   refine qH _ _ _ _ _ _ _ 2 rfl rfl rfl rfl underlying328 (n:=1) (by kernel_rfl) (by omega) ?_;simp only[nmz]
   refine wpLd (v:=(wordV c.c)) 301 b4 2 (fun w' hS=>word8 (hS.obj id hC4) 2 (by omega)) underlying301 ?_;simp only[nmz];refine yY _ _ _ _ _ _ rfl rfl rfl rfl ?_
   simp only[nmz];refine zQ _ _ _ _ _ _ rfl rfl rfl rfl ?_;simp only[nmz];refine zR _ _ _ _ _ _ rfl rfl rfl rfl ?_;simp only[stz];replace hM:=hM.trans0 hS
   replace hC4:=hS.obj id hC4;replace hC5:=hS.obj id hC5;replace hC6:=hS.obj id hC6;clear hS;generalize wy.drew=wz at*;go_upto_region 6 with(fail)
   refine wpR [3,3,3,3,1,3,1,3,1,3,1,3,3,3,1,3,1,3,1,3,1] ?_;simp only[stz];refine zR _ _ _ _ _ _ rfl rfl rfl rfl ?_;simp only[nmz]
   refine qH _ _ _ _ _ _ _ 0 rfl rfl rfl rfl underlying328 (n:=1) (by kernel_rfl) (by omega) ?_;simp only[nmz]
   refine wpXd (v:=(wordV c.a)) 301 b4 0 (word8 hC4 0 (by omega)) underlying301 trivial ?_;try simp only[nmz]
   refine qH _ _ _ _ _ _ _ 1 rfl rfl rfl rfl underlying328 (n:=1) (by kernel_rfl) (by omega) ?_;simp only[nmz]
   refine wpXd (v:=(wordV c.b)) 301 b4 1 (word8 hC4 1 (by omega)) underlying301 trivial ?_;try simp only[nmz]
   refine qH _ _ _ _ _ _ _ 2 rfl rfl rfl rfl underlying328 (n:=1) (by kernel_rfl) (by omega) ?_;simp only[nmz]
   refine wpXd (v:=(wordV c.c)) 301 b4 2 (word8 hC4 2 (by omega)) underlying301 trivial ?_;try simp only[nmz]
   refine qH _ _ _ _ _ _ _ 3 rfl rfl rfl rfl underlying328 (n:=1) (by kernel_rfl) (by omega) ?_;simp only[nmz]
   refine wpXd (v:=(wordV c.d)) 301 b4 3 (word8 hC4 3 (by omega)) underlying301 trivial ?_;simp only[stz];refine zR _ _ _ _ _ _ rfl rfl rfl rfl ?_;simp only[nmz]
   refine qH _ _ _ _ _ _ _ 4 rfl rfl rfl rfl underlying328 (n:=1) (by kernel_rfl) (by omega) ?_;simp only[nmz]
   refine wpXd (v:=(wordV c.e)) 301 b4 4 (word8 hC4 4 (by omega)) underlying301 trivial ?_;try simp only[nmz]
   refine qH _ _ _ _ _ _ _ 5 rfl rfl rfl rfl underlying328 (n:=1) (by kernel_rfl) (by omega) ?_;simp only[nmz]
   refine wpXd (v:=(wordV c.f)) 301 b4 5 (word8 hC4 5 (by omega)) underlying301 trivial ?_;try simp only[nmz]
   refine qH _ _ _ _ _ _ _ 6 rfl rfl rfl rfl underlying328 (n:=1) (by kernel_rfl) (by omega) ?_;simp only[nmz]
   refine wpXd (v:=(wordV c.g)) 301 b4 6 (word8 hC4 6 (by omega)) underlying301 trivial ?_;try simp only[nmz]
   refine qC (v:=.agg (qI (round c (shaKeys.getD n 0) (sp.getD n 0)).list)) rfl (fun w'=>qO 328 _ [(0,wordV (roundX c (shaKeys.getD n 0) (sp.getD n 0)+roundY c)),(1,wordV c.a),(2,wordV c.b),(3,wordV c.c),(4,wordV (c.d+roundX c (shaKeys.getD n 0) (sp.getD n 0))),(5,wordV c.e),(6,wordV c.f),(7,wordV c.g)] _ (by rfl) (by rfl) (built8 _ _ _ _ _ _ _ _)) ?_
   simp only[nmz]
   refine wpD (qF 328 _ _ b4 0 (qI (round c (shaKeys.getD n 0) (sp.getD n 0)).list) (by rfl) (by rfl) (by rfl) (zT _) 8 (by kernel_rfl) (by rw[qE];rfl) _ _ hC4 (by rw[qE,qE];simp[W8.list]) (fun w5 hD4 hm5=>?_))
   rw[qD (by rw[qE,qE];simp[W8.list]),<-HN.out]at hD4;have hM5:=hM.transB hm5 hL4;replace hC5:=hm5.objB (by omega) hC5
   replace hC6:=hm5.objB (by omega) hC6;clear hC4 hm5;simp only[stz];go_wp2
   go_roundw
   case rel=>exact⟨n+1,by omega,by go_num,hD4,hC5,hC6,hM5⟩
   case measure=>simp[intOf];omega
  ·have hz:¬(n:Int)<64:=by omega
   obtain rfl:n=64:=by omega
   obtain⟨c,hc⟩:∃c,rounds shaKeys sp 64 s=c:=⟨_,rfl⟩;rw[hc]at hC4;have hr:blockL s b=addW s c:=by unfold blockL;rw[HSP.out,hc]
   have HR:=hid hr;clear hr hc;have hrowA:=hM.obj id hcur;have hMA:Mod (fun k=>k=ba) w wr:=hM.mono (fun _ _ h=>h.elim);clear hcur hM hC5 hC6 hz hn
   have hlen:(addW s c).list.length=8:=rfl;go_wp2
   go_loopw [105] (AddRel w ba oa cur T b4 s c) (fun i _=>8-(intOf i).toNat)
   case atStart=>exact⟨0,by omega,rfl,by rw[List.take_zero,putRow_none (by omega)];exact hrowA,hC4,hMA⟩
   case round=>
    rename World=>wv
    clear hC4 hrowA hMA;obtain⟨n,hn,rfl,hrow,hC4,hM⟩:=hrel
    by_cases hlt:n<8
    ·have hz:(n:Int)<8:=by omega
     have hw1:wv.cell? ⟨ba,oa+n*1,none⟩=some (wordV (s.list.getD n 0)):=by
      rw[cell_of_row _ _ _ _ _ _ hrow,Nat.mul_one,putRow_get (by rw[qE,List.length_take];omega),if_neg (by rw[qE,List.length_take];omega),HSS.out n hlt]
     have hstep:=putRow_step (cur:=cur) (oa:=oa) (n:=n) (l:=(addW s c).list) (by omega) (by omega)
     have hpsz:(qY cur oa (qI ((addW s c).list.take n))).size=cur.size:=yH (by rw[qE,List.length_take];omega)
     rw[addW_at s c n hlt]at hstep;have HST:=hid hstep;clear hstep;go_upto_region 11 with(fail);have hS:Mod NoB wv wv.drew:=(Mod.refl _ _).drew
     refine wpRZ [3,3,3,3,0,3,3,0,3,3,3,2] [11] (fun w'=>Mod NoB wv w') hS ?_;simp only[stz]
     refine qH _ _ _ _ _ _ _ _ rfl rfl rfl rfl underlying328 (n:=1) (by kernel_rfl) hlt ?_;simp only[nmz]
     refine wpLd (v:=(wordV (s.list.getD n 0))) 301 ba (oa+n*1) (fun w' hS=>hS.cell id hw1) underlying301 ?_;simp only[stz]
     refine qH _ _ _ _ _ _ _ _ rfl rfl rfl rfl underlying328 (n:=1) (by kernel_rfl) hlt ?_;simp only[nmz]
     refine wpLd (v:=(wordV (c.list.getD n 0))) 301 b4 (n*1) (fun w' hS=>by rw[Nat.mul_one];exact word8 (hS.obj id hC4) n hlt) underlying301 ?_;simp only[nmz]
     refine zR _ _ _ _ _ _ rfl rfl rfl rfl ?_;simp only[stz];refine qH _ _ _ _ _ _ _ _ rfl rfl rfl rfl underlying328 (n:=1) (by kernel_rfl) hlt ?_
     simp only[nmz];refine zD rfl (fun K hK=>?_)
     refine qR 301 _ _ ba (oa+n*1) (wordV (s.list.getD n 0+c.list.getD n 0)) (by rfl) (by rfl) (by rfl) rfl (by kernel_rfl) _ _ (show wv.drew.heap[ba]?=_ from hrow) (by rw[hpsz];omega) (fun w2 hB2 hm2=>?_)
     rw[Nat.mul_one,HST.out]at hB2;replace hC4:=hm2.objB (by omega) (show wv.drew.heap[b4]?=_ from hC4);refine hK _ _ ?_;clear hK K;simp only[stz]
     have hM2:Mod (fun k=>k=ba) w w2:=(hM.trans hS (fun _ _ h=>h.elim)).trans hm2 (fun _ _ h=>h);clear hM hS hm2 hrow hw1;go_wp2
     go_roundw
     case rel=>exact⟨n+1,by omega,by go_num,hB2,hC4,hM2⟩
     case measure=>simp[intOf];omega
    ·have hz:¬(n:Int)<8:=by omega
     obtain rfl:n=8:=by omega
     go_wp2
     go_end0
     refine⟨rfl,?_,hM⟩;rw[HR.out];exact hrow
section
variable{P:Program}{ops:Array Oper}{Q:Exit->Act->World->Prop}{S:World->Prop}{o:Oper}{r:List (Oper×Nat)}{a:Act}{w:World}
theorem jC(t e:TypeId)(x h:Operand)(ad:Option Addr)(len cap i n:Nat)(hw:Region.wanted o (yielded ops a.tmps)=true)(ho:o.op=.slice t x none (some h) none)(hx:a.eval x=.slice ad len cap)(hh:a.eval h=.int .i64 (i:Int))
 (hu:P.underlying t=some (.slice e))(hs:(P.info? e).map (·.size)=some n)(hi:i<=cap)(hk:wpPi P ops Q S r (a.put o.dst (sliced ad 0 i cap n)) w):wpPi P ops Q S ((o,3)::r) a w:=
 qC hw (fun w=>by
  have he:P.elem t=e:=by simp[Program.elem,hu]
  have hsz:(sizeOf e).run P w=.ok n w:=by
   cases hq:P.info? e with
   |none=>simp[hq]at hs
   |some i=>simp[hq]at hs;simp[sizeOf,typeInfo,hq,hs]
  unfold execOp;simp only[ho,hx,hh,Option.map_none,Option.map_some]
  have h1:=run_sliceAt_slice (P:=P) (w:=w) t (.slice ad len cap) none (some (.int .i64 (i:Int))) none (by rw[he];exact hu)
  have h2:=run_slice_h (P:=P) (w:=w) t ad len cap (by rw[he];exact hu) .i64 (i:Int) (by omega) (by omega)
  simp only[Sem.run_bind,h1,h2,he,hsz,Result.andThen_ok,Sem.run_pure,Int.toNat_natCast]) hk
theorem yX(t e:TypeId)(x l:Operand)(ad:Option Addr)(len cap i n:Nat)(hw:Region.wanted o (yielded ops a.tmps)=true)(ho:o.op=.slice t x (some l) none none)(hx:a.eval x=.slice ad len cap)(hl:a.eval l=.int .i64 (i:Int))
 (hu:P.underlying t=some (.slice e))(hs:(P.info? e).map (·.size)=some n)(hi:i<=len)(hk:wpPi P ops Q S r (a.put o.dst (sliced ad i len cap n)) w):wpPi P ops Q S ((o,3)::r) a w:=
 qC hw (fun w=>by
  have he:P.elem t=e:=by simp[Program.elem,hu]
  have hsz:(sizeOf e).run P w=.ok n w:=by
   cases hq:P.info? e with
   |none=>simp[hq]at hs
   |some i=>simp[hq]at hs;simp[sizeOf,typeInfo,hq,hs]
  unfold execOp;simp only[ho,hx,hl,Option.map_none,Option.map_some]
  have h1:=run_sliceAt_slice (P:=P) (w:=w) t (.slice ad len cap) (some (.int .i64 (i:Int))) none none (by rw[he];exact hu)
  have h2:=run_slice_l (P:=P) (w:=w) t ad len cap (by rw[he];exact hu) .i64 (i:Int) (by omega) (by omega)
  simp only[Sem.run_bind,h1,h2,he,hsz,Result.andThen_ok,Sem.run_pure,Int.toNat_natCast]) hk
end
theorem jS(b off k:Nat):Addr.add ⟨b,off,none⟩ k=⟨b,off+k,none⟩:=by
 unfold Addr.add
 split
 ·rename_i hk;subst hk;rfl
 ·rfl
section
variable{w w':World}{base e sz n i cap:Nat}{v:Value}{xs:List Value}{ad:Option Addr}
theorem xW(h:w.ownsRow base e sz v n xs):v.oneCell'=true:=by
 rcases h.2 with⟨rfl,_⟩|⟨g,cap,cur,rfl,_⟩<;>rfl
theorem jF{base':Nat}(h:w.ownsRow base e sz v n xs)(hb:base'<=base):w.ownsRow base' e sz v n xs:=by
 refine⟨h.1,?_⟩
 rcases h.2 with h|⟨g,cap,cur,h1,h2,h3⟩
 ·exact .inl h
 ·exact .inr ⟨g,cap,cur,h1,Nat.le_trans hb h2,h3⟩
theorem owns_to(h:w.ownsRow base e sz (.slice ad n cap) n xs)(hi:i<=n):w.ownsRow base e sz (sliced ad 0 i cap sz) i (xs.take (i*sz))/\(sliced ad 0 i cap sz).ownBlock=(Value.slice ad n cap).ownBlock:=by
 have hm:i*sz<=n*sz:=Nat.mul_le_mul_right _ hi
 rcases h.2 with⟨h1,h2⟩|⟨g,c,cur,h1,hb,hg,hc,hm',hcs,ht⟩
 ·cases h1
  obtain rfl:i=0:=by omega
  have e1:xs=[]:=List.eq_nil_of_length_eq_zero (by rw[h.1];simp);refine⟨⟨by simp,.inl ⟨by simp[sliced],rfl⟩⟩,by simp[sliced,Value.ownBlock]⟩
 ·cases h1
  have e1:sliced (some ⟨g,0,none⟩) 0 i cap sz=.slice (some ⟨g,0,none⟩) i cap:=by
   simp only[sliced,Option.map_some,jS,Nat.zero_mul,Nat.add_zero,Nat.sub_zero,ite_self]
  rw[e1];refine⟨⟨by rw[List.length_take,h.1];omega,.inr ⟨g,cap,cur,rfl,hb,hg,by omega,hm',hcs,?_⟩⟩,rfl⟩;rw[<-ht,List.take_take,Nat.min_eq_left hm]
theorem owns_src(h:w.ownsRow base e sz v n xs):Src w sz v n xs:=by
 rcases h.2 with⟨rfl,rfl⟩|⟨g,c,cur,rfl,hb,hg,hc,hm',hcs,ht⟩
 ·exact⟨h.1,_,_,rfl,fun h=>absurd rfl h⟩
 ·refine⟨h.1,_,_,rfl,fun _=>⟨g,0,rfl,fun j x hj=>?_⟩⟩
  have hjl:j<xs.length:=by
   rcases Nat.lt_or_ge j xs.length with h|h
   ·exact h
   ·rw[List.getElem?_eq_none h]at hj;cases hj
  rw[cell_of_row _ _ _ _ _ _ hg,Nat.zero_add,<-hj,<-ht,List.getElem?_take_of_lt (by rw[<-h.1];exact hjl)]
  simp
theorem Src.drop{m:Nat}(h:Src w sz (.slice ad m cap) m xs)(hi:i<=m)(hm:m<=cap):Src w sz (sliced ad i m cap sz) (m-i) (xs.drop (i*sz)):=by
 obtain⟨h1,ad',c',e,h2⟩:=h;obtain⟨rfl,rfl⟩:ad=ad'/\cap=c':=by simpa using e
 refine⟨by rw[List.length_drop,h1,Nat.sub_mul],_,_,rfl,fun hi0=>?_⟩;obtain⟨b,off,rfl,hc⟩:=h2 (by omega);refine⟨b,off+i*sz,?_,fun j x hj=>?_⟩
 ·rw[if_neg (by omega)]
  simp[jS]
 ·rw[Nat.add_assoc]
  exact hc _ _ (by rw[<-hj,List.getElem?_drop])
end
section
variable{α:Type}{own:Bool}{w:World}{G:Nat->Prop}{sz cap:Nat}{R:Array Value->α->Prop}{ad:Option Addr}{l:List α}
theorem Sl.cut(h:Sl own w G sz R (.slice ad l.length cap) l)(i:Nat)(hi:i<=l.length):Sl own w G sz R (sliced ad i l.length cap sz) (l.drop i):=by
 obtain⟨a,c,e,h1,h2,h3⟩:=h
 cases e
 refine⟨_,_,by rw[List.length_drop];rfl,by rw[List.length_drop];omega,by omega,fun hne=>?_⟩
 have hlt:i<l.length:=by
  rcases Nat.lt_or_ge i l.length with h|h
  ·exact h
  ·exact absurd (List.drop_eq_nil_of_le h) hne
 obtain⟨b,off,rfl,hG,ho,hc⟩:=h3 (by rintro rfl;simp at hlt);refine⟨b,off+i*sz,by rw[if_neg (by omega)];simp[jS],hG,ho,fun j hj=>?_⟩
 rw[List.length_drop]at hj;obtain⟨cs,hs,hR,hcs⟩:=hc (i+j) (by omega);refine⟨cs,hs,by rw[List.getElem_drop];exact hR,?_⟩
 rw[show off+i*sz+j*sz=off+(i+j)*sz by rw[Nat.add_mul];omega];exact hcs
theorem Sl.fst(h:Sl own w G sz R (.slice ad l.length cap) l)(i:Nat)(hi:i<=l.length):Sl own w G sz R (sliced ad 0 i cap sz) (l.take i):=by
 obtain⟨a,c,e,h1,h2,h3⟩:=h
 cases e
 refine⟨_,_,by rw[List.length_take,Nat.min_eq_left hi];rfl,by rw[List.length_take];omega,by omega,fun hne=>?_⟩
 obtain⟨b,off,rfl,hG,ho,hc⟩:=h3 (by rintro rfl;simp at hne);refine⟨b,off,by simp[jS],hG,ho,fun j hj=>?_⟩;rw[List.length_take]at hj
 obtain⟨cs,hs,hR,hcs⟩:=hc j (by omega);exact⟨cs,hs,by rw[List.getElem_take];exact hR,hcs⟩
end
def yS(s:W8)(rest:Value)(n:Nat):Array Value:=#[wordV s.a,wordV s.b,wordV s.c,wordV s.d,wordV s.e,wordV s.f,wordV s.g,wordV s.h,rest,.int .i64 (n:Int),.bool true]
theorem hashRow_put(s r:W8)(rest:Value)(n:Nat):qY (yS s rest n) 0 (qI r.list)=yS r rest n:=rfl
theorem hashRow_at(s:W8)(rest:Value)(n k:Nat)(h:k<8):(yS s rest n)[0+k]?=some (wordV (s.list.getD k 0)):=by
 match k,h with
 |0,_|1,_|2,_|3,_|4,_|5,_|6,_|7,_=>rfl
theorem builtH:prog.built 331 [(0,.agg (qI shaBegin.list)),(3,.bool true)]=some (yS shaBegin (.slice none 0 0) 0):=by kernel_rfl
theorem zV{P:Program}{K:Act->World->Prop}{Q:Exit->Act->World->Prop}{o:Oper}{a:Act}{w:World}{f:FuncId}{args:Array Value}{R:Ending->World->Prop}(hr:(execOp a.eval o).run P w=.ok (.enter f args) w)(hc:Calls P f args w R)
 (k:∀e w',R e w'->∃v,e=.returned v/\K (a.put o.dst v) w'):o.wp P a w K Q:=by
 unfold Oper.wp;rw[hr,Oper.upon_enter];refine hc.mono fun e w' he=>?_;obtain⟨v,rfl,h⟩:=k e w' he;exact h
theorem shaNone_at(b:Nat)(w:World)(hc:w.cell? ⟨b,10,none⟩=some (.bool true)):Calls prog 226 #[.pointer (some ⟨b,0,none⟩)] w (RetE (.bool false) w):=by
 go_enter func226,ntmps226;go_wp2;go_ret;exact⟨rfl,rfl⟩
def NewH(w:World):Ending->World->Prop:=fun e w'=>∃b,e=.returned (.pointer (some ⟨b,0,none⟩))/\w.heap.size<=b/\b<w'.heap.size/\w'.heap[b]?=some (.cells (yS shaBegin (.slice none 0 0) 0) 331 (0,0))/\Mod NoB w w'
theorem shaNew_any(w:World):Calls prog 182 #[] w (NewH w):=by
 go_enter func182,ntmps182;go_upto_region 1 with(fail);refine wpR [1,3,1,3] ?_;simp only[stz]
 refine wpD (yQ (zX 225 [] _ rfl _ func225 rfl (by kernel_rfl) [] rfl _) (begin_any _) (fun w1 hm1=>?_));try simp only[nmz]
 refine qC (v:=.agg (yS shaBegin (.slice none 0 0) 0)) rfl (fun w'=>qO 331 _ _ _ (by rfl) (by rfl) builtH) ?_;simp only[nmz]
 refine wpD (zL 331 _ _ (by rfl) (by rfl) (fun w2 hB2 hm2 hs2=>?_))
 replace hB2:w2.heap[w1.heap.size]?=some (.cells (yS shaBegin (.slice none 0 0) 0) 331 (0,0)):=hB2;simp only[stz];go_wp2;go_ret
 exact⟨_,rfl,hm1.size,hs2,hB2,hm1.trans0 hm2⟩
def restN(w:World)(b:Nat):Nat:=match w.cell? ⟨b,8,none⟩with
 |some (.slice _ n _)=>n
 |_=>0
theorem restN_of{w:World}{b:Nat}{s:W8}{ad:Option Addr}{n cap m:Nat}(h:w.heap[b]?=some (.cells (yS s (.slice ad n cap) m) 331 (0,0))):restN w b=n:=by
 unfold restN;rw[cell_of_row _ _ _ _ _ _ h]
 rfl
def WRel(w0:World)(bh:Nat)(m:List UInt8)(w:World):Prop:=∃k rest,64*k<=m.length/\w.heap[bh]?=some (.cells (yS (xD k shaBegin m) rest m.length) 331 (0,0))/\
 Sl false w (fun g=>w0.heap.size<=g) 1 ByteC rest (m.drop (64*k))/\Mod (fun k=>k=bh) w0 w
def WriteR(w0:World)(bh:Nat)(m:List UInt8):Ending->World->Prop:=fun e w=>e=.returned (.int .i64 0)/\∃rest,w.heap[bh]?=some (.cells (yS (xD (m.length/64) shaBegin m) rest m.length) 331 (0,0))/\
 Sl false w (fun g=>w0.heap.size<=g) 1 ByteC rest (m.drop (64*(m.length/64)))/\Mod (fun k=>k=bh) w0 w
theorem byte_i:(prog.info? 5).map (fun i=>(i.zero,i.size,i.bytes))=some (some (.int .u8 0),1,1):=by kernel_rfl
theorem shaWrite_any{own:Bool}{G:Nat->Prop}{v:Value}{m:List UInt8}{w:World}(hb:Sl own w G 1 ByteC v m)(hl:m.length<=140737488355328)(bh:Nat)(hG:∀k,G k->k≠bh)
 (hrow:w.heap[bh]?=some (.cells (yS shaBegin (.slice none 0 0) 0) 331 (0,0))):
 Calls prog 183 #[.pointer (some ⟨bh,0,none⟩),v] w (WriteR w bh m):=by
 have hbh:bh<w.heap.size:=by
  rcases Nat.lt_or_ge bh w.heap.size with h|h
  ·exact h
  ·rw[Array.getElem?_eq_none h]at hrow;cases hrow
 have hc10:w.cell? ⟨bh,10,none⟩=some (.bool true):=by rw[cell_of_row _ _ _ _ _ _ hrow];rfl
 have hbS:=hid hb;obtain⟨ad,cap,rfl,hle,hmx,-⟩:=hb;go_enter func183,ntmps183
 go_upto_region 3 with(go_at_call 226;refine(shaNone_at bh _ hc10).mono ?_;rintro _ w3 ⟨rfl,hw⟩;obtain rfl:=hw.symm);refine wpR [3,3,3,1,3,3,3,3,3,1] ?_
 simp only[stz];refine wpXd (v:=(.int .i64 0)) 3 bh 9 (by rw[cell_of_row _ _ _ _ _ _ hrow];rfl) underlying3 trivial ?_;simp only[stz];refine wpPL ?_;simp only[nmz]
 refine zF _ _ _ _ 0 (m.length:Int) (m.length:Int) rfl rfl rfl rfl (by omega) (by omega) (by omega) ?_;simp only[stz]
 refine wpD (qR 3 _ _ bh 9 (.int .i64 (m.length:Int)) (by rfl) (by rfl) (by rfl) rfl (by kernel_rfl) _ _ hrow (by simp[yS]) (fun w2 hB2 hm2=>?_))
 replace hB2:w2.heap[bh]?=some (.cells (yS shaBegin (.slice none 0 0) m.length) 331 (0,0)):=hB2;simp only[stz];go_upto_region 4 with(fail)
 have hbS2:=hbS.out.keepB hm2 hG;obtain⟨css,hall,hcs,hsrc⟩:=hbS2.src (by omega);refine wpR [3,3,3,3,1,3,1,3,3,1] ?_;simp only[stz]
 refine wpXd (v:=(.slice none 0 0)) 53 bh 8 (by rw[cell_of_row _ _ _ _ _ _ hB2];rfl) underlying53 trivial ?_;simp only[stz]
 refine wpD (xJ _ _ 53 5 (.int .u8 0) 1 1 (by rfl) underlying53 byte_i (by kernel_rfl) (by omega) w2.heap.size _ 0 [] (by rfl) ⟨rfl,.inl ⟨rfl,rfl⟩⟩ _ m.length _ (by rfl) hsrc (all2_one hall fun _ _=>byteC_one) (by omega) (by omega) (by omega) (fun v3 w3 ho3 hg3 hv3=>?_))
 have hm3:Mod NoB w2 w3:=(Mod.refl _ _).grown hg3 (fun k e _=>nomatch (show(none:Option Nat)=some k from e))
 have hs3:Sl true w3 (fun k=>w2.heap.size<=k/\k<w3.heap.size/\v3.ownBlock=some k) 1 ByteC v3 m:=Sl.of_owns ho3 (List.nil_append _) hcs hall (Nat.zero_add _)
 replace hB2:=hm3.obj id hB2;simp only[stz]
 refine wpD (qR 53 _ _ bh 8 v3 (by rfl) (by rfl) (by rfl) hs3.one (by kernel_rfl) _ _ hB2 (by simp[yS]) (fun w4 hB4 hm4=>?_))
 replace hB4:w4.heap[bh]?=some (.cells (yS shaBegin v3 m.length) 331 (0,0)):=hB4;simp only[stz];have hw2:=hm2.size;have hw3:=hm3.size
 have hM4:Mod (fun k=>k=bh) w w4:=(hm2.trans hm3 (fun _ _ h=>h.elim)).trans hm4 (fun _ _ h=>h)
 have hs4:Sl false w4 (fun g=>w.heap.size<=g) 1 ByteC v3 m:=((hs3.keepB hm4 (fun k hk=>by have:=hk.1;omega)).mono (G':=fun g=>w.heap.size<=g) (fun k hk=>Nat.le_trans hw2 hk.1) (fun _ _ h=>h)).weak
 clear hB2 hs3 hm2 hm3 hm4 hg3 hv3 ho3 hsrc hall hcs hbS2 hbS hc10 hrow;go_wp2
 go_loopw [] (WRel w bh m) (fun w'=>restN w' bh)
 case atStart=>exact⟨0,v3,by omega,hB4,hs4,hM4⟩
 case round=>
  rename World=>wr
  clear hB4 hs4 hM4;obtain⟨k,rest,hk,hrow,hsl,hM⟩:=hrel;obtain⟨r,hr⟩:∃r,m.drop (64*k)=r:=⟨_,rfl⟩
  have hrl:r.length=m.length-64*k:=by rw[<-hr,List.length_drop]
  rw[hr]at hsl;have hslH:=hid hsl;obtain⟨ad2,cap2,rfl,hle2,hmx2,-⟩:=hsl;have hrowH:=hid hrow
  have hc8:wr.cell? ⟨bh,8,none⟩=some (.slice ad2 r.length cap2):=by rw[cell_of_row _ _ _ _ _ _ hrow];rfl
  by_cases hlt:64<=r.length
  ·have hz:(64:Int)<=(r.length:Int):=by omega
   go_upto_region 6 with(fail);have hS:Mod (fun k=>k=bh) wr wr.drew/\wr.drew.cell? ⟨bh,8,none⟩=some (.slice ad2 r.length cap2):=⟨(Mod.refl _ _).drew,hc8⟩
   refine wpRZ [3,3,3,3,3,3,0,3,1] [] (fun w'=>Mod (fun k=>k=bh) wr w'/\w'.cell? ⟨bh,8,none⟩=some (.slice ad2 r.length cap2)) hS ?_;simp only[stz]
   refine wpLd 53 bh 8 (fun w' hS=>hS.2) underlying53 ?_;simp only[nmz];refine jC 53 5 _ _ _ _ _ 64 1 rfl rfl rfl rfl underlying53 (by kernel_rfl) (by omega) ?_
   simp only[nmz];refine qL rfl (fun K hK=>?_)
   refine wpC func227 (block_any ((hslH.out.keep0 (Mod.refl NoB wr).drew).fst 64 hlt) (by rw[List.length_take];omega) bh 0 _ _ (xD k shaBegin m) (show wr.drew.heap[bh]?=_ from hrowH.out) (by simp[yS]) (fun j hj=>hashRow_at _ _ _ j hj)) ?_
   rintro e w5 ⟨rfl,hB5,hm5⟩;rw[hashRow_put]at hB5
   have hS5:Mod (fun k=>k=bh) wr w5:=(show Mod (fun k=>k=bh) wr wr.drew from(Mod.refl _ _).drew).trans hm5 (fun _ _ h=>h)
   refine⟨_,rfl,hK _ _ ⟨hS5,by rw[cell_of_row _ _ _ _ _ _ hB5];rfl⟩ ?_⟩;clear hK K;simp only[stz];clear hS hm5;go_upto_region 7 with(fail)
   refine wpR [3,3,3,3,1,3,3,3,1] ?_;simp only[stz]
   refine wpXd (v:=(.slice ad2 r.length cap2)) 53 bh 8 (by rw[cell_of_row _ _ _ _ _ _ hB5];rfl) underlying53 trivial ?_;try simp only[nmz]
   refine yX 53 5 _ _ _ _ _ 64 1 rfl rfl rfl rfl underlying53 (by kernel_rfl) hlt ?_;simp only[stz]
   refine wpD (qR 53 _ _ bh 8 (sliced ad2 64 r.length cap2 1) (by rfl) (by rfl) (by rfl) rfl (by kernel_rfl) _ _ hB5 (by simp[yS]) (fun w6 hB6 hm6=>?_))
   replace hB6:w6.heap[bh]?=some (.cells (yS (blockL (xD k shaBegin m) (r.take 64)) (sliced ad2 64 r.length cap2 1) m.length) 331 (0,0)):=hB6;simp only[stz]
   have hS6:Mod (fun k=>k=bh) wr w6:=hS5.trans hm6 (fun _ _ h=>h);have hM6:Mod (fun k=>k=bh) w w6:=hM.trans hS6 (fun _ _ h=>h)
   have hsl6:=(hslH.out.cut 64 hlt).keepB hS6 (fun k hk=>by have hk':w.heap.size<=k:=hk;omega);have hrest:restN w6 bh=r.length-64:=restN_of hB6
   have hrest0:restN wr bh=r.length:=restN_of hrowH.out;have hd:r.drop 64=m.drop (64*(k+1)):=by rw[<-hr,List.drop_drop];congr 1
   have hblk:blockL (xD k shaBegin m) (r.take 64)=xD (k+1) shaBegin m:=by rw[blocksL_add,hr];rfl
   rw[hblk]at hB6;rw[hd]at hsl6;have HW6:Hid (WRel w bh m w6):=⟨k+1,_,by omega,hB6,hsl6,hM6⟩;have HME:Hid (restN w6 bh<restN wr bh):=by unfold Hid;omega
   clear hB5 hB6 hsl6 hM6 hS6 hm6 hrest hrest0 hS5 hblk hd;go_wp2
   go_roundw
   case rel=>exact HW6.out
   case measure=>exact HME.out
  ·have hz:¬(64:Int)<=(r.length:Int):=by omega
   go_wp2;go_ret;have hkk:m.length/64=k:=by omega
   exact⟨rfl,_,by rw[hkk];exact hrowH.out,by rw[hkk,hr];exact hslH.out,hM⟩
section
variable{P:Program}{w:World}{o:Oper}{a:Act}
theorem exec_mul64(t:TypeId)(x y:Operand)(yt:TypeId)(m n d:Nat)(ho:o.op=.binOp .mul t x y yt)(hx:a.eval x=.int .u64 (m:Int))(hy:a.eval y=.int .u64 (n:Int))(hd:m*n=d)(hv:d<18446744073709551616):(execOp a.eval o).run P w=.ok (.value (.int .u64 (d:Int))) w:=by
 subst hd
 have h1:IntKind.u64.wrap ((m:Int)*(n:Int))=((m*n:Nat):Int):=by
  rw[<-Int.natCast_mul]
  simp[IntKind.wrap,IntKind.bits,IntKind.signed];omega
 unfold execOp;simp only[ho,hx,hy]
 go_simp
 try exact h1
theorem exec_shr64(t:TypeId)(x y:Operand)(yt:TypeId)(m:Nat)(k:IntKind)(n:Nat)(ho:o.op=.binOp .shr t x y yt)(hx:a.eval x=.int .u64 (m:Int))(hy:a.eval y=.int k (n:Int))(hn:n<=63)(hm:m<18446744073709551616):(execOp a.eval o).run P w=.ok (.value (.int .u64 ((m/2^n:Nat):Int))) w:=by
 have h1:(0:Int)<=(m:Int)/2^n:=Int.ediv_nonneg (by omega) (Int.le_of_lt (Int.pow_pos (by omega)))
 have h2:(m:Int)/2^n<=(m:Int):=Int.ediv_le_self _ (by omega);have h3:((m/2^n:Nat):Int)=(m:Int)/2^n:=by simp
 rw[h3];unfold execOp;simp only[ho,hx,hy]
 go_simp
 all_goals (try rw[Int.emod_eq_of_lt h1 (by omega)])
theorem exec_byte_of_u64(t u:TypeId)(x:Operand)(m:Nat)(ho:o.op=.convert t u x)(hx:a.eval x=.int .u64 (m:Int))(ht:(P.underlying t).isSome=true)(hu:P.underlying u=some (.int .u8)):
 (execOp a.eval o).run P w=.ok (.value (byteV (UInt8.ofNat m))) w:=by
 unfold execOp;simp only[ho,hx];have hk:P.intKind u=.u8:=by simp[Program.intKind,hu]
 have h1:=run_convert_int (P:=P) w t u .u64 (m:Int) ht (by rw[hk];exact hu);rw[hk]at h1
 have h2:IntKind.u8.wrap (m:Int)=((UInt8.ofNat m).toNat:Int):=by
  rw[IntKind.wrap_u8']
  simp
 rw[h2]at h1;rw[Sem.run_bind,h1]
 rfl
end
theorem zE{S:Nat->Prop}{w w':World}{base e size k:Nat}{v:Value}{xs:List Value}(h:w.ownsRow base e size v k xs)(hm:Mod S w w')(hS:∀k,v.ownBlock=some k->¬S k):w'.ownsRow base e size v k xs:=by
 refine⟨h.1,?_⟩
 rcases h.2 with h|⟨g,cap,cur,rfl,hb,hg,r⟩
 ·exact .inl h
 ·exact .inr ⟨g,cap,cur,rfl,hb,hm.obj (hS g rfl) hg,r⟩
def Bts(base:Nat)(w:World)(v:Value)(xs:List UInt8):Prop:=w.ownsRow base 5 1 v xs.length (xs.map byteV)
theorem bytes_flat(xs:List UInt8):xs.map byteV=(xs.map fun x=>#[byteV x]).flatMap Array.toList:=by
 induction xs with
 |nil=>rfl
 |cons x xs ih=>rw[List.map_cons,List.map_cons,List.flatMap_cons,ih];rfl
theorem Bts.sl{base:Nat}{w:World}{v:Value}{xs:List UInt8}(h:Bts base w v xs):Sl true w (fun k=>base<=k/\k<w.heap.size/\v.ownBlock=some k) 1 ByteC v xs:=
 Sl.of_owns h (bytes_flat xs) (fun c hc=>by obtain⟨x,_,rfl⟩:=List.mem_map.1 hc;rfl) ⟨by simp,fun i h1 h2=>by simp[ByteC]⟩ rfl
theorem bytes_of_all{css:List (Array Value)}{l:List UInt8}(h:All2 ByteC css l):css.flatMap Array.toList=l.map byteV:=by
 have:css=l.map fun x=>#[byteV x]:=by
  apply List.ext_getElem
  ·simp[h.1]
  ·intro i h1 h2
   have:=h.2 i h1 (by rw[<-h.1];exact h1);rw[this];simp
 rw[this,bytes_flat]
theorem Sl.bsrc{own:Bool}{w:World}{G:Nat->Prop}{v:Value}{l:List UInt8}(h:Sl own w G 1 ByteC v l):Src w 1 v l.length (l.map byteV):=by
 obtain⟨css,h1,_,h2⟩:=h.src (by omega)
 rwa[bytes_of_all h1]at h2
theorem bytes_one(xs:List UInt8):∀c∈xs.map byteV,c.oneCell'=true:=by
 intro c hc;obtain⟨x,_,rfl⟩:=List.mem_map.1 hc
 rfl
theorem owns_lit{w:World}{b:Nat}{x:UInt8}(h:w.heap[b]?=some (.cells #[byteV x] 5 (0,0))):w.ownsRow b 5 1 (.slice (some ⟨b,0,none⟩) 1 1) 1 [byteV x]:=
 ⟨rfl,.inr ⟨b,1,#[byteV x],rfl,Nat.le_refl _,h,by omega,by unfold maxLen;omega,rfl,rfl⟩⟩
theorem jH{o:Oper}{a:Act}{w:World}{K:Act->World->Prop}{Q:Exit->Act->World->Prop}(s x:Operand)(ho:o.op=.call { callee:=.builtin .append,args:=#[s,x],argTypes:=#[53,53] })
 (base:Nat)(v:Value)(xs:List UInt8)(hs:a.eval s=v)(hown:Bts base w v xs)(u:Value)(ys:List UInt8)(hx:a.eval x=u)(hsrc:Src w 1 u ys.length (ys.map byteV))(hlen:xs.length+ys.length<=140737488355328)(hbase:base<=w.heap.size)
 (h:∀v' w',Bts base w' v' (xs++ys)->Mod (fun k=>v.ownBlock=some k) w w'->K (a.put o.dst v') w'):o.wp prog a w K Q:=by
 refine xJ s x 53 5 (.int .u8 0) 1 1 ho underlying53 byte_i (by kernel_rfl) (by omega) base v xs.length _ hs hown u ys.length _ hx hsrc (bytes_one ys) (by unfold maxLen;omega) (by omega) hbase (fun v' w' ho' hg hv=>?_)
 refine h v' w' ?_ ((Mod.refl _ _).grown hg (fun k e _=>e));unfold Bts;rw[List.length_append,List.map_append];exact ho'
theorem Bts.lt{base:Nat}{w:World}{v:Value}{xs:List UInt8}(h:Bts base w v xs){k:Nat}(e:v.ownBlock=some k):base<=k/\k<w.heap.size:=World.ownsRow.lt h k e
theorem Bts.keep{S:Nat->Prop}{base:Nat}{w w':World}{v:Value}{xs:List UInt8}(h:Bts base w v xs)(hm:Mod S w w')(hn:∀k,v.ownBlock=some k->¬S k):Bts base w' v xs:=zE h hm hn
def CloneR(w:World)(m:List UInt8):Ending->World->Prop:=fun e w'=>∃v,e=.returned v/\Bts w.heap.size w' v m/\Mod NoB w w'
theorem bytesClone_any{own:Bool}{G:Nat->Prop}{v:Value}{m:List UInt8}{w:World}(hb:Sl own w G 1 ByteC v m)(hl:m.length<=140737488355328):Calls prog 93 #[v] w (CloneR w m):=by
 have hbS:=hid hb;obtain⟨ad,cap,rfl,hle,hmx,hne⟩:=hb
 cases ad with
 |none=>
  have hm:m=[]:=by
   cases m with
   |nil=>rfl
   |cons x m=>obtain⟨b,off,h,_⟩:=hne (by simp);cases h
  subst hm;clear hne;rw[List.length_nil];have heq:=fun w=>Lib.run_eql_slice_nil (P:=prog) w 53 5 none 0 cap 0 0 underlying53;go_enter func93,ntmps93;go_wp2;go_ret
  exact⟨_,rfl,⟨rfl,.inl ⟨rfl,rfl⟩⟩,Mod.refl _ _⟩
 |some q=>
  clear hne;have heq:=fun w=>Lib.run_eql_slice_nil (P:=prog) w 53 5 (some q) m.length cap 0 0 underlying53;go_enter func93,ntmps93;go_upto_region 3 with(fail)
  refine wpR [1,3,1,3] ?_;simp only[stz];refine wpD (xA 53 5 (by rfl) underlying53 (by kernel_rfl) (fun w1 hB1 hm1 hs1=>?_));simp only[stz]
  refine wpD (jH _ _ (by rfl) w.heap.size _ [] (by rfl) (yN _ hB1 (Nat.le_refl _)) _ m (by rfl) (hbS.out.keep0 hm1).bsrc (by simpa using hl) hm1.size (fun v' w2 ho2 hm2=>?_))
  rw[List.nil_append]at ho2;simp only[stz];go_wp2;go_ret
  exact⟨_,rfl,ho2,hm1.trans hm2 (fun k hk e=>by
   have e':some w.heap.size=some k:=e
   cases e';omega)⟩
end
section
open Go.RowKit Go.Shelf Go.Proofs.Tryz Go.Lib
theorem key_i:(prog.info? 241).map (fun i=>(i.zero,i.size,i.bytes))=some (some (.agg keyZero),33,48):=by kernel_rfl
def keyL(k:KeyS):List Value:=(zG k.1).toList
theorem keyL_one(k:KeyS):∀c∈keyL k,c.oneCell'=true:=fun c hc=>keyCells_one k.1 c (by simpa[keyL]using hc)
theorem keyL_len(k:KeyS):(keyL k).length=33:=by simp[keyL,zW k.2]
def GotK(n0:Nat)(Bs:Nat)(ks:List KeyS)(w:World):Prop:=∃v,Boxed w Bs 238 v/\w.ownsRow n0 241 33 v ks.length (ks.flatMap keyL)
theorem gotK_own(n0 Bs:Nat):Own (GotK n0 Bs):=by
 intro s A B row hs hg hr;obtain⟨v,h1,h2⟩:=hs
 obtain⟨v,h1,h2,_⟩:=holdsRow_own n0 Bs 238 241 33 (fun ks:List KeyS=>ks.length) (fun ks=>ks.flatMap keyL) (fun _ _=>True) s A B row ⟨v,h1,h2,trivial⟩ hg hr
 exact⟨v,h1,h2⟩
def AxK(fv:Value)(Bs:Nat)(x:KeyS)(a:Act)(w:World):Prop:=∃Bx,w.heap[Bx]?=some (.cells (zG x.1) 241 (0,0))/\a={ tmps:=#[.slice none 0 0,fv,.pointer (some ⟨Bs,0,none⟩),undef,.slice none 0 0,.pointer (some ⟨Bx,0,none⟩),fv,keyE x,undef,undef,undef,undef,undef],defers:=[] }
theorem appendSeqK_any(n:Nat)(hn:3<=n)(g:Nat)(lb:Array Value)(eg:∀args w,(callFunc g args).run prog w=.ok (.enter g args) w)(S Sp:List KeyS->Prop)(N:Nat)(hN:N<=65536)(w:World)(hseq:SeqStopsK Fence.wide (n-1) prog g lb (fun k:KeyS=>#[keyE k]) KeepsWalks S Sp N w):
 Calls prog 235 #[.slice none 0 0,.func (.func g) #[] lb] w fun e w'=>∃v ks,e=.returned v/\S ks/\w'.ownsRow w.heap.size 241 33 v ks.length (ks.flatMap keyL)/\Below w.heap.size w w':=by
 refine(callsIn_wide (n:=n)).1 (callsIn_of_wp_marks func235 rfl trivial ?_ rfl)
 simp only[ntmps235,List.size_toArray,List.length_cons,List.length_nil,Nat.reduceAdd,Nat.reduceSub,Array.replicate_succ,Array.replicate_zero,List.push_toArray,List.append_toArray,List.nil_append,List.cons_append]
 gi_wp2
 obtain⟨W0,hW0⟩:∃W0,w.alloc (.cells #[.slice none 0 0] 238)=W0:=⟨_,rfl⟩;have hs0:W0.heap.size=w.heap.size+1:=by rw[<-hW0];simp
 have hv0:Boxed W0 w.heap.size 238 (.slice none 0 0):=by rw[<-hW0];exact World.alloc_heap_new w _
 have hb0:Below w.heap.size w W0:=by rw[<-hW0];exact(Below.refl _ w).alloc (Nat.le_refl _) _
 rw[hW0];clear hW0
 refine wpIn_rangeFunc_ownH rfl (by omega) (gf:=g) (lb:=lb) (by rfl) trivial eg hseq walksK_t walksK_b hb0 (fun _=>rfl)
  (fun ks W=>GotK w.heap.size w.heap.size ks W/\Below w.heap.size w W) (fun _ _ _=>False)
  (OwnFrom.and (Own.from (gotK_own _ _) _) (ownFrom_below (Nat.le_refl _) (by omega)))
  (fun _ _ _ _ _ hs _ _=>hs)
  ⟨⟨_,hv0,World.ownsRow_nil _ _ _ _⟩,hb0⟩
  (AxK (.func (.func g) #[] lb) w.heap.size)
  (fun x a' s A B row hs hg hr=>by
   obtain⟨Bx,h1,rfl⟩:=hs;refine⟨Bx,(hg.block Bx (Array.getElem?_eq_some_iff.1 h1).1 (fun e=>?_)).trans h1,rfl⟩;obtain⟨_,o,ho,hc⟩:=hr Bx e.symm
   rw[h1]at ho;cases ho;cases hc)
  ?assign ?body ?done ?stop
 case assign=>
  rintro l pre x W K ⟨⟨v,hv,hrow⟩,hB⟩ hK0
  simp only[List.zip_toArray,List.zip_cons_cons,List.zip_nil_right,List.foldl_toArray',List.foldl_cons,List.foldl_nil,List.setIfInBounds_toArray,ss,sz]
  refine wpIn_region_lit ?_;refine qV rfl rfl fun K hK=>?_;refine qN 241 _ (by rfl) keyZ (fun w3 hB3 hm3 hs3=>?_)
  replace hB3:w3.heap[W.heap.size]?=some (.cells keyZero 241 (0,0)):=hB3;refine hK _ _ ?_;clear hK K;refine qV rfl rfl fun K hK=>?_
  refine qF 241 _ _ W.heap.size 0 (zG x.1) (by rfl) (by rfl) (by rfl) (keyCells_one x.1) 33 (by kernel_rfl) (zW x.2) _ _ hB3 (by rw[zW x.2];exact Nat.le_of_eq (by kernel_rfl)) (fun w4 hB4 hm4=>?_)
  have hm24:Mod NoB W w4:=hm3.transB hm4 (Nat.le_refl _);rw[qD (by rw[zW x.2];kernel_rfl)]at hB4;refine hK _ _ ?_;clear hK K;refine wpListIn_nil ?_
  refine hK0 _ _ (hm24.keepsOthers0.from _) hm24.keepsOthers0.walks ⟨⟨v,hm24.obj id hv,zE hrow hm24 (fun _ _=>id)⟩,hB.trans (hm24.below0.mono hB.size)⟩ ⟨W.heap.size,hB4,rfl⟩
 case body=>
  rintro l pre x a' W hl ⟨r,hr⟩ ⟨⟨v,hv,hrow⟩,hB⟩ ⟨Bx,hBx,rfl⟩ hlt;have hvc:=hv.cell;have hca:CellsAt W Bx 0 (zG x.1):=CellsAt.whole hBx;refine wpIn_block ?_
  refine wpIn_region_lit ?_;refine qV rfl rfl fun K hK=>?_;refine zS (zA 238 _ (by rfl) w.heap.size 0 (by rfl) v hvc _ underlying238 rfl) ?_
  refine hK _ _ ?_;clear hK K;refine qV rfl rfl fun K hK=>?_
  refine zS (zK 241 _ (by rfl) Bx 0 (by rfl) (zG x.1) hca _ underlying241 rfl 33 (by kernel_rfl) (zW x.2)) ?_;refine hK _ _ ?_;clear hK K
  simp only[nmz];refine qV rfl rfl fun K hK=>?_
  refine qQ 238 241 _ (.agg (zG x.1)) (.agg keyZero) 33 (by rfl) (by rfl) underlying238 (by kernel_rfl) (by omega) (by omega) (zW x.2) (fun w3 hB3 hm3 hs3=>?_)
  refine hK _ _ ?_;clear hK K;simp only[nmz];have hv3:Boxed w3 w.heap.size 238 v:=hm3.obj id hv;have hrow3:=zE hrow hm3 (fun _ _=>id)
  have hb3:=hm3.below0.mono hB.size;have hsz:=hB.size;have hplen:=hlt;refine qV rfl rfl fun K hK=>?_
  refine xJ _ _ 238 241 (.agg keyZero) 33 48 (by rfl) underlying238 key_i (by kernel_rfl) (by omega) w.heap.size v pre.length (pre.flatMap keyL) (by rfl) hrow3 (.slice (some ⟨W.heap.size,0,none⟩) 1 1) 1 (keyL x) (by rfl) ⟨by simp[keyL_len],_,_,rfl,fun _=>⟨W.heap.size,0,rfl,fun j y hj=>?_⟩⟩ (keyL_one x) (by unfold maxLen;omega) (by omega) (by omega) (fun v' w4 hrow4 hg4 hv4=>?_)
  ·have:(zG x.1)[j]?=some y:=by simpa[keyL]using hj
   exact(CellsAt.whole hB3).cell this
  have hne:some w.heap.size≠v.ownBlock:=hv.not_row (by decide) hrow;have hbx4:Boxed w4 w.heap.size 238 v:=hv3.kept hg4 hne
  have hv1:v'.oneCell'=true:=by
   rcases hrow4.2 with⟨rfl,_⟩|⟨g,cap,cur,rfl,_⟩<;>rfl
  refine hK _ _ ?_;clear hK K;simp only[nmz];refine qV rfl rfl fun K hK=>?_
  refine qR 238 _ _ w.heap.size 0 v' (by rfl) (by rfl) (by rfl) hv1 (by kernel_rfl) _ _ hbx4 (by simp) (fun w5 hB5 hm5=>?_);replace hB5:Boxed w5 w.heap.size 238 v':=hB5
  refine hK _ _ ?_;clear hK K;refine wpListIn_nil ?_;have hne':some w.heap.size≠v'.ownBlock:=hbx4.not_row (by decide) hrow4
  have hrow5:=zE hrow4 hm5 (fun k hk e=>hne' (by rw[hk,e]))
  have hk4:KeepsOthers w3 w4:=KeepsOthers.of_grownBy hg4 (fun j o hj ho=>by
   rcases hrow3.2 with⟨rfl,_⟩|⟨g,cap,cur,rfl,_,hg,_⟩
   ·cases hj
   ·have e:g=j:=by simpa[Value.ownBlock]using hj
    subst e;rw[hg]at ho;cases ho;rfl)
  have hk5:KeepsOthers w4 w5:=hm5.keepsOthers (fun k o e ho=>by rw[e,hbx4]at ho;cases ho;rfl);have hko:=(hm3.keepsOthers0.trans hk4).trans hk5
  have hb4:Below w.heap.size w w4:=(hB.trans hb3).grown hg4 (by have:=hm3.size;omega) (fun k e=>(hrow3.lt k e).1)
  have hb5:Below w.heap.size w w5:=hb4.trans ⟨hm5.os,hm5.tape,hm5.output,hm5.size,fun k hk=>hm5.block k (by have:=hb4.size;omega) (fun e=>by have e:k=w.heap.size:=e;omega)⟩
  exact⟨hko.from _,hko.walks,⟨_,hB5,by simpa using hrow5⟩,hb5⟩
 case done=>
  rintro D ks W hD hks ⟨⟨v,hv,hrow⟩,hB⟩ hK;have hvc:=hv.cell
  gi_wp2
  refine⟨by simp,.inl ⟨_,_,rfl,run_takeDeferred hK,?_⟩⟩
  exact⟨_,results_tmp rfl _ _ _,v,ks,rfl,hks,ownsRow_putObj hrow _ hK rfl,hB.trans (belowK_b (w:=w) (Nat.le_refl _) W D _ _ (by omega) hK rfl rfl)⟩
 case stop=>
  rintro D c pre W _ _ h _;exact h.elim
theorem collectK_any(n:Nat)(hn:3<=n)(g:Nat)(lb:Array Value)(eg:∀args w,(callFunc g args).run prog w=.ok (.enter g args) w)(S Sp:List KeyS->Prop)(N:Nat)(hN:N<=65536)(w:World)(hseq:SeqStopsK Fence.wide (n-1) prog g lb (fun k:KeyS=>#[keyE k]) KeepsWalks S Sp N w):
 Calls prog 205 #[.func (.func g) #[] lb] w fun e w'=>∃v ks,e=.returned v/\S ks/\w'.ownsRow w.heap.size 241 33 v ks.length (ks.flatMap keyL)/\Below w.heap.size w w':=by
 go_enter func205,ntmps205;go_wp2_with (go_at_call 235;refine(appendSeqK_any n hn g lb eg S Sp N hN _ hseq).mono ?_;rintro _ w1 ⟨v,ks,rfl,h1,h2,h3⟩);go_ret
 exact⟨v,ks,rfl,h1,h2,h3⟩
end
section
open Go.RowKit Go.Proofs.Tryz Go.Lib
theorem keyCells_at1{p:Key}(j:Nat)(hj:j<(qA p.2).size):(zG p)[1+j]?=(qA p.2)[j]?:=by
 simp only[zG];rw[Array.getElem?_append_right (by simp)]
 simp
theorem keyAt0{w:World}{b:Nat}{p:Key}(h:w.heap[b]?=some (.cells (zG p) 241 (0,0))):w.cell? ⟨b,0,none⟩=some (.string p.1):=by
 have:=(CellsAt.whole h).cell (j:=0) (v:=.string p.1) (by simp only[zG];rw[Array.getElem?_append_left (by simp)];rfl)
 simpa using this
theorem keyAt1{w:World}{b:Nat}{p:Key}(h:w.heap[b]?=some (.cells (zG p) 241 (0,0))):CellsAt w b 1 (qA p.2):=CellsAt.of_obj h (fun j hj=>keyCells_at1 j hj)
theorem fill_ints(m n:Int):Instr.fill (fun i=>some (i*1,1)) (Array.map (fun x=>(Value.int .i64 0).cells[x%(Value.int .i64 0).cells.size]!) (Array.range (2*1))) [(0,.int .i64 m),(1,.int .i64 n)]=some #[.int .i64 m,.int .i64 n]:=by
 have h:(Array.map (fun x=>(Value.int .i64 0).cells[x%(Value.int .i64 0).cells.size]!) (Array.range (2*1)))=#[.int .i64 0,.int .i64 0]:=by kernel_rfl
 rw[h];have cx:∀k:Int,(Value.int .i64 k).cells=#[.int .i64 k]:=fun _=>rfl
 rw[zC (off:=0) (size:=1) rfl (by simp[cx]) (by simp),zC (off:=1) (size:=1) rfl (by simp[cx]) (by simp[qY,cx]),xY]
 simp[qY,cx]
theorem wp_two{o:Oper}{act:Act}{w:World}{K:Act->World->Prop}{Q:Exit->Act->World->Prop}(x y:Operand)(m n:Int)(ho:o.op=.buildSlice 64 2 #[(0,x),(1,y)])(hx:act.eval x=.int .i64 m)(hy:act.eval y=.int .i64 n)
 (h:∀w',w'.heap[w.heap.size]?=some (.cells #[.int .i64 m,.int .i64 n] 3 (0,0))->Grown w w'->w.heap.size<w'.heap.size->K (act.put o.dst (.slice (some ⟨w.heap.size,0,none⟩) 2 2)) w'):o.wp prog act w K Q:=by
 obtain⟨i,hi,hz⟩:∃i,prog.info? 3=some i/\i.zero=some (.int .i64 0)/\i.size=1:=by
  have h:(prog.info? 3).map (fun i=>(i.zero,i.size))=some (some (.int .i64 0),1):=by kernel_rfl
  cases hi:prog.info? 3 with
  |none=>simp[hi]at h
  |some i=>simp[hi]at h;exact⟨i,rfl,h⟩
 refine wp_buildSlice 64 3 2 _ ho #[.int .i64 m,.int .i64 n] i (.int .i64 0) underlying64 hi hz.1 (by rw[hz.2];omega) (by rw[hz.2];omega) ?_ ?_
 ·simp only[hz.2]
  have e:(Array.map (fun(x:Nat×Operand)=>(x.1,act.eval x.2)) #[(0,x),(1,y)])=#[(0,.int .i64 m),(1,.int .i64 n)]:=by simp only[List.map_toArray,List.map_cons,List.map_nil,hx,hy]
  have e':(Array.map (fun(ix:Nat×Operand)=>match ix with|(i,x)=>(i,act.eval x)) #[(0,x),(1,y)])=#[(0,.int .i64 m),(1,.int .i64 n)]:=e;rw[e']
  exact fill_ints m n
 ·exact h _ (heap_alloc_new _ _) ((Grown.refl _).alloc _) (by simp)
theorem idsF_any(p q:Key)(hp:KeyOk p)(hq:KeyOk q)(w:World):Calls prog 146 #[.agg (zG p),.agg (zG q)] w (RetG (.int .i64 (cmpK p q)) w):=by
 go_enter func146,ntmps146;go_upto_region 0 with(fail);refine wpR [1,1,3] ?_;simp only[stz];refine wpD (wp_boxG 241 _ _ (by rfl) (by rfl) (fun w1 hB1 hm1 hs1=>?_))
 replace hB1:w1.heap[w.heap.size]?=some (.cells (zG p) 241 (0,0)):=hB1;try simp only[nmz]
 refine wpD (wp_boxG 241 _ _ (by rfl) (by rfl) (fun w2 hB2 hm2 hs2=>?_));replace hB2:w2.heap[w1.heap.size]?=some (.cells (zG q) 241 (0,0)):=hB2;simp only[stz]
 replace hB1:=hm2.mod.obj id hB1;have hM:=hm1.trans hm2;clear hm1 hm2;go_upto_region 1 with(fail);have hS:Grown w2 w2.drew:=(Grown.refl w2).drew
 refine wpRZ [3,0,3,0,0,3,0,3,0,1,1,1,3] [] (fun w'=>Grown w2 w') hS ?_;simp only[stz]
 refine wpLd 9 w.heap.size 0 (fun w' hS=>keyAt0 (hS.mod.obj id hB1)) underlying9 ?_;simp only[stz]
 refine wpLd 9 w1.heap.size 0 (fun w' hS=>keyAt0 (hS.mod.obj id hB2)) underlying9 ?_;simp only[nmz]
 refine yT (f:=148) rfl ?_ (fun w' hS=>(cmpStr_any p.1 q.1 w').mono (fun e w' h=>h)) ?_
 ·exact zX 148 _ _ rfl _ func148 rfl (by kernel_rfl) _ rfl
 simp only[stz];refine wpLA 24 w.heap.size 1 (qA p.2) (fun w' hS=>keyAt1 (hS.mod.obj id hB1)) underlying24 32 (by rw[qB];exact hp) ?_;simp only[stz]
 refine wpLA 24 w1.heap.size 1 (qA q.2) (fun w' hS=>keyAt1 (hS.mod.obj id hB2)) underlying24 32 (by rw[qB];exact hq) ?_;simp only[nmz]
 refine qL rfl (fun K hK=>?_);go_wp2_with (go_at_call 35;refine(shaCompare_any p.2 q.2 hp hq _).mono ?_;rintro _ w3 ⟨rfl,hm3⟩);replace hm3:=hS.trans hm3
 refine hK _ _ hm3 ?_;clear hK K;try simp only[nmz]
 refine qL rfl (fun K hK=>?_);refine wp_two _ _ _ _ (by rfl) (by rfl) (by rfl) (fun w4 hB4 hm4 hs4=>?_);replace hm4:=hm3.trans hm4;refine hK _ _ hm4 ?_;clear hK K
 try simp only[nmz]
 refine qL rfl (fun K hK=>?_)
 have hc0:w4.cell? ⟨w3.heap.size,0,none⟩=some (.int .i64 (cmpI p.1.data.toList q.1.data.toList)):=by rw[cell_of_row w4 _ _ _ _ _ hB4];rfl
 have hc1:w4.cell? ⟨w3.heap.size,1,none⟩=some (.int .i64 (cmpI p.2 q.2)):=by rw[cell_of_row w4 _ _ _ _ _ hB4];rfl
 go_wp2_with (go_at_call 147;refine(cmpOr_any w3.heap.size _ _ w4 hc0 hc1).mono ?_;rintro _ w5 ⟨rfl,hw⟩;obtain rfl:=hw.symm);refine hK _ _ hm4 ?_;clear hK K;simp only[stz]
 go_wp2;go_ret;exact⟨rfl,hM.trans hm4⟩
end
section
open Go.RowKit Go.Shelf Go.Sort Go.Proofs.Tryz Go.Lib
section
variable{α:Type}[Inhabited α]{enc:α->List Value}{k:Nat}
theorem flat_enc(hk:∀x,(enc x).length=k):∀(l:List α)(i:Nat)(hi:i<l.length)(j:Nat),j<k->(l.flatMap enc)[i*k+j]?=(enc l[i])[j]?
 |x::l,0,_,j,hj=>by
  simp only[List.flatMap_cons,Nat.zero_mul,Nat.zero_add,List.getElem_cons_zero];rw[List.getElem?_append_left (by rw[hk];exact hj)]
 |x::l,i+1,hi,j,hj=>by
  simp only[List.flatMap_cons,List.getElem_cons_succ]
  rw[List.getElem?_append_right (by rw[hk,Nat.succ_mul];omega),hk,show(i+1)*k+j-k=i*k+j by rw[Nat.succ_mul];omega]
  exact flat_enc hk l i (by simpa using hi) j hj
theorem len_enc(hk:∀x,(enc x).length=k):∀(l:List α),(l.flatMap enc).length=l.length*k
 | []=>by simp
 |x::l=>by simp[len_enc hk l,hk,Nat.add_mul];omega
theorem holdsK_of_cells(hk:∀x,(enc x).length=k)(h0:0<k){w:World}{g e:Nat}{cur:Array Value}{l:List α}(h:w.heap[g]?=some (.cells cur e (0,0)))(ht:cur.toList.take (l.length*k)=l.flatMap enc):HoldsK enc k w g 0 l.toArray:=by
 intro t ht';have hlt:t<l.length*k:=by simpa using ht'
 have hi:t/k<l.length:=Nat.div_lt_of_lt_mul (by rw[Nat.mul_comm];exact hlt);have hm:t%k<k:=Nat.mod_lt _ h0
 have e0:t/k*k+t%k=t:=by rw[Nat.mul_comm];exact Nat.div_add_mod t k
 have h1:=flat_enc hk l (t/k) hi (t%k) hm;rw[e0,<-ht,List.getElem?_take_of_lt hlt]at h1
 have h2:(flatK enc k l.toArray)[t]! =(enc l[t/k])[t%k]'(by rw[hk];exact hm):=by
  rw[get_flatK _ _ _ _ (by simpa using hlt)];have:l.toArray[t/k]! =l[t/k]:=by simp[hi]
  rw[this];exact getElem!_pos _ _ (by rw[hk];exact hm)
 refine⟨?_,by simp[World.frozen?,h]⟩;rw[Nat.zero_add,cell_of_row w g _ cur e (0,0) h,h2];rw[Array.getElem?_toList]at h1;rw[h1];exact List.getElem?_eq_getElem _
theorem sl_of_holdsK(hk:∀x,(enc x).length=k){w:World}{g cap:Nat}{l:List α}(h:HoldsK enc k w g 0 l.toArray)(hc:l.length<=cap)(hm:cap<=maxLen):
 Sl false w (fun j=>j=g) k (fun cs x=>cs=(enc x).toArray) (.slice (some ⟨g,0,none⟩) l.length cap) l:=by
 refine⟨_,cap,rfl,hc,hm,fun _=>⟨g,0,rfl,rfl,fun h=>(by cases h),fun i hi=>⟨(enc l[i]).toArray,by simp[hk],rfl,fun j hj=>?_⟩⟩⟩
 have hj':j<k:=by simpa[hk]using hj
 have:=(h.cell (i:=i) (c:=j) (by simpa using hi) hj').1;have e:l.toArray[i]! =l[i]:=by simp[hi]
 rw[e]at this;rw[this];have h2:(enc l[i])[j]! =(enc l[i])[j]'(by rw[hk];exact hj'):=getElem!_pos _ _ (by rw[hk];exact hj')
 simp[h2]
theorem mod_sortWorldK{w:World}{blk off n:Nat}{d:Array α}{os:Array Obj}:Mod (fun j=>j=blk) w (sortWorldK enc k w blk off n d os):=by
 have hs:(mapBlock (Sort.ahead w n) blk (putCells id off (flatK enc k d))).heap.size=w.heap.size:=by simp[mapBlock,Sort.ahead]
 refine⟨rfl,rfl,rfl,?_,fun j hj hne=>?_⟩
 ·show w.heap.size<=((mapBlock (Sort.ahead w n) blk (putCells id off (flatK enc k d))).heap++os).size
  rw[Array.size_append,hs];omega
 ·show((mapBlock (Sort.ahead w n) blk (putCells id off (flatK enc k d))).heap++os)[j]?=_
  rw[Array.getElem?_append_left (by rw[hs];exact hj)]
  show((Sort.ahead w n).heap.modify blk _)[j]?=_
  rw[Array.getElem?_modify,if_neg (fun e=>hne e.symm)]
  rfl
end
theorem ltB_tri(a b:List UInt8):a<b\/a=b\/b<a:=by
 rcases List.le_total a b with h|h
 ·rcases List.le_iff_lt_or_eq.1 h with h|h
  ·exact .inl h
  ·exact .inr (.inl h)
 ·rcases List.le_iff_lt_or_eq.1 h with h|h
  ·exact .inr (.inr h)
  ·exact .inr (.inl h.symm)
theorem jG{a b c:List UInt8}(h:a<b)(k:b<c):a<c:=by
 rcases ltB_tri a c with h1|h1|h1
 ·exact h1
 ·subst h1;exact absurd h (List.lt_asymm k)
 ·have h2:c<=a:=List.le_of_lt h1
  have h3:a<=b:=List.le_of_lt h;have h4:c<=b:=List.le_trans h2 h3;exact absurd k (List.not_lt.2 h4)
def ltK(a b:Key):Prop:=a.1.data.toList<b.1.data.toList\/a.1=b.1/\a.2<b.2
theorem ba_ext{a b:ByteArray}(h:a.data.toList=b.data.toList):a=b:=by
 apply ByteArray.ext
 exact Array.toList_inj.1 h
theorem ltK_tri(a b:Key):ltK a b\/a=b\/ltK b a:=by
 unfold ltK
 rcases ltB_tri a.1.data.toList b.1.data.toList with h|h|h
 ·exact .inl (.inl h)
 ·have h:=ba_ext h
  rcases ltB_tri a.2 b.2 with h2|h2|h2
  ·exact .inl (.inr ⟨h,h2⟩)
  ·exact .inr (.inl (Prod.ext h h2))
  ·exact .inr (.inr (.inr ⟨h.symm,h2⟩))
 ·exact .inr (.inr (.inl h))
theorem ltK_irrefl(a:Key):¬ltK a a:=by
 rintro(h|⟨_,h⟩)
 ·exact List.lt_irrefl _ h
 ·exact List.lt_irrefl _ h
theorem ltK_trans{a b c:Key}(h:ltK a b)(k:ltK b c):ltK a c:=by
 rcases h with h|⟨e,h⟩<;>rcases k with k|⟨e',k⟩
 ·exact .inl (jG h k)
 ·exact .inl (by rw[<-e'];exact h)
 ·exact .inl (by rw[e];exact k)
 ·exact .inr ⟨e.trans e',jG h k⟩
theorem cmpK_neg(a b:Key):cmpK a b<0↔ltK a b:=by
 unfold cmpK orI ltK
 split
 ·rename_i h
  rw[cmpI_neg];refine⟨.inl,fun h'=>h'.elim id fun⟨e,_⟩=>absurd ?_ h⟩;rw[cmpI_zero,e]
 ·rename_i h
  have h:cmpI a.1.data.toList b.1.data.toList=0:=Decidable.byContradiction fun hn=>h hn;rw[cmpI_zero]at h;rw[cmpI_neg]
  refine⟨fun h'=>.inr ⟨ba_ext h,h'⟩,fun h'=>h'.elim (fun h2=>?_) fun h2=>h2.2⟩;rw[h]at h2;exact absurd h2 (List.lt_irrefl _)
def cfK(a b:KeyS):Int:=cmpK a.1 b.1
theorem swo_of{α:Type}{cf:α->α->Int}{lt:α->α->Prop}(hc:∀a b,cf a b<0↔lt a b)(hi:∀a,¬lt a a)(ht:∀{a b c},lt a b->lt b c->lt a c)(htri:∀a b,lt a b\/a=b\/lt b a):SWO (ltOf cf):=by
 refine⟨fun x=>?_,fun x y z h k=>?_,fun x y z h k=>?_⟩
 ·simp[ltOf,hc];exact hi x
 ·simp only[ltOf,decide_eq_true_eq,hc]at*;exact ht h k
 ·simp only[ltOf,decide_eq_false_iff_not,hc]at*
  intro hxz
  rcases htri x y with h1|h1|h1
  ·exact h h1
  ·subst h1;exact k hxz
  ·exact k (ht h1 hxz)
theorem cfK_neg(a b:KeyS):cfK a b<0↔ltK a.1 b.1:=cmpK_neg _ _
theorem swoK:SWO (ltOf cfK):=swo_of cfK_neg (fun a=>ltK_irrefl a.1) ltK_trans (fun a b=>by
 rcases ltK_tri a.1 b.1 with h|h|h
 ·exact .inl h
 ·exact .inr (.inl (Subtype.ext h))
 ·exact .inr (.inr h))
end
section
open Go.Shelf Go.Proofs.Tryz Go.Lib
def keysA_ren:Go.Shelf.Ren:=⟨fun|7=>143|10=>204|n=>n,fun|23=>98|26=>9|3=>230|28=>228|0=>0|27=>227|33=>287|4=>4|n=>n,fun|n=>n⟩
theorem keysA:Go.Proofs.SlLaysZ.n7 prog keysA_ren:={
 mixed:=by kernel_rfl
 f7:=⟨f143.name,by decide,func143.trans (congrArg some (by kernel_rfl))⟩
 f10:=⟨f204.name,by decide,func204.trans (congrArg some (by kernel_rfl))⟩
 t0:=underlying0
 a0:=isAgg0
 z0:=sizeOf0
 v0:=zeroValue0
 t4:=underlying4
 a4:=isAgg4
 z4:=sizeOf4
 v4:=zeroValue4
 t23:=underlying98
 a23:=isAgg98
 z23:=sizeOf98
 v23:=zeroValue98
 t26:=underlying9
 a26:=isAgg9
 z26:=sizeOf9
 v26:=zeroValue9
 t27:=underlying227
 a27:=isAgg227
 z27:=sizeOf227
 v27:=zeroValue227
 t28:=underlying228
 a28:=isAgg228
 z28:=sizeOf228
 v28:=zeroValue228
 t33:=underlying287
 a33:=isAgg287
 z33:=sizeOf287
 v33:=zeroValue287 }
def sortedA_ren:Go.Shelf.Ren:=⟨fun|6=>142|8=>202|9=>203|11=>232|13=>234|12=>233|23=>271|24=>272|14=>262|15=>263|16=>264|17=>265|18=>266|19=>267|20=>268|21=>269|22=>270|25=>303|26=>304|27=>305|28=>306|29=>307|30=>208|31=>319|n=>n,fun|26=>9|28=>228|24=>127|0=>0|3=>3|37=>337|48=>301|50=>300|4=>4|40=>362|39=>361|45=>164|5=>5|9=>9|51=>390|55=>394|57=>406|58=>407|33=>287|n=>n,fun|n=>n⟩
theorem sortedA:Go.Proofs.SlLaysZ.n6 prog sortedA_ren:={
 mixed:=by kernel_rfl
 f6:=⟨f142.name,by decide,func142.trans (congrArg some (by kernel_rfl))⟩
 f8:=⟨f202.name,by decide,func202.trans (congrArg some (by kernel_rfl))⟩
 f11:=⟨f232.name,by decide,func232.trans (congrArg some (by kernel_rfl))⟩
 t0:=underlying0
 a0:=isAgg0
 z0:=sizeOf0
 v0:=zeroValue0
 t24:=underlying127
 a24:=isAgg127
 z24:=sizeOf127
 v24:=zeroValue127
 t26:=underlying9
 a26:=isAgg9
 z26:=sizeOf9
 v26:=zeroValue9
 t28:=underlying228
 a28:=isAgg228
 z28:=sizeOf228
 v28:=zeroValue228
 i26:=by kernel_rfl }
def sortA_ren:Go.Shelf.Ren:=⟨fun|6=>203|8=>234|9=>233|19=>271|20=>272|21=>262|22=>263|23=>264|24=>265|25=>266|26=>267|27=>268|28=>269|29=>270|36=>303|31=>304|32=>305|37=>306|38=>307|39=>208|41=>319|n=>n,fun|27=>127|29=>9|3=>3|32=>337|26=>127|0=>0|44=>301|46=>300|4=>4|36=>362|35=>361|41=>164|5=>5|9=>9|53=>390|57=>394|63=>406|64=>407|n=>n,fun|n=>n⟩
theorem sortA:Go.Proofs.SlLaysM.n6 prog sortA_ren:={
 mixed:=by kernel_rfl
 f6:=⟨f203.name,by decide,func203.trans (congrArg some (by kernel_rfl))⟩
 f8:=func234.trans (congrArg some (by kernel_rfl))
 f9:=⟨f233.name,by decide,func233.trans (congrArg some (by kernel_rfl))⟩
 f19:=func271.trans (congrArg some (by kernel_rfl))
 f20:=func272.trans (congrArg some (by kernel_rfl))
 f21:=⟨f262.name,by decide,func262.trans (congrArg some (by kernel_rfl))⟩
 f22:=⟨f263.name,by decide,func263.trans (congrArg some (by kernel_rfl))⟩
 f23:=⟨f264.name,by decide,func264.trans (congrArg some (by kernel_rfl))⟩
 f24:=⟨f265.name,by decide,func265.trans (congrArg some (by kernel_rfl))⟩
 f25:=⟨f266.name,by decide,func266.trans (congrArg some (by kernel_rfl))⟩
 f26:=⟨f267.name,by decide,func267.trans (congrArg some (by kernel_rfl))⟩
 f27:=⟨f268.name,by decide,func268.trans (congrArg some (by kernel_rfl))⟩
 f28:=⟨f269.name,by decide,func269.trans (congrArg some (by kernel_rfl))⟩
 f29:=⟨f270.name,by decide,func270.trans (congrArg some (by kernel_rfl))⟩
 f31:=func304.trans (congrArg some (by kernel_rfl))
 f32:=func305.trans (congrArg some (by kernel_rfl))
 f36:=⟨f303.name,by decide,func303.trans (congrArg some (by kernel_rfl))⟩
 f37:=⟨f306.name,by decide,func306.trans (congrArg some (by kernel_rfl))⟩
 f38:=⟨f307.name,by decide,func307.trans (congrArg some (by kernel_rfl))⟩
 f39:=⟨f208.name,by decide,func208.trans (congrArg some (by kernel_rfl))⟩
 f41:=⟨f319.name,by decide,func319.trans (congrArg some (by kernel_rfl))⟩
 t0:=underlying0
 a0:=isAgg0
 z0:=sizeOf0
 v0:=zeroValue0
 t3:=underlying3
 a3:=isAgg3
 z3:=sizeOf3
 v3:=zeroValue3
 t4:=underlying4
 a4:=isAgg4
 z4:=sizeOf4
 v4:=zeroValue4
 t5:=underlying5
 a5:=isAgg5
 z5:=sizeOf5
 v5:=zeroValue5
 t9:=underlying9
 a9:=isAgg9
 z9:=sizeOf9
 v9:=zeroValue9
 t26:=underlying127
 a26:=isAgg127
 z26:=sizeOf127
 v26:=zeroValue127
 t27:=underlying127
 a27:=isAgg127
 z27:=sizeOf127
 v27:=zeroValue127
 t29:=underlying9
 a29:=isAgg9
 z29:=sizeOf9
 v29:=zeroValue9
 t32:=underlying337
 a32:=isAgg337
 z32:=sizeOf337
 v32:=zeroValue337
 t35:=underlying361
 a35:=isAgg361
 z35:=sizeOf361
 v35:=zeroValue361
 t36:=underlying362
 a36:=isAgg362
 z36:=sizeOf362
 v36:=zeroValue362
 t41:=underlying164
 a41:=isAgg164
 z41:=sizeOf164
 v41:=zeroValue164
 t44:=underlying301
 a44:=isAgg301
 z44:=sizeOf301
 v44:=zeroValue301
 t46:=underlying300
 a46:=isAgg300
 z46:=sizeOf300
 v46:=zeroValue300
 t53:=underlying390
 a53:=isAgg390
 z53:=sizeOf390
 v53:=zeroValue390
 t57:=underlying394
 a57:=isAgg394
 z57:=sizeOf394
 v57:=zeroValue394
 t63:=underlying406
 a63:=isAgg406
 z63:=sizeOf406
 v63:=zeroValue406
 t64:=underlying407
 a64:=isAgg407
 z64:=sizeOf407
 v64:=zeroValue407 }
def sortK_ren:Go.Shelf.Ren:=⟨fun|6=>206|15=>234|14=>236|28=>271|29=>272|20=>273|21=>274|22=>275|23=>276|24=>277|25=>278|26=>279|27=>280|46=>308|47=>304|48=>305|49=>309|50=>310|57=>320|n=>n,fun|22=>238|24=>241|25=>249|3=>3|39=>337|0=>0|53=>301|55=>300|4=>4|46=>362|45=>361|50=>164|5=>5|9=>9|66=>390|70=>394|76=>406|77=>407|n=>n,fun|n=>n⟩
theorem sortK:Go.Proofs.SlLaysF0.n6 prog sortK_ren:={
 mixed:=by kernel_rfl
 f6:=⟨f206.name,by decide,func206.trans (congrArg some (by kernel_rfl))⟩
 f14:=⟨f236.name,by decide,func236.trans (congrArg some (by kernel_rfl))⟩
 f15:=func234.trans (congrArg some (by kernel_rfl))
 f20:=⟨f273.name,by decide,func273.trans (congrArg some (by kernel_rfl))⟩
 f21:=⟨f274.name,by decide,func274.trans (congrArg some (by kernel_rfl))⟩
 f22:=⟨f275.name,by decide,func275.trans (congrArg some (by kernel_rfl))⟩
 f23:=⟨f276.name,by decide,func276.trans (congrArg some (by kernel_rfl))⟩
 f24:=⟨f277.name,by decide,func277.trans (congrArg some (by kernel_rfl))⟩
 f25:=⟨f278.name,by decide,func278.trans (congrArg some (by kernel_rfl))⟩
 f26:=⟨f279.name,by decide,func279.trans (congrArg some (by kernel_rfl))⟩
 f27:=⟨f280.name,by decide,func280.trans (congrArg some (by kernel_rfl))⟩
 f28:=func271.trans (congrArg some (by kernel_rfl))
 f29:=func272.trans (congrArg some (by kernel_rfl))
 f46:=⟨f308.name,by decide,func308.trans (congrArg some (by kernel_rfl))⟩
 f47:=func304.trans (congrArg some (by kernel_rfl))
 f48:=func305.trans (congrArg some (by kernel_rfl))
 f49:=⟨f309.name,by decide,func309.trans (congrArg some (by kernel_rfl))⟩
 f50:=⟨f310.name,by decide,func310.trans (congrArg some (by kernel_rfl))⟩
 f57:=⟨f320.name,by decide,func320.trans (congrArg some (by kernel_rfl))⟩
 t0:=underlying0
 a0:=isAgg0
 z0:=sizeOf0
 v0:=zeroValue0
 t3:=underlying3
 a3:=isAgg3
 z3:=sizeOf3
 v3:=zeroValue3
 t4:=underlying4
 a4:=isAgg4
 z4:=sizeOf4
 v4:=zeroValue4
 t5:=underlying5
 a5:=isAgg5
 z5:=sizeOf5
 v5:=zeroValue5
 t9:=underlying9
 a9:=isAgg9
 z9:=sizeOf9
 v9:=zeroValue9
 t22:=underlying238
 a22:=isAgg238
 z22:=sizeOf238
 v22:=zeroValue238
 t25:=underlying249
 a25:=isAgg249
 z25:=sizeOf249
 v25:=zeroValue249
 t39:=underlying337
 a39:=isAgg337
 z39:=sizeOf337
 v39:=zeroValue337
 t45:=underlying361
 a45:=isAgg361
 z45:=sizeOf361
 v45:=zeroValue361
 t46:=underlying362
 a46:=isAgg362
 z46:=sizeOf362
 v46:=zeroValue362
 t50:=underlying164
 a50:=isAgg164
 z50:=sizeOf164
 v50:=zeroValue164
 t53:=underlying301
 a53:=isAgg301
 z53:=sizeOf301
 v53:=zeroValue301
 t55:=underlying300
 a55:=isAgg300
 z55:=sizeOf300
 v55:=zeroValue300
 t66:=underlying390
 a66:=isAgg390
 z66:=sizeOf390
 v66:=zeroValue390
 t70:=underlying394
 a70:=isAgg394
 z70:=sizeOf394
 v70:=zeroValue394
 t76:=underlying406
 a76:=isAgg406
 z76:=sizeOf406
 v76:=zeroValue406
 t77:=underlying407
 a77:=isAgg407
 z77:=sizeOf407
 v77:=zeroValue407 }
def sortI_ren:Go.Shelf.Ren:=⟨fun|6=>215|15=>234|14=>247|28=>271|29=>272|20=>285|21=>286|22=>287|23=>288|24=>289|25=>290|26=>291|27=>292|46=>314|47=>304|48=>305|49=>315|50=>316|57=>321|n=>n,fun|22=>25|24=>24|25=>58|3=>3|39=>337|0=>0|53=>301|55=>300|4=>4|46=>362|45=>361|50=>164|5=>5|9=>9|66=>390|70=>394|76=>406|77=>407|n=>n,fun|n=>n⟩
theorem sortI:Go.Proofs.SlLaysF0.n6 prog sortI_ren:={
 mixed:=by kernel_rfl
 f6:=⟨f215.name,by decide,func215.trans (congrArg some (by kernel_rfl))⟩
 f14:=⟨f247.name,by decide,func247.trans (congrArg some (by kernel_rfl))⟩
 f15:=func234.trans (congrArg some (by kernel_rfl))
 f20:=⟨f285.name,by decide,func285.trans (congrArg some (by kernel_rfl))⟩
 f21:=⟨f286.name,by decide,func286.trans (congrArg some (by kernel_rfl))⟩
 f22:=⟨f287.name,by decide,func287.trans (congrArg some (by kernel_rfl))⟩
 f23:=⟨f288.name,by decide,func288.trans (congrArg some (by kernel_rfl))⟩
 f24:=⟨f289.name,by decide,func289.trans (congrArg some (by kernel_rfl))⟩
 f25:=⟨f290.name,by decide,func290.trans (congrArg some (by kernel_rfl))⟩
 f26:=⟨f291.name,by decide,func291.trans (congrArg some (by kernel_rfl))⟩
 f27:=⟨f292.name,by decide,func292.trans (congrArg some (by kernel_rfl))⟩
 f28:=func271.trans (congrArg some (by kernel_rfl))
 f29:=func272.trans (congrArg some (by kernel_rfl))
 f46:=⟨f314.name,by decide,func314.trans (congrArg some (by kernel_rfl))⟩
 f47:=func304.trans (congrArg some (by kernel_rfl))
 f48:=func305.trans (congrArg some (by kernel_rfl))
 f49:=⟨f315.name,by decide,func315.trans (congrArg some (by kernel_rfl))⟩
 f50:=⟨f316.name,by decide,func316.trans (congrArg some (by kernel_rfl))⟩
 f57:=⟨f321.name,by decide,func321.trans (congrArg some (by kernel_rfl))⟩
 t0:=underlying0
 a0:=isAgg0
 z0:=sizeOf0
 v0:=zeroValue0
 t3:=underlying3
 a3:=isAgg3
 z3:=sizeOf3
 v3:=zeroValue3
 t4:=underlying4
 a4:=isAgg4
 z4:=sizeOf4
 v4:=zeroValue4
 t5:=underlying5
 a5:=isAgg5
 z5:=sizeOf5
 v5:=zeroValue5
 t9:=underlying9
 a9:=isAgg9
 z9:=sizeOf9
 v9:=zeroValue9
 t22:=underlying25
 a22:=isAgg25
 z22:=sizeOf25
 v22:=zeroValue25
 t25:=underlying58
 a25:=isAgg58
 z25:=sizeOf58
 v25:=zeroValue58
 t39:=underlying337
 a39:=isAgg337
 z39:=sizeOf337
 v39:=zeroValue337
 t45:=underlying361
 a45:=isAgg361
 z45:=sizeOf361
 v45:=zeroValue361
 t46:=underlying362
 a46:=isAgg362
 z46:=sizeOf362
 v46:=zeroValue362
 t50:=underlying164
 a50:=isAgg164
 z50:=sizeOf164
 v50:=zeroValue164
 t53:=underlying301
 a53:=isAgg301
 z53:=sizeOf301
 v53:=zeroValue301
 t55:=underlying300
 a55:=isAgg300
 z55:=sizeOf300
 v55:=zeroValue300
 t66:=underlying390
 a66:=isAgg390
 z66:=sizeOf390
 v66:=zeroValue390
 t70:=underlying394
 a70:=isAgg394
 z70:=sizeOf394
 v70:=zeroValue394
 t76:=underlying406
 a76:=isAgg406
 z76:=sizeOf406
 v76:=zeroValue406
 t77:=underlying407
 a77:=isAgg407
 z77:=sizeOf407
 v77:=zeroValue407 }
end
section
open Go.RowKit Go.Shelf Go.Sort Go.Proofs.Tryz Go.Lib
theorem isAggKey(w:World):(isAgg 241).run prog w=.ok true w:=by
 unfold isAgg;rw[Sem.run_bind,run_underlying underlying241 w];rfl
theorem sizeKey(w:World):(Go.sizeOf 241).run prog w=.ok 33 w:=sizeOf_of (by kernel_rfl) w
def KeyR(cs:Array Value)(x:KeyS):Prop:=cs=(keyL x).toArray
def sortK9(ks:List KeyS):List KeyS:=ks.mergeSort fun x y=> !(ltOf cfK) y x
theorem sortK_perm(ks:List KeyS):(sortK9 ks).Perm ks:=List.mergeSort_perm _ _
theorem sortK_sorted{ks:List KeyS}(hn:ks.Nodup):(sortK9 ks).Pairwise (fun a b=>ltK a.1 b.1):=by
 have hlt:∀a b:KeyS,(!(ltOf cfK) b a)=true↔¬ltK b.1 a.1:=fun a b=>by simp[ltOf,cfK_neg]
 have h:=List.pairwise_mergeSort (le:=fun x y=> !(ltOf cfK) y x) (fun a b c h1 h2=>by
  rw[hlt]at*;intro h
  rcases ltK_tri a.1 b.1 with h3|h3|h3
  ·exact h2 (ltK_trans h h3)
  ·rw[h3]at h;exact h2 h
  ·exact h1 h3) (fun a b=>by
  rw[Bool.or_eq_true,hlt,hlt]
  by_cases h:ltK b.1 a.1
  ·exact .inr fun h'=>ltK_irrefl _ (ltK_trans h h')
  ·exact .inl h) ks
 have hn2:(ks.mergeSort fun x y=> !(ltOf cfK) y x).Nodup:=(List.mergeSort_perm _ _).nodup_iff.2 hn;refine(h.and hn2).imp fun{a b} hab=>?_;have h1:=(hlt a b).1 hab.1
 rcases ltK_tri a.1 b.1 with h2|h2|h2
 ·exact h2
 ·exact absurd (Subtype.ext h2) hab.2
 ·exact absurd h2 h1
theorem cmpLaysK(g off size:Nat)(w:World):CmpLays prog 146 #[] keyL 33 cfK g off size w:=by
 intro m os dk _ x y;have h:=idsF_any x.1 y.1 x.2 y.2 (sortWorldK keyL 33 w g off m dk os)
 have e:(#[.agg (keyL x).toArray,.agg (keyL y).toArray]++#[]:Array Value)=#[.agg (zG x.1),.agg (zG y.1)]:=by simp[keyL]
 rw[e];refine h.mono ?_;rintro _ w' ⟨rfl,q,os',rfl⟩;exact⟨rfl,q,os',rfl⟩
theorem sortFuncK_any(v:Value)(ks:List KeyS)(w:World)(base:Nat)(h:w.ownsRow base 241 33 v ks.length (ks.flatMap keyL))(hlen:ks.length<=65536):
 Calls prog 206 #[v,.func (.func 146) #[] #[]] w fun e w'=>e=.returned (.tuple #[])/\Mod (fun j=>v.ownBlock=some j) w w'/\Sl false w' (fun j=>v.ownBlock=some j) 33 KeyR v (sortK9 ks):=by
 rcases h.2 with⟨rfl,h0⟩|⟨g,cap,cur,rfl,hb,hg,hc,hm,hcs,ht⟩
 ·have:ks=[]:=List.eq_nil_of_length_eq_zero h0
  subst this;refine(AnyF.slices_SortFunc_none sortK none 0 _ w).mono ?_;rintro _ _ ⟨rfl,rfl⟩;have e:sortK9 []=[]:=by simp[sortK9]
  rw[e];exact⟨rfl,Mod.refl _ _,Sl.nil _ _ _ _ _⟩
 ·have hH:HoldsK keyL 33 w g 0 ks.toArray:=holdsK_of_cells keyL_len (by omega) hg ht
  have hlt:g<w.heap.size:=(Array.getElem?_eq_some_iff.1 hg).1
  have hs:=AnyQ.slices_SortFunc_total sortK 33 isAggKey sizeKey keyL keyL_len keyL_one cfK swoK 146 #[] g 0 cap ks.toArray w (enters_of func146 (by kernel_rfl) rfl) (cmpLaysK g 0 _ w) hH hlt (by simp;omega) (fun x y h1 h2=>by
   simp only[ltOf,decide_eq_false_iff_not,cfK_neg]at h1 h2
   rcases ltK_tri x.1 y.1 with h|h|h
   ·exact absurd h h1
   ·exact Subtype.ext h
   ·exact absurd h h2)
  have e:ks.toArray.size=ks.length:=by simp
  rw[e]at hs;refine hs.mono ?_;rintro _ w' ⟨rfl,n,os,rfl⟩;have hM:Mod (fun j=>j=g) w (sortWorldK keyL 33 w g 0 n (sortK9 ks).toArray os):=mod_sortWorldK
  have hH':=holdsK_sortWorldK_c keyL 33 w g 0 ks.toArray (sortK9 ks).toArray n os hH hlt (by simp[(sortK_perm ks).length_eq])
  refine⟨rfl,hM.mono (fun j _ e=>by subst e;rfl),?_⟩;have hl:(sortK9 ks).length=ks.length:=(sortK_perm ks).length_eq
  have:=sl_of_holdsK keyL_len hH' (cap:=cap) (by rw[hl];exact hc) hm;rw[hl]at this;exact this.mono (fun j e=>by subst e;rfl) (fun _ _ h=>h)
def KeysOf(l:LinkL)(ks:List KeyS):Prop:=ks.Pairwise (fun a b=>ltK a.1 b.1)/\(ks.map (·.1)).Perm (l.map (·.1))
theorem sortedK_any{w:World}{mb:Nat}{l:LinkL}(hM:MapIs keyV KeyOk w mb (l.map fun p=>(p.1,linkV p.2)))(hnd:(l.map (·.1)).Nodup)(hlen:l.length<=65536):
 Calls prog 144 #[.func (.func 207) #[] #[.pointer (some ⟨w.heap.size,0,none⟩)],.func (.func 146) #[] #[]] (w.alloc (.cells #[.map (some mb)] 97)) (RetN w fun v w'=>∃ks,KeysOf l ks/\Sl false w' (New w w') 33 KeyR v ks):=by
 have hm1:=qW w (.cells #[.map (some mb)] 97);have hB:=heap_alloc_new w (.cells #[.map (some mb)] 97)
 have hs1:w.heap.size<(w.alloc (.cells #[.map (some mb)] 97)).heap.size:=by simp
 generalize w.alloc (.cells #[.map (some mb)] 97)=w1 at hm1 hB hs1 |-;have hst:=keysK_stops 2 (by omega) w1 w.heap.size mb l hB (hM.keep0 hm1)
 have hc:=collectK_any 3 (by omega) 207 #[.pointer (some ⟨w.heap.size,0,none⟩)] (enters_of func207 (by kernel_rfl) rfl) _ _ l.length hlen w1 hst;go_enter func144,ntmps144
 go_upto_region 2 with(go_at_call 205;refine hc.mono ?_;rintro _ w2 ⟨v,ks,rfl,hS,hrow,hb⟩);have hkl:ks.length=l.length:=by have:=hS.length_eq;simpa using this
 have hf:=sortFuncK_any v ks w2 _ hrow (by omega);have hvb:=hrow.lt;have hM2:=hm1.trans0 (Mod.of_below0 hb);have hs2:=hb.size;clear hrow hb hc hst;refine wpR [3,3,1] ?_
 simp only[stz];refine wpDo rfl ?_;go_wp2_with (go_at_call 206;refine hf.mono ?_;rintro _ w3 ⟨rfl,hm3,hsl⟩);simp only[stz];go_wp2;go_ret;have hm3s:=hm3.size
 refine⟨v,rfl,hM2.trans hm3 (fun k hk e=>?_),sortK9 ks,⟨sortK_sorted ?_,((sortK_perm ks).map _).trans hS⟩,hsl.mono (fun k e=>⟨?_,?_⟩) (fun _ _ h=>h)⟩
 ·have:=(hvb k e).1;omega
 ·have:(ks.map (·.1)).Nodup:=hS.nodup_iff.2 hnd
  exact(List.pairwise_map.1 this).imp fun hne e=>hne (by rw[e])
 ·have:=(hvb k e).1;omega
 ·have:=(hvb k e).2;omega
end
section
open Go.RowKit Go.Shelf Go.Proofs.Tryz Go.Lib
theorem id_i:(prog.info? 24).map (fun i=>(i.zero,i.size,i.bytes))=some (some (.agg (qA (List.replicate 32 0))),32,32):=by kernel_rfl
def idL(x:List UInt8):List Value:=(qA x).toList
theorem idL_len{x:List UInt8}(h:x.length=32):(idL x).length=32:=by simp[idL,qB,h]
theorem idL_one(x:List UInt8):∀c∈idL x,c.oneCell'=true:=fun c hc=>qP x c (by simpa[idL]using hc)
def IdAcc(base:Nat)(xs:List (List UInt8))(v:Value)(w:World):Prop:=(∀x∈xs,x.length=32)/\w.ownsRow base 24 32 v xs.length (xs.flatMap idL)
theorem IdAcc.done{base:Nat}{xs:List (List UInt8)}{v:Value}{w:World}(h:IdAcc base xs v w):Sl true w (fun k=>base<=k/\k<w.heap.size/\v.ownBlock=some k) 32 IdC v xs:=by
 have hm:xs.flatMap idL=(xs.map qA).flatMap Array.toList:=by
  rw[List.flatMap_map];rfl
 refine Sl.of_owns (css:=xs.map qA) h.2 hm (fun c hc=>?_) ⟨by simp,fun i hi hi'=>?_⟩ rfl
 ·obtain⟨x,hx,rfl⟩:=List.mem_map.1 hc
  rw[qB,h.1 x hx]
 ·exact⟨by simp,h.1 _ (List.getElem_mem hi')⟩
def idsUpto(ks:List KeyS)(r:ByteArray)(n:Nat):List (List UInt8):=((ks.take n).filter fun k=>decide (k.1.1=r)).map (·.1.2)
theorem idsUpto_succ{ks:List KeyS}{r:ByteArray}{n:Nat}(h:n<ks.length):idsUpto ks r (n+1)=if ks[n].1.1=r then idsUpto ks r n++[ks[n].1.2]else idsUpto ks r n:=by
 unfold idsUpto;rw[List.take_succ_eq_append_getElem h,List.filter_append,List.map_append]
 split<;>rename_i hr<;>simp[hr]
theorem idsUpto_len(ks:List KeyS)(r:ByteArray)(n:Nat):(idsUpto ks r n).length<=ks.length:=by
 unfold idsUpto;rw[List.length_map];refine Nat.le_trans (List.length_filter_le _ _) ?_
 simp;omega
def IdsRel(w0:World)(ks:List KeyS)(r:ByteArray)(kv:Value)(v i:Value)(w:World):Prop:=
 ∃n,n<=ks.length/\i=.int .i64 n/\IdAcc w0.heap.size (idsUpto ks r n) v w/\Mod NoB w0 w/\Sl false w (fun j=>j<w.heap.size/\v.ownBlock≠some j) 33 KeyR kv ks
def IDsOf(l:LinkL)(r:ByteArray)(ids:List (List UInt8)):Prop:=ids.Pairwise (fun a b=>a<b)/\∀x,x∈ids↔(r,x)∈l.map (·.1)
theorem idsOf_keys{l:LinkL}{ks:List KeyS}(h:KeysOf l ks)(r:ByteArray):IDsOf l r (idsUpto ks r ks.length):=by
 unfold idsUpto;rw[List.take_length];refine⟨?_,fun x=>?_⟩
 ·rw[List.pairwise_map]
  refine(h.1.filter _).imp_of_mem fun{a b} ha hb hab=>?_;have h1:a.1.1=r:=by simpa using(List.mem_filter.1 ha).2
  have h2:b.1.1=r:=by simpa using(List.mem_filter.1 hb).2
  rcases hab with h3|h3
  ·rw[h1,h2]at h3;exact absurd h3 (List.lt_irrefl _)
  ·exact h3.2
 ·rw[<-h.2.mem_iff]
  simp only[List.mem_map,List.mem_filter,decide_eq_true_eq]
  constructor
  ·rintro⟨k,⟨hk,rfl⟩,rfl⟩;exact⟨k,hk,rfl⟩
  ·rintro⟨k,hk,e⟩;exact⟨k,⟨hk,by rw[e]⟩,by rw[e]⟩
section
variable{w:World}{bl ml mu:Nat}{limit:Int}{hold:Value}{l:LinkL}{us:List (ByteArray×Nat)}
theorem ids_any(h:LkInv w bl ml mu limit hold l us)(r:ByteArray):Calls prog 71 #[.pointer (some ⟨bl,0,none⟩),.string r] w (RetN w fun v w'=>∃ids,IDsOf l r ids/\(∀x∈ids,x.length=32)/\Sl true w' (New w w') 32 IdC v ids):=by
 have hc:=h.cell.2.1;have hlm:=h.lm;have hnd:=h.nd;have hfew:=h.few;go_enter func71,ntmps71
 go_upto_region 3 with(go_at_call 141;refine h.made.mono ?_;rintro _ w1 ⟨rfl,hw⟩;obtain rfl:=hw.symm);refine wpR [3,3,3,1,1,1,3] ?_;simp only[stz]
 refine wpXd 97 bl 1 hc underlying97 trivial ?_;try simp only[nmz]
 refine wpDo rfl ?_;go_wp2_with (go_at_call 145;refine(keysK_any _ ml).mono ?_;rintro _ w2 ⟨rfl,rfl⟩);try simp only[nmz]
 refine wpDo rfl ?_;go_wp2_with (go_at_call 144;refine(sortedK_any hlm hnd hfew).mono ?_;rintro _ w3 ⟨kv,rfl,hm3,ks,hks,hsl⟩);simp only[stz]
 have hkl:ks.length<=65536:=by have:=hks.2.length_eq;simp at this;omega
 have hkids:=idsOf_keys hks r;obtain⟨ka,kc,rfl,hkc,hkm,_⟩:=id hsl;have HKI:=Lib.hid hkids;clear hkids hks hlm hnd hfew hc h;go_wp2
 go_loopw [4,7,18] (fun v _ i wx=>IdsRel w ks r (.slice ka ks.length kc) v i wx) (fun _ _ i _=>ks.length-(intOf i).toNat)
 case atStart=>exact⟨0,by omega,rfl,⟨by simp[idsUpto],World.ownsRow_nil _ _ _ _⟩,hm3,hsl.mono (fun j hj=>⟨hj.2,by simp[Value.ownBlock]⟩) (fun _ _ h=>h)⟩
 case round=>
  rename_i wr
  obtain⟨n,hn,rfl,hacc,hM,hks⟩:=hrel
  by_cases hlt:n<ks.length
  ·have hz:(n:Int)<(ks.length:Int):=by omega
   obtain⟨_,_,he,_,hat⟩:=hks.at;obtain⟨b,off,e,hb,-,hca⟩:=hat n hlt
   obtain⟨rfl,_⟩:ka=some ⟨b,off,none⟩/\True:=by
    cases he;exact⟨e,trivial⟩
   obtain⟨cs,hcs,hR,hcells⟩:=hca n hlt;obtain rfl:cs=zG ks[n].1:=by rw[hR];simp[keyL]
   have hko:=ks[n].2;have hsucc:=idsUpto_succ (r:=r) hlt;have hlenU:=idsUpto_len ks r n;have HS:=Lib.hid hsucc;clear hsucc he hat hca hR;go_upto_region 6 with(fail)
   refine wpR [3,1,1,1] ?_;simp only[stz];refine wpPI underlying238 33 hlt ?_;simp only[nmz]
   refine wpXA 241 b (off+n*33) (zG ks[n].1) hcells underlying241 33 (zW hko) trivial ?_;try simp only[nmz]
   refine wpD (qN 241 _ (by rfl) keyZ (fun w4 hB4 hm4 hs4=>?_));replace hB4:w4.heap[wr.heap.size]?=some (.cells keyZero 241 (0,0)):=hB4;try simp only[nmz]
   refine wpDo rfl ?_
   refine qF 241 _ _ wr.heap.size 0 (zG ks[n].1) (by rfl) (by rfl) (by rfl) (keyCells_one _) 33 (by kernel_rfl) (zW hko) _ _ hB4 (by rw[zW hko];exact Nat.le_of_eq (by kernel_rfl)) (fun w5 hB5 hm5=>?_)
   have hm45:Mod NoB wr w5:=hm4.transB hm5 (Nat.le_refl _);rw[qD (by rw[zW hko];kernel_rfl)]at hB5;simp only[stz];have hM5:=hM.trans0 hm45
   have hacc5:IdAcc w.heap.size (idsUpto ks r n) _ w5:=⟨hacc.1,zE hacc.2 hm45 (fun _ _=>id)⟩
   have hks5:=(hks.keep0 hm45).mono (G':=fun j=>j<wr.heap.size/\Value.ownBlock _≠some j) (fun j hj=>hj) (fun _ _ h=>h);have hs5:=hm45.size
   clear hm4 hm5 hs4 hB4 hM hks;have hrp:=keyAt0 hB5;have hid:=keyAt1 hB5
   by_cases hr:ks[n].1.1=r
   ·have hrt:decide (ks[n].1.1=r)=true:=decide_eq_true hr
    go_upto_region 7 with(fail);refine wpR [3,1,3,3] ?_;simp only[stz];refine wpXd 9 wr.heap.size 0 hrp underlying9 trivial ?_;simp only[stz]
    refine qC (v:=.bool true) rfl (fun w'=>zY _ _ _ _ rfl _ _ rfl rfl _ hrt) ?_;simp only[stz];go_upto_region 8 with(fail);refine wpR [3,3,1,1,1,3] ?_
    simp only[stz];refine wpXA 24 wr.heap.size 1 (qA ks[n].1.2) hid underlying24 32 (by rw[qB];exact hko) trivial ?_;try simp only[nmz]
    refine wpDo rfl ?_
    refine qQ 25 24 _ (.agg (qA ks[n].1.2)) (.agg (qA (List.replicate 32 0))) 32 (by rfl) (by rfl) underlying25 (by kernel_rfl) (by omega) (by omega) (by rw[show(Value.agg (qA ks[n].1.2)).cells=qA ks[n].1.2 from rfl,qB];exact hko) (fun w6 hB6 hm6 hs6=>?_)
    replace hB6:w6.heap[w5.heap.size]?=some (.cells (qA ks[n].1.2) 24 (0,0)):=hB6;try simp only[nmz]
    refine wpDo rfl ?_;have hrow6:=zE hacc5.2 hm6 (fun _ _=>id);have hs6':=hm6.size;have hMs:=hM5.size
    refine xJ _ _ 25 24 (.agg (qA (List.replicate 32 0))) 32 32 (by rfl) underlying25 id_i (by kernel_rfl) (by omega) w.heap.size _ _ _ (by rfl) hrow6 (.slice (some ⟨w5.heap.size,0,none⟩) 1 1) 1 (idL ks[n].1.2) (by rfl) ⟨by rw[idL_len hko],_,_,rfl,fun _=>⟨w5.heap.size,0,rfl,fun j y hj=>?_⟩⟩ (idL_one _) (by unfold maxLen;omega) (by omega) (by omega) (fun v' w7 hrow7 hg7 hv7=>?_)
    ·have:(qA ks[n].1.2)[j]?=some y:=by simpa[idL]using hj
     exact(CellsAt.whole hB6).cell this
    simp only[stz];have hM6:=hM5.trans0 hm6;have hs6':=hm6.size;have hMs:=hM5.size
    have hm7:Mod (fun j=>Value.ownBlock _=some j) w6 w7:=(Mod.refl _ _).grown hg7 (fun k hk _=>hk)
    have hM7:Mod NoB w w7:=hM6.trans hm7 (fun k hk e=>by have:=(hacc5.2.lt k e).1;omega)
    have hks7:=((hks5.keep0 hm6).keep hm7 (fun k hk e=>hk.2 e) (fun _ _ h=>h)).mono (G':=fun j=>j<w7.heap.size/\v'.ownBlock≠some j) (fun j hj=>⟨by have:=hm7.size;omega,by
     rcases hv7 with hv|hv
     ·rw[hv];exact hj.2
     ·rw[hv];intro e;cases e;omega⟩) (fun _ _ h=>h)
    have HR:Hid (IdsRel w ks r (.slice (some ⟨b,off,none⟩) ks.length kc) v' (.int .i64 ((n:Int)+1)) w7):=⟨n+1,by omega,by go_num,by
     rw[HS.out,if_pos hr];refine⟨fun x hx=>?_,by simpa using hrow7⟩
     rcases List.mem_append.1 hx with hx|hx
     ·exact hacc5.1 x hx
     ·simp at hx;rw[hx];exact hko,hM7,hks7⟩
    clear hM7 hks7 hm7 hrow7 hg7 hv7 hacc5 hks5;go_wp2
    go_roundw
    case rel=>exact HR.out
    case measure=>simp[intOf];omega
   ·have hrt:decide (ks[n].1.1=r)=false:=decide_eq_false hr
    go_upto_region 7 with(fail);refine wpR [3,1,3,3] ?_;simp only[stz];refine wpXd 9 wr.heap.size 0 hrp underlying9 trivial ?_;simp only[stz]
    refine qC (v:=.bool false) rfl (fun w'=>zY _ _ _ _ rfl _ _ rfl rfl _ hrt) ?_;simp only[stz];go_wp2
    go_roundw
    case rel=>exact⟨n+1,by omega,by go_num,by rw[HS.out,if_neg hr];exact hacc5,hM5,hks5.mono (fun j hj=>⟨by omega,hj.2⟩) (fun _ _ h=>h)⟩
    case measure=>simp[intOf];omega
  ·have hz:¬(n:Int)<(ks.length:Int):=by omega
   have e:n=ks.length:=by omega
   subst e;have hd:=hacc.done;have hi:=hacc.1;have HD:=Lib.hid hd;have HI:=Lib.hid hi;clear hd hi hacc hks;go_wp2;go_ret
   exact⟨_,rfl,hM,_,HKI.out,HI.out,HD.out.mono (fun k hk=>⟨hk.1,hk.2.1⟩) (fun _ _ h=>h)⟩
end
end
section
open Go.RowKit Go.Shelf Go.Sort Go.Proofs.Tryz Go.Lib
section
variable{α:Type}{enc:α->List Value}{e k:Nat}
def Gat(enc:α->List Value)(e:TypeId)(k base:Nat)(w:World)(v:Value)(l:List α):Prop:=w.ownsRow base e k v l.length (l.flatMap enc)
theorem Gat.lt{base:Nat}{w:World}{v:Value}{l:List α}(h:Gat enc e k base w v l){q:Nat}(hq:v.ownBlock=some q):base<=q/\q<w.heap.size:=World.ownsRow.lt h q hq
theorem Gat.keep{S:Nat->Prop}{base:Nat}{w w':World}{v:Value}{l:List α}(h:Gat enc e k base w v l)(hm:Mod S w w')(hn:∀q,v.ownBlock=some q->¬S q):Gat enc e k base w' v l:=zE h hm hn
theorem Gat.keep0{base:Nat}{w w':World}{v:Value}{l:List α}(h:Gat enc e k base w v l)(hm:Mod NoB w w'):Gat enc e k base w' v l:=h.keep hm (fun _ _=>id)
theorem Gat.base{base b':Nat}{w:World}{v:Value}{l:List α}(h:Gat enc e k base w v l)(hb:b'<=base):Gat enc e k b' w v l:=jF h hb
theorem Gat.slice{base:Nat}{w:World}{v:Value}{l:List α}(h:Gat enc e k base w v l):∃ad cap,v=.slice ad l.length cap:=by
 rcases h.2 with⟨rfl,h0⟩|⟨g,cap,cur,rfl,-⟩
 ·exact⟨none,0,by rw[h0]⟩
 ·exact⟨_,_,rfl⟩
theorem Gat.nil(enc:α->List Value)(e k base:Nat)(w:World):Gat enc e k base w (.slice none 0 0) []:=⟨by simp,.inl ⟨rfl,rfl⟩⟩
theorem Gat.sl{base:Nat}{w:World}{v:Value}{l:List α}(h:Gat enc e k base w v l)(hk:∀x,(enc x).length=k):Sl true w (fun q=>base<=q/\q<w.heap.size/\v.ownBlock=some q) k (fun cs x=>cs=(enc x).toArray) v l:=by
 refine Sl.of_owns (css:=l.map fun x=>(enc x).toArray) h ?_ ?_ ⟨by simp,fun i h1 h2=>by simp⟩ rfl
 ·rw[List.flatMap_map]
 ·intro c hc
  obtain⟨x,_,rfl⟩:=List.mem_map.1 hc
  simp[hk]
theorem src_lit(hk:∀x,(enc x).length=k){w:World}{b:Nat}{x:α}(h:w.heap[b]?=some (.cells (enc x).toArray e (0,0))):Src w k (.slice (some ⟨b,0,none⟩) 1 1) 1 ([x].flatMap enc):=by
 refine⟨by simp[hk],_,_,rfl,fun _=>⟨b,0,rfl,fun j y hj=>?_⟩⟩;have hc:=CellsAt.whole h;exact hc.cell (j:=j) (by simpa using hj)
theorem Gat.src{base:Nat}{w:World}{v:Value}{l:List α}(h:Gat enc e k base w v l):Src w k v l.length (l.flatMap enc):=owns_src h
theorem wp_gat{P:Program}{o:Oper}{a:Act}{w:World}{K:Act->World->Prop}{Q:Exit->Act->World->Prop}(enc:α->List Value)(s x:Operand)(t e:TypeId)(z:Value)(k bytes:Nat)(ho:o.op=.call { callee:=.builtin .append,args:=#[s,x],argTypes:=#[t,t] })
 (ht:P.underlying t=some (.slice e))(hi:(P.info? e).map (fun i=>(i.zero,i.size,i.bytes))=some (some z,k,bytes))(hzs:z.cells.size=k)(hk0:0<k)(h1:∀x,∀c∈enc x,c.oneCell'=true)
 (base:Nat)(v:Value)(l:List α)(hs:a.eval s=v)(hown:Gat enc e k base w v l)(u:Value)(m:List α)(hx:a.eval x=u)(hsrc:Src w k u m.length (m.flatMap enc))(h63:l.length+m.length<=maxLen)(hlen:(l.length+m.length)*bytes<=140737488355328)(hbase:base<=w.heap.size)
 (h:∀v' w',Gat enc e k base w' v' (l++m)->Mod (fun q=>v.ownBlock=some q) w w'->K (a.put o.dst v') w'):o.wp P a w K Q:=by
 refine xJ s x t e z k bytes ho ht hi hzs hk0 base v l.length _ hs hown u m.length _ hx hsrc (fun c hc=>?_) h63 hlen hbase (fun v' w' ho' hg hv=>?_)
 ·obtain⟨y,_,hy⟩:=List.mem_flatMap.1 hc
  exact h1 y c hy
 ·refine h v' w' ?_ ((Mod.refl _ _).grown hg (fun k e _=>e))
  unfold Gat;rw[List.length_append,List.flatMap_append];exact ho'
end
end
section
open Go.Proofs.Tryz Go.Lib
section
variable{α:Type}[Inhabited α]
def atD(l:List α)(k:Nat):α:=l.getD k default
def swp(l:List α)(i j:Nat):List α:=(l.set i (atD l j)).set j (atD l i)
theorem swp_len(l:List α)(i j:Nat):(swp l i j).length=l.length:=by simp[swp]
theorem at_lt{l:List α}{k:Nat}(h:k<l.length):atD l k=l[k]:=by simp[atD,List.getD,h]
theorem swp_at{l:List α}{i j:Nat}(hi:i<l.length)(hj:j<l.length)(k:Nat):atD (swp l i j) k=if k=j then atD l i else if k=i then atD l j else atD l k:=by
 unfold swp;simp only[atD,List.getD,List.getElem?_set,List.length_set]
 by_cases h1:k=j
 ·subst h1;simp[hj]
 ·by_cases h2:k=i
  ·subst h2;simp[h1,Ne.symm h1,hi]
  ·simp[h1,h2,Ne.symm h1,Ne.symm h2]
theorem swp_perm{l:List α}{i j:Nat}(hi:i<l.length)(hj:j<l.length):(swp l i j).Perm l:=by
 have h:=Array.swap_perm (xs:=l.toArray) (i:=i) (j:=j) (by simpa using hi) (by simpa using hj);have h2:=Array.perm_iff_toList_perm.1 h
 have e:(l.toArray.swap i j (by simpa using hi) (by simpa using hj)).toList=swp l i j:=by
  simp[Array.swap,swp,atD,List.getD,hi,hj]
 rwa[e]at h2
variable{le:α->α->Prop}(hr:∀a,le a a)(ht:∀{a b c},le a b->le b c->le a c)
def par(i:Nat):Nat:=(i-1)/2
theorem par_lt{i:Nat}(h:0<i):par i<i:=by unfold par;omega
theorem par_of{i k:Nat}(h:par k=i)(hk:0<k):k=2*i+1\/k=2*i+2:=by unfold par at h;omega
def Heap(le:α->α->Prop)(l:List α)(n:Nat):Prop:=∀i,0<i->i<n->le (atD l (par i)) (atD l i)
def UpI(le:α->α->Prop)(l:List α)(n j:Nat):Prop:=
 (∀i,0<i->i<n->i≠j->le (atD l (par i)) (atD l i))/\(0<j->∀i,0<i->i<n->par i=j->le (atD l (par j)) (atD l i))
def DownI(le:α->α->Prop)(l:List α)(n j:Nat):Prop:=
 (∀i,0<i->i<n->par i≠j->le (atD l (par i)) (atD l i))/\(0<j->∀i,0<i->i<n->par i=j->le (atD l (par j)) (atD l i))
theorem UpI.done{l:List α}{n j:Nat}(h:UpI le l n j)(hj:j=0\/le (atD l (par j)) (atD l j)):Heap le l n:=fun i h0 hn=>by
 by_cases e:i=j
 ·subst e
  rcases hj with hj|hj
  ·omega
  ·exact hj
 ·exact h.1 i h0 hn e
theorem UpI.snoc{l:List α}{x:α}(h:Heap le l l.length):UpI le (l++[x]) (l.length+1) l.length:=by
 have e:∀k,k<l.length->atD (l++[x]) k=atD l k:=fun k hk=>by simp[atD,List.getD,List.getElem?_append_left hk]
 refine⟨fun i h0 hn hi=>?_,fun h0 i hi hn hp=>?_⟩
 ·rw[e i (by omega),e (par i) (by have:=par_lt h0;omega)]
  exact h i h0 (by omega)
 ·have:=par_of hp hi;omega
include ht in
theorem UpI.step{l:List α}{n j:Nat}(h:UpI le l n j)(hl:n<=l.length)(hj:j<n)(h0:0<j)(hle:le (atD l j) (atD l (par j))):UpI le (swp l (par j) j) n (par j):=by
 have hp:=par_lt h0;have A:=fun k=>swp_at (l:=l) (i:=par j) (j:=j) (by omega) (by omega) k;refine⟨fun i hi hn hne=>?_,fun hpp i hi hn hpi=>?_⟩
 ·rw[A i,A (par i)]
  by_cases h1:i=j
  ·subst h1
   rw[if_pos rfl,if_neg (by omega),if_pos rfl];exact hle
  ·rw[if_neg h1,if_neg hne]
   by_cases h2:par i=j
   ·rw[if_pos h2]
    exact h.2 h0 i hi hn h2
   ·rw[if_neg h2]
    by_cases h3:par i=par j
    ·rw[if_pos h3]
     have:=h.1 i hi hn h1;rw[h3]at this;exact ht hle this
    ·rw[if_neg h3]
     exact h.1 i hi hn h1
 ·have hq:=par_lt hpp
  rw[A i,A (par (par j))];rw[if_neg (by omega),if_neg (by omega)];have h1:=h.1 (par j) hpp (by omega) (by omega)
  by_cases e:i=j
  ·rw[if_pos e];exact h1
  ·rw[if_neg e,if_neg (by have:=par_lt hi;omega)]
   have h2:=h.1 i hi hn e;rw[hpi]at h2;exact ht h1 h2
theorem DownI.start{l:List α}{n:Nat}(h:Heap le l (n+1))(hl:n<l.length):DownI le (swp l 0 n) n 0:=by
 have A:=fun k=>swp_at (l:=l) (i:=0) (j:=n) (by omega) (by omega) k;refine⟨fun i h0 hn hp=>?_,fun h0=>by omega⟩;have:=par_lt h0
 rw[A i,A (par i),if_neg (show ¬i=n by omega),if_neg (show ¬i=0 by omega),if_neg (show ¬par i=n by omega),if_neg hp];exact h i h0 (by omega)
theorem DownI.leaf{l:List α}{n j:Nat}(h:DownI le l n j)(hn:n<=2*j+1):Heap le l n:=fun i h0 hi=>h.1 i h0 hi (fun e=>by have:=par_of e h0;omega)
include ht in
theorem DownI.stop{l:List α}{n j c:Nat}(h:DownI le l n j)(hle:le (atD l j) (atD l c))(hc:∀k,0<k->k<n->par k=j->le (atD l c) (atD l k)):Heap le l n:=fun i h0 hi=>by
 by_cases e:par i=j
 ·rw[e];exact ht hle (hc i h0 hi e)
 ·exact h.1 i h0 hi e
theorem DownI.step{l:List α}{n j c:Nat}(h:DownI le l n j)(hl:n<=l.length)(hcn:c<n)(hc0:0<c)(hcp:par c=j)(hle:le (atD l c) (atD l j))(hc:∀k,0<k->k<n->par k=j->le (atD l c) (atD l k)):DownI le (swp l j c) n c:=by
 have hjc:=par_lt hc0;rw[hcp]at hjc;have A:=fun k=>swp_at (l:=l) (i:=j) (j:=c) (by omega) (by omega) k;refine⟨fun i hi hn hne=>?_,fun _ i hi hn hpi=>?_⟩
 ·rw[A i,A (par i),if_neg hne]
  by_cases h1:i=c
  ·rw[if_pos h1,if_pos (by rw[h1];exact hcp)]
   exact hle
  ·rw[if_neg h1]
   by_cases h2:par i=j
   ·rw[if_pos h2,if_neg (by have:=par_lt hi;omega)]
    exact hc i hi hn h2
   ·rw[if_neg h2]
    by_cases h3:i=j
    ·subst h3
     rw[if_pos rfl];exact h.2 hi c hc0 hcn hcp
    ·rw[if_neg h3]
     exact h.1 i hi hn h2
 ·have:=par_lt hi
  rw[A i,A (par c),hcp,if_neg (by omega),if_pos rfl,if_neg (by omega),if_neg (by omega)];have:=h.1 i hi hn (by omega)
  rwa[hpi]at this
include hr ht in
theorem Heap.top{l:List α}{n:Nat}(h:Heap le l n):∀k,k<n->le (atD l 0) (atD l k):=fun k=>by
 induction k using Nat.strongRecOn with
 |ind k ih=>
  intro hk
  by_cases h0:k=0
  ·subst h0;exact hr _
  ·have hp:=par_lt (i:=k) (by omega)
   exact ht (ih _ hp (by omega)) (h k (by omega) hk)
theorem Heap.take{l:List α}{n:Nat}(h:Heap le l n):Heap le (l.take n) n:=fun i h0 hi=>by
 have e:∀k,k<n->atD (l.take n) k=atD l k:=fun k hk=>by simp[atD,List.getD,List.getElem?_take_of_lt hk]
 rw[e i hi,e (par i) (by have:=par_lt h0;omega)];exact h i h0 hi
end
def leB(a b:List UInt8):Prop:=¬b<a
theorem leB_refl(a:List UInt8):leB a a:=fun h=>by
 have:=List.lt_irrefl a;exact this h
theorem leB_trans{a b c:List UInt8}(h:leB a b)(k:leB b c):leB a c:=fun hc=>by
 rcases ltB_tri a b with h1|h1|h1
 ·exact k (jG hc h1)
 ·subst h1;exact k hc
 ·exact h h1
theorem leB_of_lt{a b:List UInt8}(h:a<b):leB a b:=fun k=>List.lt_irrefl a (jG h k)
theorem sorted_snoc{out:List (List UInt8)}{x:List UInt8}(h:out.Pairwise (fun a b=>a<b))(hx:∀a∈out,a<x):(out++[x]).Pairwise (fun a b=>a<b):=by
 rw[List.pairwise_append];exact⟨h,by simp,fun a ha b hb=>by simp at hb;subst hb;exact hx a ha⟩
end
end Go.Proofs.YtjeonjoifjbohaaGreat
